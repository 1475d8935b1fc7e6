/- What functions of the program compute, and that the model's run computes it. Conditions: as stated. -/
import Derived.Test.YtoekkpmeeclpeaaGreatCz
import Derived.Test.YtoekkpmeeclpeaaGreatChecked
import Derived.KernelRfl
open Go.Ev Go
noncomputable section
namespace Go.Proofs.YtoekkpmeeclpeaaGreat.S
abbrev prog:Program:=Tryz.prog
theorem mixed:prog.follows .mixedOrders=true:=by kernel_rfl
abbrev de(f:FuncId)(sp:cR):Prop:=sG prog f sp
def bI:II:=fun f=>(Nat.testBit 2270500819524007613173332302989145990905553471523402345790577154338382141102844030861085522116560290592 f,(iV [(10,[true,false,true]),(11,[true]),(12,[true]),(13,[true]),(15,[true]),(17,[true,false,true]),(18,[true]),(21,[true,true]),(24,[true,false,false]),(25,[true]),(26,[true,false,false]),(27,[true,false,false,false]),(28,[true,false,false,false]),(29,[true,false]),(30,[true]),(33,[true,false]),(37,[true]),(38,[true,false,false,false]),(39,[true,false,false]),(40,[true,false,false,false]),(41,[true]),(42,[true,false,false]),(57,[true,false,false]),(58,[true,false,false]),(59,[true,false,false]),(60,[true,false,false]),(61,[true,false,false]),(62,[true,false,false]),(65,[true,false,false,false]),(66,[true,false]),(68,[true,false]),(70,[true,false,false,false,false]),(71,[true,false,false,false,false,false]),(72,[true,false,false]),(80,[true,false,false]),(82,[true,false,false,false,false]),(83,[true,false,false,false,false,false]),(84,[true,false,false]),(86,[true,false,false]),(87,[true,false,false]),(88,[true,false,false]),(91,[true,false,false,false]),(92,[true,false]),(93,[true,false,false]),(109,[true,false,false]),(112,[true,false,false]),(113,[true,false]),(114,[true,false,false,false]),(115,[true]),(116,[true,false]),(133,[true,false]),(143,[true,false]),(144,[true,false]),(145,[true,false,false,false]),(146,[true,false,false]),(147,[true,false]),(155,[true,false,false]),(172,[true,false,false,false]),(202,[true]),(209,[true,false,false,false]),(212,[true,false]),(220,[true,false]),(234,[true,false]),(237,[true]),(238,[true]),(259,[true,false,false,false,false]),(263,[true,false,false]),(286,[true,false,false,false]),(296,[true,false,false,false]),(331,[true,false,false,false,false])] f).getD [])
def apR:II:=fun f=>if f=1000000000 then(true,[])else bI f
def apQ:II:=fun f=>if f=1000000002 then(true,[])else bI f
abbrev nU{α β γ:Type}(f:β->γ)(x:α×β):α×γ:=(x.1,f x.2)
abbrev kU{α β γ:Type}(v:α)(f:β->γ)(x:α×β):α×γ:=(v,f x.2)
abbrev bd:=Int×Int×Int×Int×Int×Int
abbrev bd.A(x:bd):=x.1
abbrev bd.jD(x:bd):=x.2.1
abbrev bd.B(x:bd):=x.2.2.1
abbrev bd.jC(x:bd):=x.2.2.2.1
abbrev bd.xT(x:bd):=x.2.2.2.2.1
abbrev bd.rI(x:bd):=x.2.2.2.2.2
abbrev dY:=Int×Int
abbrev dY.At(x:dY):=x.1
abbrev dY.fU(x:dY):=x.2
abbrev am:=Int×Sl bd×Sl dY
abbrev am.ao(x:am):=x.1
abbrev am.aS(x:am):=x.2.1
abbrev am.aU(x:am):=x.2.2
abbrev aA:=am×Sl (Sl Int)×Sl Int×Int×Int×Int×Int×Int×Int
abbrev aA.T(x:aA):=x.1
abbrev aA.dI(x:aA):=x.2.1
abbrev aA.iU(x:aA):=x.2.2.1
abbrev aA.BF(x:aA):=x.2.2.2.1
abbrev aA.HA(x:aA):=x.2.2.2.2.1
abbrev aA.qf(x:aA):=x.2.2.2.2.2.1
abbrev aA.zQ(x:aA):=x.2.2.2.2.2.2.1
abbrev aA.A7(x:aA):=x.2.2.2.2.2.2.2.1
abbrev aA.Aw(x:aA):=x.2.2.2.2.2.2.2.2
abbrev ck:=Int×Arr 4 Int×Arr 4 Int
abbrev ck.fU(x:ck):=x.1
abbrev ck.Val(x:ck):=x.2.1
abbrev ck.QA(x:ck):=x.2.2
abbrev cz:=Int×Int×Int
abbrev cz.bP(x:cz):=x.1
abbrev cz.F(x:cz):=x.2.1
abbrev cz.V(x:cz):=x.2.2
abbrev bR:=Int×ck×Sl cz
abbrev bR.KP(x:bR):=x.1
abbrev bR.M(x:bR):=x.2.1
abbrev bR.Ct(x:bR):=x.2.2
abbrev aV:=Int×bR×Bool
abbrev aV.bP(x:aV):=x.1
abbrev aV.R(x:aV):=x.2.1
abbrev aV.Uv(x:aV):=x.2.2
abbrev ac:=Int×Int×Int×Int×Int×Int×Int×Int×Int×Sl aV
abbrev ac.bP(x:ac):=x.1
abbrev ac.Sw(x:ac):=x.2.1
abbrev ac.U(x:ac):=x.2.2.1
abbrev ac.Rd(x:ac):=x.2.2.2.1
abbrev ac.T1(x:ac):=x.2.2.2.2.1
abbrev ac.T2(x:ac):=x.2.2.2.2.2.1
abbrev ac.jb(x:ac):=x.2.2.2.2.2.2.1
abbrev ac.Of(x:ac):=x.2.2.2.2.2.2.2.1
abbrev ac.Code(x:ac):=x.2.2.2.2.2.2.2.2.1
abbrev ac.gW(x:ac):=x.2.2.2.2.2.2.2.2.2
abbrev bc:=Int×Int×Int×Int×ac
abbrev bc.bP(x:bc):=x.1
abbrev bc.lh(x:bc):=x.2.1
abbrev bc.N(x:bc):=x.2.2.1
abbrev bc.Up(x:bc):=x.2.2.2.1
abbrev bc.M(x:bc):=x.2.2.2.2
abbrev y2:Ty:=.st (.pr I6 (.pr I6 (.pr I6 (.pr I6 (.pr I6 I6)))))
abbrev y3:Ty:=.st (.pr I6 I6)
abbrev y1:Ty:=.st (.pr I6 (.pr (.sl y2) (.sl y3)))
abbrev y0:Ty:=.st (.pr y1 (.pr (.sl (.sl (.i .u64))) (.pr (.sl I6) (.pr I6 (.pr I6 (.pr I6 (.pr I6 (.pr I6 I6))))))))
abbrev y8:Ty:=.st (.pr I6 (.pr (.ar 4 I6) (.ar 4 I6)))
abbrev y9:Ty:=.st (.pr I6 (.pr I6 I6))
abbrev y7:Ty:=.st (.pr I6 (.pr y8 (.sl y9)))
abbrev y6:Ty:=.st (.pr I6 (.pr y7 .b))
abbrev y5:Ty:=.st (.pr I6 (.pr I6 (.pr I6 (.pr I6 (.pr I6 (.pr I6 (.pr I6 (.pr I6 (.pr I6 (.sl y6))))))))))
abbrev y4:Ty:=.st (.pr I6 (.pr I6 (.pr I6 (.pr I6 y5))))
abbrev bJ:=Int×Int
abbrev bJ.sw(x:bJ):=x.1
abbrev bJ.Lb(x:bJ):=x.2
abbrev aM:=Int×Int×Int
abbrev aM.fU(x:aM):=x.1
abbrev aM.To(x:aM):=x.2.1
abbrev aM.ku(x:aM):=x.2.2
abbrev aD:=Int×Int×Int×Int
abbrev aD.Sw(x:aD):=x.1
abbrev aD.adz(x:aD):=x.2.1
abbrev aD.fU(x:aD):=x.2.2.1
abbrev aD.CC(x:aD):=x.2.2.2
abbrev bj:=Int×Int×Sl Int
abbrev bj.No(x:bj):=x.1
abbrev bj.At(x:bj):=x.2.1
abbrev bj.jm(x:bj):=x.2.2
abbrev aC:=Sl aD×Sl bj×Int×Int×Int×Int
abbrev aC.sH(x:aC):=x.1
abbrev aC.aF(x:aC):=x.2.1
abbrev aC.aaO(x:aC):=x.2.2.1
abbrev aC.jb(x:aC):=x.2.2.2.1
abbrev aC.QD(x:aC):=x.2.2.2.2.1
abbrev aC.To(x:aC):=x.2.2.2.2.2
abbrev HI:Ty:=.st (.pr .b (.pr y3 I6))
abbrev bl:=Int×Int
abbrev bl.Lo(x:bl):=x.1
abbrev bl.Hi(x:bl):=x.2
abbrev aZ:=Bool×bl×Int
abbrev aZ.sI(x:aZ):=x.1
abbrev aZ.S(x:aZ):=x.2.1
abbrev aZ.At(x:aZ):=x.2.2
abbrev dE:=Int×Int×Int×Int×Int×Int
abbrev dE.bP(x:dE):=x.1
abbrev aX:=Int×aC×Int×Mp Int ac×Int×Int×Int×Int×Arr 8 aZ×Arr 8 Int×Sl ac×Sl dE
abbrev aX.cI(x:aX):=x.1
abbrev aX.eM(x:aX):=x.2.1
abbrev aX.nv(x:aX):=x.2.2.1
abbrev aX.eG(x:aX):=x.2.2.2.1
abbrev aX.gE(x:aX):=x.2.2.2.2.1
abbrev aX.bH(x:aX):=x.2.2.2.2.2.1
abbrev aX.skip(x:aX):=x.2.2.2.2.2.2.1
abbrev aX.tI(x:aX):=x.2.2.2.2.2.2.2.1
abbrev aX.vF(x:aX):=x.2.2.2.2.2.2.2.2.1
abbrev aX.Au(x:aX):=x.2.2.2.2.2.2.2.2.2.1
abbrev aX.out(x:aX):=x.2.2.2.2.2.2.2.2.2.2.1
abbrev aX.gq(x:aX):=x.2.2.2.2.2.2.2.2.2.2.2
abbrev xn:Ty:=.st (.pr I6 (.pr I6 (.pr I6 I6)))
abbrev y14:Ty:=.st (.pr I6 (.pr I6 (.sl I6)))
abbrev Eu:Ty:=.st (.pr (.sl xn) (.pr (.sl y14) (.pr I6 (.pr I6 (.pr I6 I6)))))
abbrev y11:Ty:=.st (.pr I6 (.pr Eu (.pr I6 (.pr (.mp I6 y5) (.pr I6 (.pr I6 (.pr I6 (.pr I6 (.pr (.ar 8 HI) (.pr (.ar 8 I6) (.pr (.sl y5) (.sl y2))))))))))))
def h0:Sh:=.st (.pr (.x I6) (.pr (.x Eu) (.pr (.x I6) (.pr (.mp I6 y5) (.pr (.x I6) (.pr (.x I6) (.pr (.x I6) (.pr (.x I6) (.pr (.x (.ar 8 HI)) (.pr (.x (.ar 8 I6)) (.pr (.os y5) (.pr (.os y2) .ni))))))))))))
def aX.agF(x:aX)(v9:Arr 8 Int):aX:=(nU<|nU<|nU<|nU<|nU<|nU<|nU<|nU<|nU<|kU v9<|id) x
abbrev ap:=Int×Int×Bool×Int×Int×Int×Bool×Bool×Int
abbrev ap.U(x:ap):=x.1
abbrev ap.lh(x:ap):=x.2.1
abbrev ap.hZ(x:ap):=x.2.2.1
abbrev ap.dF(x:ap):=x.2.2.2.1
abbrev ap.At(x:ap):=x.2.2.2.2.1
abbrev ap.fx(x:ap):=x.2.2.2.2.2.1
abbrev ap.lf(x:ap):=x.2.2.2.2.2.2.1
abbrev ap.bD(x:ap):=x.2.2.2.2.2.2.2.1
abbrev ap.ik(x:ap):=x.2.2.2.2.2.2.2.2
abbrev aI:=Int×Int×Int×Int
abbrev aI.bP(x:aI):=x.1
abbrev aI.U(x:aI):=x.2.1
abbrev aI.A(x:aI):=x.2.2.1
abbrev aI.B(x:aI):=x.2.2.2
abbrev aj:=aA×Sl (Sl (Sl Int))×Sl aI×ap×Int×aC×Int×Mp Int ac×Int×Int×Int×Int×Arr 8 aZ×Arr 8 Int×Sl ac×Sl dE
abbrev aj.c(x:aj):=x.1
abbrev aj.gp(x:aj):=x.2.1
abbrev aj.l(x:aj):=x.2.2.1
abbrev aj.bK(x:aj):=x.2.2.2.1
abbrev aj.cX(x:aj):=x.2.2.2.2.1
abbrev aj.dj(x:aj):=x.2.2.2.2.2.1
abbrev aj.oE(x:aj):=x.2.2.2.2.2.2.1
abbrev aj.cM(x:aj):=x.2.2.2.2.2.2.2.1
abbrev aj.Eb(x:aj):=x.2.2.2.2.2.2.2.2.1
abbrev aj.AA(x:aj):=x.2.2.2.2.2.2.2.2.2.1
abbrev aj.jT(x:aj):=x.2.2.2.2.2.2.2.2.2.2.1
abbrev aj.xo(x:aj):=x.2.2.2.2.2.2.2.2.2.2.2.1
abbrev aj.oD(x:aj):=x.2.2.2.2.2.2.2.2.2.2.2.2.1
abbrev aj.qg(x:aj):=x.2.2.2.2.2.2.2.2.2.2.2.2.2.1
abbrev aj.oC(x:aj):=x.2.2.2.2.2.2.2.2.2.2.2.2.2.2.1
abbrev aj.xp(x:aj):=x.2.2.2.2.2.2.2.2.2.2.2.2.2.2.2
abbrev Ea:Ty:=.st (.pr I6 (.pr I6 (.pr .b (.pr I6 (.pr I6 (.pr I6 (.pr .b (.pr .b I6))))))))
abbrev kp:Ty:=.st (.pr y0 (.pr (.sl (.sl (.sl I6))) (.pr (.sl xn) (.pr Ea y11))))
def h1:Sh:=.st (.pr (.x y0) (.pr (.x (.sl (.sl (.sl I6)))) (.pr (.os xn) (.pr (.x Ea) (.pr (.st (.pr (.x I6) (.pr (.x Eu) (.pr (.x I6) (.pr (.mp I6 y5) (.pr (.x I6) (.pr (.x I6) (.pr (.x I6) (.pr (.x I6) (.pr (.x (.ar 8 HI)) (.pr (.x (.ar 8 I6)) (.pr (.os y5) (.pr (.os y2) .ni))))))))))))) .ni)))))
def aj.kF(x:aj)(v13:Arr 8 Int)(v14:Sl ac):aj:=(nU<|nU<|nU<|nU<|nU<|nU<|nU<|nU<|nU<|nU<|nU<|nU<|nU<|kU v13<|kU v14<|id) x
def aj.wW(x:aj)(v11:Int)(v14:Sl ac):aj:=(nU<|nU<|nU<|nU<|nU<|nU<|nU<|nU<|nU<|nU<|nU<|kU v11<|nU<|nU<|kU v14<|id) x
def aj.vK(x:aj)(v11:Int):aj:=(nU<|nU<|nU<|nU<|nU<|nU<|nU<|nU<|nU<|nU<|nU<|kU v11<|id) x
def aj.wx(x:aj)(v14:Sl ac):aj:=(nU<|nU<|nU<|nU<|nU<|nU<|nU<|nU<|nU<|nU<|nU<|nU<|nU<|nU<|kU v14<|id) x
def aj.gy(x:aj)(v7:Mp Int ac)(v10:Int):aj:=(nU<|nU<|nU<|nU<|nU<|nU<|nU<|kU v7<|nU<|nU<|kU v10<|id) x
def aj.RZ(x:aj)(v2:Sl aI)(v3:ap):aj:=(nU<|nU<|kU v2<|kU v3<|id) x
def aj.iG(x:aj)(v4:Int):aj:=(nU<|nU<|nU<|nU<|kU v4<|id) x
def aj.pd(x:aj)(v6:Int)(v9:Int)(v10:Int):aj:=(nU<|nU<|nU<|nU<|nU<|nU<|kU v6<|nU<|nU<|kU v9<|kU v10<|id) x
def aj.pX(x:aj)(v6:Int)(v9:Int):aj:=(nU<|nU<|nU<|nU<|nU<|nU<|kU v6<|nU<|nU<|kU v9<|id) x
def aj.CO(x:aj)(v10:Int):aj:=(nU<|nU<|nU<|nU<|nU<|nU<|nU<|nU<|nU<|nU<|kU v10<|id) x
def aj.nH(x:aj)(v7:Mp Int ac):aj:=(nU<|nU<|nU<|nU<|nU<|nU<|nU<|kU v7<|id) x
def aj.yx(x:aj)(v8:Int):aj:=(nU<|nU<|nU<|nU<|nU<|nU<|nU<|nU<|kU v8<|id) x
def aj.xU(x:aj)(v8:Int)(v14:Sl ac):aj:=(nU<|nU<|nU<|nU<|nU<|nU<|nU<|nU<|kU v8<|nU<|nU<|nU<|nU<|nU<|kU v14<|id) x
def aj.A9(x:aj)(v15:Sl dE):aj:=(nU<|nU<|nU<|nU<|nU<|nU<|nU<|nU<|nU<|nU<|nU<|nU<|nU<|nU<|nU<|fun _=>v15) x
def aj.iM(x:aj)(v4:Int)(v9:Int)(v11:Int):aj:=(nU<|nU<|nU<|nU<|kU v4<|nU<|nU<|nU<|nU<|kU v9<|nU<|kU v11<|id) x
def aj.yy(x:aj)(v9:Int):aj:=(nU<|nU<|nU<|nU<|nU<|nU<|nU<|nU<|nU<|kU v9<|id) x
def aj.pc(x:aj)(v4:Int)(v6:Int):aj:=(nU<|nU<|nU<|nU<|kU v4<|nU<|kU v6<|id) x
def aj.AB(x:aj)(v12:Arr 8 aZ):aj:=(nU<|nU<|nU<|nU<|nU<|nU<|nU<|nU<|nU<|nU<|nU<|nU<|kU v12<|id) x
def aj.ox(x:aj)(v14:Sl ac)(v15:Sl dE):aj:=(nU<|nU<|nU<|nU<|nU<|nU<|nU<|nU<|nU<|nU<|nU<|nU<|nU<|nU<|kU v14<|fun _=>v15) x
abbrev bT:=Int×Int×Int
abbrev bT.I(x:bT):=x.1
abbrev bT.J(x:bT):=x.2.1
abbrev bT.Gap(x:bT):=x.2.2
abbrev gX:=Int×Sl aV
abbrev gX.Sw(x:gX):=x.1
abbrev gX.gW(x:gX):=x.2
abbrev y17:Ty:=.st (.pr I6 (.sl y6))
def aj.kE(x:aj)(v5:aC)(v10:Int):aj:=(nU<|nU<|nU<|nU<|nU<|kU v5<|nU<|nU<|nU<|nU<|kU v10<|id) x
abbrev cZ:=Int×Int×Int
abbrev cZ.fU(x:cZ):=x.1
abbrev cZ.To(x:cZ):=x.2.1
abbrev cZ.ku(x:cZ):=x.2.2
abbrev ba:=Int×Int×Int×Int
abbrev ba.bP(x:ba):=x.1
abbrev ba.U(x:ba):=x.2.1
abbrev ba.A(x:ba):=x.2.2.1
abbrev ba.B(x:ba):=x.2.2.2
abbrev ay:=Int×Int×Bool×Int×Int×Int×Bool×Bool×Int
abbrev ay.U(x:ay):=x.1
abbrev ay.lh(x:ay):=x.2.1
abbrev ay.hZ(x:ay):=x.2.2.1
abbrev ay.dF(x:ay):=x.2.2.2.1
abbrev ay.At(x:ay):=x.2.2.2.2.1
abbrev ay.fx(x:ay):=x.2.2.2.2.2.1
abbrev ay.lf(x:ay):=x.2.2.2.2.2.2.1
abbrev ay.bD(x:ay):=x.2.2.2.2.2.2.2.1
abbrev ay.ik(x:ay):=x.2.2.2.2.2.2.2.2
abbrev ce:=Int×Int×Int×Int
abbrev ce.Sw(x:ce):=x.1
abbrev ce.adz(x:ce):=x.2.1
abbrev ce.fU(x:ce):=x.2.2.1
abbrev ce.CC(x:ce):=x.2.2.2
abbrev bU:=Int×Int×Sl Int
abbrev bU.No(x:bU):=x.1
abbrev bU.At(x:bU):=x.2.1
abbrev bU.jm(x:bU):=x.2.2
abbrev aQ:=Sl ce×Sl bU×Int×Int×Int×Int
abbrev aQ.sH(x:aQ):=x.1
abbrev aQ.aF(x:aQ):=x.2.1
abbrev aQ.aaO(x:aQ):=x.2.2.1
abbrev aQ.jb(x:aQ):=x.2.2.2.1
abbrev aQ.QD(x:aQ):=x.2.2.2.2.1
abbrev aQ.To(x:aQ):=x.2.2.2.2.2
abbrev bo:=Int×Int
abbrev bo.Lo(x:bo):=x.1
abbrev bo.Hi(x:bo):=x.2
abbrev bE:=Bool×bo×Int
abbrev bE.sI(x:bE):=x.1
abbrev bE.S(x:bE):=x.2.1
abbrev bE.At(x:bE):=x.2.2
abbrev ah:=aA×Sl (Sl (Sl Int))×Sl ba×ay×Int×aQ×Int×Sl ac×Int×Bool×Int×Sl Int×Bool×Int×Sl bE×Sl Bool×Sl Int×Sl ac×Sl dE
abbrev ah.C(x:ah):=x.1
abbrev ah.lg(x:ah):=x.2.1
abbrev ah.L(x:ah):=x.2.2.1
abbrev ah.At(x:ah):=x.2.2.2.1
abbrev ah.gR(x:ah):=x.2.2.2.2.1
abbrev ah.ja(x:ah):=x.2.2.2.2.2.1
abbrev ah.I8(x:ah):=x.2.2.2.2.2.2.1
abbrev ah.fN(x:ah):=x.2.2.2.2.2.2.2.1
abbrev ah.Gz(x:ah):=x.2.2.2.2.2.2.2.2.1
abbrev ah.nw(x:ah):=x.2.2.2.2.2.2.2.2.2.1
abbrev ah.IJ(x:ah):=x.2.2.2.2.2.2.2.2.2.2.1
abbrev ah.jB(x:ah):=x.2.2.2.2.2.2.2.2.2.2.2.1
abbrev ah.zD(x:ah):=x.2.2.2.2.2.2.2.2.2.2.2.2.1
abbrev ah.xL(x:ah):=x.2.2.2.2.2.2.2.2.2.2.2.2.2.1
abbrev ah.GG(x:ah):=x.2.2.2.2.2.2.2.2.2.2.2.2.2.2.1
abbrev ah.DA(x:ah):=x.2.2.2.2.2.2.2.2.2.2.2.2.2.2.2.1
abbrev ah.xl(x:ah):=x.2.2.2.2.2.2.2.2.2.2.2.2.2.2.2.2.1
abbrev ah.ik(x:ah):=x.2.2.2.2.2.2.2.2.2.2.2.2.2.2.2.2.2.1
abbrev ah.l5(x:ah):=x.2.2.2.2.2.2.2.2.2.2.2.2.2.2.2.2.2.2
abbrev ou:Ty:=.st (.pr y0 (.pr (.sl (.sl (.sl I6))) (.pr (.sl xn) (.pr Ea (.pr I6 (.pr Eu (.pr I6 (.pr (.sl y5) (.pr I6 (.pr .b (.pr I6 (.pr (.sl I6) (.pr .b (.pr I6 (.pr (.sl HI) (.pr (.sl .b) (.pr (.sl I6) (.pr (.sl y5) (.sl y2)))))))))))))))))))
def h2:Sh:=.st (.pr (.x y0) (.pr (.x (.sl (.sl (.sl I6)))) (.pr (.os xn) (.pr (.x Ea) (.pr (.x I6) (.pr (.x Eu) (.pr (.x I6) (.pr (.os y5) (.pr (.x I6) (.pr (.x .b) (.pr (.x I6) (.pr (.os I6) (.pr (.x .b) (.pr (.x I6) (.pr (.os HI) (.pr (.os .b) (.pr (.os I6) (.pr (.os y5) (.pr (.os y2) .ni)))))))))))))))))))
def ah.CD(x:ah)(v14:Sl bE)(v15:Sl Bool)(v16:Sl Int):ah:=(nU<|nU<|nU<|nU<|nU<|nU<|nU<|nU<|nU<|nU<|nU<|nU<|nU<|nU<|kU v14<|kU v15<|kU v16<|id) x
def aj.CP(x:aj)(v5:aC):aj:=(nU<|nU<|nU<|nU<|nU<|kU v5<|id) x
def aj.ov(x:aj)(v4:Int)(v5:aC):aj:=(nU<|nU<|nU<|nU<|kU v4<|kU v5<|id) x
abbrev eR:=Sl ce×Sl bU×Int×Int×Int×Int
abbrev eR.sH(x:eR):=x.1
abbrev eR.aF(x:eR):=x.2.1
abbrev eR.aaO(x:eR):=x.2.2.1
abbrev eR.jb(x:eR):=x.2.2.2.1
abbrev eR.QD(x:eR):=x.2.2.2.2.1
abbrev eR.To(x:eR):=x.2.2.2.2.2
def h3:Sh:=.st (.pr (.x (.sl xn)) (.pr (.os y14) (.pr (.x I6) (.pr (.x I6) (.pr (.x I6) (.pr (.x I6) .ni))))))
def ah.aeW(x:ah)(v2:Sl ba)(v3:ay):ah:=(nU<|nU<|kU v2<|kU v3<|id) x
def ah.KQ(x:ah)(v5:aQ)(v11:Sl Int):ah:=(nU<|nU<|nU<|nU<|nU<|kU v5<|nU<|nU<|nU<|nU<|nU<|kU v11<|id) x
def ah.Us(x:ah)(v18:Sl dE):ah:=(nU<|nU<|nU<|nU<|nU<|nU<|nU<|nU<|nU<|nU<|nU<|nU<|nU<|nU<|nU<|nU<|nU<|nU<|fun _=>v18) x
def ah.Fh(x:ah)(v4:Int):ah:=(nU<|nU<|nU<|nU<|kU v4<|id) x
def ah.Dx(x:ah)(v7:Sl ac)(v8:Int)(v17:Sl ac):ah:=(nU<|nU<|nU<|nU<|nU<|nU<|nU<|kU v7<|kU v8<|nU<|nU<|nU<|nU<|nU<|nU<|nU<|nU<|kU v17<|id) x
def ah.CE(x:ah)(v15:Sl Bool)(v16:Sl Int)(v17:Sl ac):ah:=(nU<|nU<|nU<|nU<|nU<|nU<|nU<|nU<|nU<|nU<|nU<|nU<|nU<|nU<|nU<|kU v15<|kU v16<|kU v17<|id) x
def ah.GD(x:ah)(v12:Bool)(v13:Int)(v17:Sl ac):ah:=(nU<|nU<|nU<|nU<|nU<|nU<|nU<|nU<|nU<|nU<|nU<|nU<|kU v12<|kU v13<|nU<|nU<|nU<|kU v17<|id) x
def ah.Er(x:ah)(v12:Bool)(v13:Int):ah:=(nU<|nU<|nU<|nU<|nU<|nU<|nU<|nU<|nU<|nU<|nU<|nU<|kU v12<|kU v13<|id) x
def ah.anW(x:ah)(v17:Sl ac):ah:=(nU<|nU<|nU<|nU<|nU<|nU<|nU<|nU<|nU<|nU<|nU<|nU<|nU<|nU<|nU<|nU<|nU<|kU v17<|id) x
def ah.aaK(x:ah)(v11:Sl Int):ah:=(nU<|nU<|nU<|nU<|nU<|nU<|nU<|nU<|nU<|nU<|nU<|kU v11<|id) x
def ah.KN(x:ah)(v7:Sl ac):ah:=(nU<|nU<|nU<|nU<|nU<|nU<|nU<|kU v7<|id) x
def ah.Ic(x:ah)(v9:Bool)(v10:Int):ah:=(nU<|nU<|nU<|nU<|nU<|nU<|nU<|nU<|nU<|kU v9<|kU v10<|id) x
def ah.Mt(x:ah)(v8:Int)(v17:Sl ac):ah:=(nU<|nU<|nU<|nU<|nU<|nU<|nU<|nU<|kU v8<|nU<|nU<|nU<|nU<|nU<|nU<|nU<|nU<|kU v17<|id) x
def ah.KV(x:ah)(v6:Int)(v9:Bool):ah:=(nU<|nU<|nU<|nU<|nU<|nU<|kU v6<|nU<|nU<|kU v9<|id) x
def ah.IL(x:ah)(v6:Int)(v9:Bool)(v11:Sl Int):ah:=(nU<|nU<|nU<|nU<|nU<|nU<|kU v6<|nU<|nU<|kU v9<|nU<|kU v11<|id) x
def ah.zB(x:ah)(v4:Int)(v9:Bool)(v12:Bool):ah:=(nU<|nU<|nU<|nU<|kU v4<|nU<|nU<|nU<|nU<|kU v9<|nU<|nU<|kU v12<|id) x
def ah.KR(x:ah)(v4:Int)(v6:Int):ah:=(nU<|nU<|nU<|nU<|kU v4<|nU<|kU v6<|id) x
def ah.anY(x:ah)(v14:Sl bE):ah:=(nU<|nU<|nU<|nU<|nU<|nU<|nU<|nU<|nU<|nU<|nU<|nU<|nU<|nU<|kU v14<|id) x
def ah.Dz(x:ah)(v4:Int)(v5:aQ):ah:=(nU<|nU<|nU<|nU<|kU v4<|kU v5<|id) x
def ah.Ie(x:ah)(v17:Sl ac)(v18:Sl dE):ah:=(nU<|nU<|nU<|nU<|nU<|nU<|nU<|nU<|nU<|nU<|nU<|nU<|nU<|nU<|nU<|nU<|nU<|kU v17<|fun _=>v18) x
def aJ[Bx]{α β:Type}(f:α->Option (α⊕β))(a:α):Option β:=Bx.lp.run f a
def pT[Bx](k:IntKind)(a b:Int):Int:=bif aqT (bif Bx.c then[1]else[])then qN k a b else Ev.pT k a b
def CL[Bx](k:IntKind)(a b:Int):Int:=bif aqT (bif Bx.c then[1]else[])then Qs k a b else Ev.CL k a b
def fQ[Bx](k:IntKind)(a b:Int):Int:=bif aqT (bif Bx.c then[1]else[])then sF k a b else Ev.fQ k a b
abbrev LT(σ β:Type):=σ->Option (σ⊕β)
abbrev j0:J:=jO [] [] []
abbrev xI:JV:=.x I6
abbrev xB:JV:=.x .b
abbrev b8(l r:List Ty)(f:D9 (uk ((l.map fun t=>(false,Sh.x t)).map (·.2)))->Option (D7 [(r.map .x,[])])):cR:=⟨l.map fun t=>(false,.x t),[(r.map .x,[])],true,[],f⟩
abbrev l7(l r:List Ty)(f:D9 (uk ((l.map fun t=>(false,Sh.x t)).map (·.2)))->Option (D7 [(r.map .x,[])])):cR:=⟨l.map fun t=>(false,.x t),[(r.map .x,[])],false,[],f⟩
abbrev l6(t:Ty)(h:Sh)(l r:List Ty)(f:D9 (uk (((true,Sh.pb t h)::l.map fun t=>(false,Sh.x t)).map (·.2)))->Option (D7 [(r.map .x,[.pb t h])])):cR:=⟨(true,.pb t h)::l.map fun t=>(false,.x t),[(r.map .x,[.pb t h])],false,true::l.map fun _=>false,f⟩
theorem tC{f:FuncId}{sp:cR}{tb:Lv}(h:sG prog f sp)(ht:vi prog tb):vi prog ((f,.sp sp)::tb):=.cons h ht
theorem tN:vi prog []:=.nil
theorem l8[Bx]{P:Program}(hm:P.follows .mixedOrders=true)(bI:II){f:FuncId}{tb:Lv}(an:List (Nat×An))(hT:vi P tb){sp:cR}(h:(WU sp,fun p=>evF Bx.lp tb (Qk P (flB bI) f sp.ps.length an) sp.ps sp.al p)=(true,sp.fn)):sG P f sp:=afl hm hT (np:=sp.ps.length) (by rw[show WU sp=true from congrArg Prod.fst h];simp) (congrArg Prod.snd h)
theorem b7[Bx]{f:FuncId}{tb:Lv}(an:List (Nat×An))(hT:vi prog tb){sp:cR}(h:(WU sp,fun p=>evF Bx.lp tb (Qk prog (flB bI) f sp.ps.length an) sp.ps sp.al p)=(true,sp.fn):=by kernel_rfl):sG prog f sp:=l8 mixed bI an hT h
abbrev Bn:Bx:=⟨lpN 100000,true⟩
variable[Bx]
def uV(b:aA):LT Int (Bool⊕Unit):=fun a=>
 bif decide (a<(b.dI.l.length:Int))then(bS a b.dI.l.length).bind fun c=>
 bif decide (((gt b.dI.l c).l.length:Int)>30)then some (.inr (.inl false))else
 some (.inl (wr .i64 (a+1)))else
 some (.inr (.inr ()))
def uU(a:Sl bc)(c:Int):LT Int (Bool⊕Unit):=fun b=>
 (bS c a.l.length).bind fun f=>
 bif decide (b<((gt a.l f).M.gW.l.length:Int))then(bS c a.l.length).bind fun d=>
 (bS b (gt a.l d).M.gW.l.length).bind fun e=>
 bif decide (((gt (gt a.l d).M.gW.l e).R.Ct.l.length:Int)>16)then some (.inr (.inl false))else
 some (.inl (wr .i64 (b+1)))else
 some (.inr (.inr ()))
def Dd(a:Sl bc):LT Int (Bool⊕Unit):=fun b=>
 bif decide (b<(a.l.length:Int))then(bif decide (b>79)then some true else
 ((bS b a.l.length).bind fun g=>
 bif decide ((gt a.l g).lh<0)then some true else
 (bS b a.l.length).bind fun e=>
 bif decide ((gt a.l e).lh>1099511627776)then some true else
 (bS b a.l.length).bind fun c=>
 some (decide (((gt a.l c).M.gW.l.length:Int)>20))):Option Bool).bind fun f=>
 bif f then some (.inr (.inl false))else
 (aJ (uU a b) 0).bind fun
 |.inl d=>some (.inr (.inl d))
 |.inr _=>some (.inl (wr .i64 (b+1)))else
 some (.inr (.inr ()))
def Al(a:aA)(d:Sl bc):Option Bool:=
 (aJ (uV a) 0).bind fun
 |.inl b=>some b
 |.inr _=>((aJ (Dd d) 0).bind fun
 |.inl c=>some c
 |.inr _=>some (decide ((a.T.aS.l.length:Int)<=30)&&decide ((a.T.aU.l.length:Int)<=12)&&decide ((a.dI.l.length:Int)<=6)&&decide ((a.iU.l.length:Int)<=12)))
theorem ok0:de 8 (b8 [y0,.sl y4] [.b] (u2 Al)):=b7 [(5,gV (jV [(5,xI)]) [(.ret,jV [(4,xB)]),(.exit 0,j0)]),(18,gV (jV [(6,xI)]) [(.ret,jV [(4,xB)]),(.exit 2,j0)]),(25,mc (jV [(55,xB)])),(30,gV (jV [(7,xI)]) [(.ret,jV [(4,xB)]),(.exit 4,j0)])] tN
def J3:Option am:=some (⟨3,Sl.mk [(⟨0,0,1,0,1,2⟩:bd),(⟨1,1,2,0,1,2⟩:bd),(⟨0,1,2,1,1,2⟩:bd)],Sl.mk [(⟨2,7⟩:dY),(⟨0,7⟩:dY)]⟩:am)
theorem ok1:de 73 (l7 [] [y1] (fun _=>J3)):=b7 [] tN
def De:Option aA:=
 J3.bind fun a=>
 some (⟨a,Sl.mk [Sl.mk [4607182418800017408,4607182418800017408,4607182418800017408],Sl.mk [4607182418800017408,4607182418800017408,4621819117588971520]],Sl.mk [0,5,(-7)],100,8,20,10,2,5⟩:aA)
theorem ok2:de 32 (l7 [] [y0] (fun _=>De)):=b7 [] (tC ok1 tN)
def qi(a:am):LT (Int×Sl bJ) (Sl bJ):=fun(c,d)=>
 bif decide (c<(a.aS.l.length:Int))then(bS c a.aS.l.length).bind fun b=>
 (fA (d.l++[(⟨(gt a.aS.l b).A,(gt a.aS.l b).jD⟩:bJ),(⟨(gt a.aS.l b).B,(gt a.aS.l b).jC⟩:bJ)])).bind fun e=>
 some (.inl (wr .i64 (c+1),Sl.mk e))else
 some (.inr d)
def qh(b:am):LT (Int×Sl bJ) (Sl bJ):=fun(a,c)=>
 bif decide (a<(b.aU.l.length:Int))then(bS a b.aU.l.length).bind fun e=>
 (fA (c.l++[gt b.aU.l e])).bind fun d=>
 some (.inl (wr .i64 (a+1),Sl.mk d))else
 some (.inr c)
def tS(a:am):Option (Sl bJ):=
 (aJ (qi a) (0,Sl.nil)).bind fun c=>
 (aJ (qh a) (0,c)).bind fun b=>
 some b
theorem ok3:de 98 (l7 [y1] [.sl y3] tS):=b7 [(7,gV (jO [(3,.so 0),(11,xI)] [.ar y3] []) [(.exit 0,jO [(3,.so 0)] [.ar y3] [])]),(19,gV (jO [(3,.so 0),(32,xI)] [.ar y3] [1]) [(.exit 2,jO [(3,.so 0)] [.ar y3] [1])])] tN
def rR(a:am):LT Int (Bool⊕Unit):=fun c=>
 bif decide (c<(a.aS.l.length:Int))then(bS c a.aS.l.length).bind fun b=>
 bif(gt a.aS.l b).A==(gt a.aS.l b).B||decide ((gt a.aS.l b).xT<1)||decide ((gt a.aS.l b).xT>(gt a.aS.l b).rI)||decide ((gt a.aS.l b).rI>1000)then some (.inr (.inl false))else
 some (.inl (wr .i64 (c+1)))else
 some (.inr (.inr ()))
def lr(f:am)(a:Sl bJ):LT (Int×Mp bJ Int) (Bool⊕Unit):=fun(c,d)=>
 bif decide (c<(a.l.length:Int))then(bS c a.l.length).bind fun b=>
 (JW (pp d 0 (gt a.l b)).1 (pp d 0 (gt a.l b)).2.2 (wr .i64 (lS d 0 (gt a.l b)+1))).bind fun e=>
 bif decide ((gt a.l b).sw<0)||decide ((gt a.l b).sw>=f.ao)||decide ((gt a.l b).Lb<0)||decide ((gt a.l b).Lb>=8)||decide (lS e 0 (gt a.l b)>1)then some (.inr (.inl false))else
 some (.inl (wr .i64 (c+1),e))else
 some (.inr (.inr ()))
def mW(a:am):Option Bool:=
 bif decide (a.ao<1)||decide (a.ao>8)||decide ((a.aS.l.length:Int)>24)||decide ((a.aU.l.length:Int)>8)then some false else
 ((aJ (rR a) 0).bind fun
 |.inl c=>some c
 |.inr _=>(tS a).bind fun b=>
 (aJ (lr a b) (0,(Mp.none:Mp bJ Int))).bind fun
 |.inl d=>some d
 |.inr _=>some true)
theorem ok4:de 47 (b8 [y1] [.b] mW):=b7 [(10,gV (jV [(31,xI)]) [(.ret,jV [(2,xB)]),(.exit 0,j0)]),(27,gV (jO [(5,.om 0),(62,xI)] [.mp y3 I6] [1]) [(.ret,jO [(2,xB)] [] [1]),(.exit 2,jO [] [] [1])])] (tC ok3 tN)
def pq(a:Int)(b:Int):Option (Int×Int):=some (wr .u64 (wr .u64 (wr .u64 (pR .u64 a 32*pR .u64 b 32)+pR .u64 (wr .u64 (wr .u64 (pR .u64 a 32*pT .u64 b 4294967295)+pR .u64 (wr .u64 (pT .u64 a 4294967295*pT .u64 b 4294967295)) 32)) 32)+pR .u64 (wr .u64 (pT .u64 (wr .u64 (wr .u64 (pR .u64 a 32*pT .u64 b 4294967295)+pR .u64 (wr .u64 (pT .u64 a 4294967295*pT .u64 b 4294967295)) 32)) 4294967295+wr .u64 (pT .u64 a 4294967295*pR .u64 b 32))) 32),wr .u64 (a*b))
theorem ok5:de 258 (b8 [.i .u64,.i .u64] [.i .u64,.i .u64] (u2 pq)):=b7 [] tN
def lz(c:Int)(d:Int):Option (Int×Int):=
 (pq c d).bind fun(b,a)=>
 some (b,a)
theorem ok6:de 211 (b8 [.i .u64,.i .u64] [.i .u64,.i .u64] (u2 lz)):=b7 [] (tC ok5 tN)
def rS:LT (Int×Sl Int) (Sl Int):=fun(b,a)=>
 bif decide (b<(a.l.length:Int))then(rG a.l b a.l.length).bind fun c=>
 (rG a.l 0 b).bind fun d=>
 some (.inl (wr .i64 (b+((min (a.to d).l.length (a.to c).l.length:Nat):Int)),a.to (IG a.l b.toNat (a.to c).l.length (a.to d).l)))else
 some (.inr a)
def ft(b:Sl Int)(d:Int):Option (Sl Int):=
 bif decide (d<0)then none else
 ((lz (wr .u64 (b.l.length:Int)) (wr .u64 d)).bind fun(e,c)=>
 bif decide (e>0)||decide (c>9223372036854775807)then none else
 (Fm 0 (wr .i64 c) (wr .i64 c)).bind fun a=>
 (aJ rS (((min b.l.length a.length:Nat):Int),Sl.mk (IG a 0 a.length b.l))).bind fun f=>
 some f)
def sp7:cR:=⟨[(false,.x (.sl I6)),(false,.x I6)],[([.os I6],[])],true,[],u2 ft⟩
theorem ok7:de 159 sp7:=b7 [(17,gV (jO [(7,.so 0),(8,xI)] [.ar I6] [2]) [(.exit 0,jO [(7,.so 0)] [.ar I6] [2])])] (tC ok6 tN)
def Cy(a:Int):Option Int:=
 (bif decide (a>=4294967296)then some (pR .u64 a 32,32)else
 some (a,0):Option (Int×Int)).bind fun(b,e)=>
 (bif decide (b>=65536)then some (pR .u64 b 16,wr .i64 (e+16))else
 some (b,e):Option (Int×Int)).bind fun(c,d)=>
 (bif decide (c>=256)then some (pR .u64 c 8,wr .i64 (d+8))else
 some (c,d):Option (Int×Int)).bind fun(f,h)=>
 (atS (⟨#[0,1,2,2,3,3,3,3,4,4,4,4,4,4,4,4,5,5,5,5,5,5,5,5,5,5,5,5,5,5,5,5,6,6,6,6,6,6,6,6,6,6,6,6,6,6,6,6,6,6,6,6,6,6,6,6,6,6,6,6,6,6,6,6,7,7,7,7,7,7,7,7,7,7,7,7,7,7,7,7,7,7,7,7,7,7,7,7,7,7,7,7,7,7,7,7,7,7,7,7,7,7,7,7,7,7,7,7,7,7,7,7,7,7,7,7,7,7,7,7,7,7,7,7,7,7,7,7,8,8,8,8,8,8,8,8,8,8,8,8,8,8,8,8,8,8,8,8,8,8,8,8,8,8,8,8,8,8,8,8,8,8,8,8,8,8,8,8,8,8,8,8,8,8,8,8,8,8,8,8,8,8,8,8,8,8,8,8,8,8,8,8,8,8,8,8,8,8,8,8,8,8,8,8,8,8,8,8,8,8,8,8,8,8,8,8,8,8,8,8,8,8,8,8,8,8,8,8,8,8,8,8,8,8,8,8,8,8,8,8,8,8,8,8,8,8,8,8,8,8,8,8,8,8,8,8]⟩:ByteArray) (wr .u8 f)).bind fun g=>
 some (wr .i64 (h+wr .i64 g))
theorem ok8:de 295 (b8 [.i .u64] [I6] Cy):=b7 [(2,ot [(.normal,jV [(0,.x (.i .u64)),(2,xI)])]),(8,ot [(.normal,jV [(0,.x (.i .u64)),(2,xI)])]),(14,ot [(.normal,jV [(0,.x (.i .u64)),(2,xI)])])] tN
def sn(b:Int):Option Int:=
 (Cy b).bind fun a=>
 some a
theorem ok9:de 260 (b8 [.i .u64] [I6] sn):=b7 [] (tC ok8 tN)
def wS(a:Int):Option Bool:=some (a !=a)
theorem aqN:de 261 (b8 [I6] [.b] wS):=b7 [] tN
def mw(a:Int)(b:Int):Option Int:=
 (wS a).bind fun d=>
 (wS b).bind fun c=>
 bif d then bif c then some 0 else
 some (-1)else
 (bif c then some 1 else
 bif decide (a<b)then some (-1)else
 bif decide (a>b)then some 1 else
 some 0)
theorem amT:de 214 (b8 [I6,I6] [I6] (u2 mw)):=b7 [] (tC aqN tN)
def zT(b:aM)(c:aM):Option Int:=
 (mw b.fU c.fU).bind fun a=>
 some a
theorem aqM:de 213 (b8 [y9,y9] [I6] (u2 zT)):=b7 [] (tC amT tN)
def gO(h:Int):LT (Int×Sl aM) (Sl aM):=fun(b,a)=>
 (bif decide (b>h)then(bS b a.l.length).bind fun g=>
 (bS (wr .i64 (b-1)) a.l.length).bind fun i=>
 (zT (gt a.l g) (gt a.l i)).bind fun e=>
 some (decide (e<0))else
 some false:Option Bool).bind fun k=>
 bif k then(bS (wr .i64 (b-1)) a.l.length).bind fun c=>
 (bS b a.l.length).bind fun f=>
 (bS b a.l.length).bind fun d=>
 (bS (wr .i64 (b-1)) (a.l.set d (gt a.l c)).length).bind fun j=>
 some (.inl (wr .i64 (b-1),Sl.mk ((a.l.set d (gt a.l c)).set j (gt a.l f))))else
 some (.inr a)
def eP(d:Int)(e:Int):LT (Int×Sl aM) (Sl aM):=fun(a,b)=>
 bif decide (a<e)then(aJ (gO d) (a,b)).bind fun c=>
 some (.inl (wr .i64 (a+1),c))else
 some (.inr b)
def cC(b:Sl aM)(a:Int)(c:Int):Option (Sl aM):=
 (aJ (eP a c) (wr .i64 (a+1),b)).bind fun d=>
 some d
def apM:cR:=⟨[(true,.os y9),(false,.x I6),(false,.x I6),(false,.fn 213 .ni)],[([],[.os y9])],true,[true,false,false,false],u3 cC⟩
theorem aqL:de 286 apM:=b7 [(2,gV ⟨[(0,.so 0),(8,xI)],(.co (.so 0) .ni),[.ar y9],[0],[]⟩ [(.exit 0,⟨[],(.co (.so 0) .ni),[.ar y9],[0],[]⟩)]),(9,gV ⟨[(0,.so 0),(9,xI)],(.co (.so 0) .ni),[.ar y9],[1],[]⟩ [(.exit 2,⟨[(0,.so 0)],(.co (.so 0) .ni),[.ar y9],[1],[]⟩)]),(12,mc (jV [(34,xB)]))] (tC aqM tN)
def dv:LT (Int×Int×Int×Bool×Bool×Sl aM) (Sl aM):=fun(c,a,e,f,_,b)=>
 bif decide (wr .i64 (a-c)<=12)then(cC b c a).bind fun d=>
 (py d b).bind fun _=>
 some (.inr d)else
 (bif e==0 then none else
 bif(!f)then none else
 none)
def dH(c:Sl aM)(d:Int)(e:Int)(b:Int):Option (Sl aM):=
 (aJ dv (d,e,b,true,true,c)).bind fun a=>
 some a
def apL:cR:=⟨[(true,.os y9),(false,.x I6),(false,.x I6),(false,.x I6),(false,.fn 213 .ni)],[([],[.os y9])],true,[true,false,false,false,false],u4 dH⟩
theorem aqK:de 259 apL:=b7 [(4,gV ⟨[(0,.so 0),(1,xI),(2,xI),(3,xI),(10,xB),(11,xB)],(.co (.so 0) .ni),[.ar y9],[0],[]⟩ [(.ret,⟨[],(.co (.so 0) .ni),[.ar y9],[0],[]⟩)])] (tC aqL tN)
def dn(a:Sl aM):Option (Sl aM):=
 (sn (wr .u64 (a.l.length:Int))).bind fun c=>
 (dH a 0 (a.l.length:Int) c).bind fun b=>
 (py b a).bind fun _=>
 some b
def apK:cR:=⟨[(true,.os y9),(false,.fn 213 .ni)],[([],[.os y9])],true,[true,false],dn⟩
theorem aqJ:de 212 apK:=b7 [] (tC ok9 (tC aqK tN))
def kS(a:am)(f:Int):LT (Int×Sl aM) (Sl aM):=fun(c,d)=>
 bif decide (c<(a.aS.l.length:Int))then((bS c a.aS.l.length).bind fun b=>
 (bif(gt a.aS.l b).A==f then(fA (d.l++[(⟨(gt a.aS.l b).jD,(gt a.aS.l b).B,c⟩:aM)])).bind fun g=>
 some (Sl.mk g)else
 some d:Option (Sl aM)).bind fun e=>
 bif(gt a.aS.l b).B==f then(fA (e.l++[(⟨(gt a.aS.l b).jC,(gt a.aS.l b).A,c⟩:aM)])).bind fun h=>
 some (Sl.mk h)else
 some e:Option (Sl aM)).bind fun i=>
 some (.inl (wr .i64 (c+1),i))else
 some (.inr d)
def qR(c:am)(d:Int):Option (Sl aM):=
 (aJ (kS c d) (0,Sl.nil)).bind fun b=>
 (dn b).bind fun a=>
 (py a b).bind fun _=>
 some a
theorem afU:de 160 (l7 [y1,I6] [.sl y9] (u2 qR)):=b7 [(7,gV (jO [(5,.so 0),(11,xI)] [.ar y9] []) [(.exit 0,jO [(5,.so 0)] [.ar y9] [])]),(11,ot [(.normal,jO [(5,.so 0)] [.ar y9] [1])]),(14,ot [(.normal,jO [(5,.so 0)] [.ar y9] [1])])] (tC aqJ tN)
def qT(b:Sl aM):LT (Int×Sl Int×Sl Int) (Sl Int×Sl Int):=fun(d,a,c)=>
 bif decide (d<(b.l.length:Int))then((bS d b.l.length).bind fun e=>
 (bS (gt b.l e).To a.l.length).bind fun g=>
 bif decide (gt a.l g<0)then(bS 0 c.l.length).bind fun h=>
 (bS (gt c.l h) a.l.length).bind fun k=>
 (bS (gt b.l e).To a.l.length).bind fun l=>
 (fA (c.l++[(gt b.l e).To])).bind fun f=>
 some (Sl.mk (a.l.set l (wr .i64 (gt a.l k+1))),Sl.mk f)else
 some (a,c):Option (Sl Int×Sl Int)).bind fun(j,i)=>
 some (.inl (wr .i64 (d+1),j,i))else
 some (.inr (a,c))
def qS(h:am):LT (Sl Int×Sl Int) (Sl Int):=fun(c,a)=>
 bif decide ((a.l.length:Int)>0)then(bS 0 a.l.length).bind fun g=>
 (qR h (gt a.l g)).bind fun e=>
 (aJ (qT e) (0,c,a)).bind fun(d,b)=>
 (rG b.l 1 b.l.length).bind fun f=>
 some (.inl (d,b.to f))else
 some (.inr c)
def tT(a:am)(b:Int):Option (Sl Int):=
 (ft (Sl.mk [(-1)]) (if 0>a.ao then 0 else a.ao)).bind fun c=>
 bif decide (b<0)||decide (b>=a.ao)then some c else
 ((bS b c.l.length).bind fun d=>
 (aJ (qS a) (Sl.mk (c.l.set d 0),Sl.mk [b])).bind fun e=>
 some e)
theorem aqI:de 100 (l7 [y1,I6] [.sl I6] (u2 tT)):=b7 [(14,gV (jO [(5,.so 0),(6,.so 1)] [.ar I6,.ar I6] [2,3]) [(.exit 0,jO [(5,.so 0)] [.ar I6] [2,3])]),(21,gV (jO [(5,.so 0),(6,.so 1),(39,xI)] [.ar I6,.ar I6] [4,5]) [(.exit 2,jO [(5,.so 0),(6,.so 1)] [.ar I6,.ar I6] [4,5])]),(25,ot [(.normal,jO [(5,.so 0),(6,.so 1)] [.ar I6,.ar I6] [7000006,7000007])])] (tC ok7 (tC afU tN))
def dB(b:Sl Int)(d:Int):LT Int (Int⊕Unit):=fun a=>
 bif decide (a<(b.l.length:Int))then(bS a b.l.length).bind fun c=>
 bif d==gt b.l c then some (.inr (.inl a))else
 some (.inl (wr .i64 (a+1)))else
 some (.inr (.inr ()))
def g9(b:Sl Int)(c:Int):Option Int:=
 (aJ (dB b c) 0).bind fun
 |.inl a=>some a
 |.inr _=>some (-1)
theorem aqH:de 158 (b8 [.sl I6,I6] [I6] (u2 g9)):=b7 [(5,gV (jV [(8,xI)]) [(.ret,jV [(4,xI)]),(.exit 0,j0)])] tN
def cJ(b:Sl Int)(c:Int):Option Bool:=
 (g9 b c).bind fun a=>
 some (decide (a>=0))
theorem Vx:de 99 (b8 [.sl I6,I6] [.b] (u2 cJ)):=b7 [] (tC aqH tN)
def qj(c:am):Option Bool:=
 (tT c 0).bind fun b=>
 (cJ b (-1)).bind fun a=>
 some (!a)
theorem aqG:de 48 (b8 [y1] [.b] qj):=b7 [] (tC aqI (tC Vx tN))
def nY(a:Int)(b:Int)(c:Int):Option Bool:=some (decide (a>=b)&&decide (a<=c))
theorem afT:de 49 (b8 [I6,I6,I6] [.b] (u3 nY)):=b7 [] tN
def Dq(b:Int):Option Bool:=
 (nY b (-1048576) 1048576).bind fun a=>
 some (!a)
theorem aqF:de 51 (b8 [I6] [.b] Dq):=b7 [] (tC afT tN)
def dX(b:Sl Int):LT Int (Int⊕Unit):=fun a=>
 bif decide (a<(b.l.length:Int))then(bS a b.l.length).bind fun d=>
 (Dq (gt b.l d)).bind fun c=>
 bif c then some (.inr (.inl a))else
 some (.inl (wr .i64 (a+1)))else
 some (.inr (.inr ()))
def eN(b:Sl Int):Option Int:=
 (aJ (dX b) 0).bind fun
 |.inl a=>some a
 |.inr _=>some (-1)
def apC:cR:=⟨[(false,.x (.sl I6)),(false,.fn 51 .ni)],[([.x I6],[])],true,[],eN⟩
theorem aqE:de 101 apC:=b7 [(5,gV (jV [(8,xI)]) [(.ret,jV [(4,xI)]),(.exit 0,j0)])] (tC aqF tN)
def dz(b:Sl Int):Option Bool:=
 (eN b).bind fun a=>
 some (decide (a>=0))
def apB:cR:=⟨[(false,.x (.sl I6)),(false,.fn 51 .ni)],[([.x .b],[])],true,[],dz⟩
theorem aqD:de 50 apB:=b7 [] (tC aqE tN)
omit [Bx]in
theorem YM:sG prog 166 (Kl true):=Sc (by kernel_rfl) (by kernel_rfl)
def xe(a:Nat):Option Nat:=
 bif(!(P6 .f64 a a))then(yf 9221120237041090561).bind fun b=>
 some b else
 some a
theorem ald:de 165 (b8 [.f .f64] [.f .f64] xe):=b7 [] (tC YM tN)
def Kh(c:Int):Option Nat:=
 (yf c).bind fun b=>
 (xe b).bind fun a=>
 some a
theorem aqC:de 104 (b8 [.i .u64] [.f .f64] Kh):=b7 [] (tC YM (tC ald tN))
def wV(a:Sl Int):LT (Int×Sl Nat) (Sl Nat):=fun(b,c)=>
 bif decide (b<(a.l.length:Int))then(bS b a.l.length).bind fun d=>
 (Kh (gt a.l d)).bind fun e=>
 (adc (c.l++[e])).bind fun f=>
 some (.inl (wr .i64 (b+1),Sl.mk f))else
 some (.inr c)
def A8(a:Sl Int):Option (Sl Nat):=
 (aJ (wV a) (0,Sl.nil)).bind fun b=>
 some b
theorem aqB:de 53 (l7 [.sl (.i .u64)] [.sl (.f .f64)] A8):=b7 [(7,gV (jO [(3,.so 0),(8,xI)] [.ar (.f .f64)] []) [(.exit 0,jO [(3,.so 0)] [.ar (.f .f64)] [])])] (tC aqC tN)
def Ch(a:Nat):Option Bool:=some (T3 .f64 a 0||P6 .f64 a 0)
theorem aqA:de 217 (b8 [.f .f64] [.b] Ch):=b7 [] tN
def Az(b:Nat):Option Bool:=
 (Ch b).bind fun a=>
 some (!a)
theorem aqz:de 216 (b8 [.f .f64] [.b] Az):=b7 [] (tC aqA tN)
def dg(b:Sl Nat):LT Int (Int⊕Unit):=fun a=>
 bif decide (a<(b.l.length:Int))then(bS a b.l.length).bind fun d=>
 (Az (gt b.l d)).bind fun c=>
 bif c then some (.inr (.inl a))else
 some (.inl (wr .i64 (a+1)))else
 some (.inr (.inr ()))
def cN(b:Sl Nat):Option Int:=
 (aJ (dg b) 0).bind fun
 |.inl a=>some a
 |.inr _=>some (-1)
def apv:cR:=⟨[(false,.x (.sl (.f .f64))),(false,.fn 216 .ni)],[([.x I6],[])],true,[],cN⟩
theorem aqy:de 262 apv:=b7 [(5,gV (jV [(8,xI)]) [(.ret,jV [(4,xI)]),(.exit 0,j0)])] (tC aqz tN)
def cD(b:Sl Nat):Option Bool:=
 (cN b).bind fun a=>
 some (decide (a>=0))
def apu:cR:=⟨[(false,.x (.sl (.f .f64))),(false,.fn 216 .ni)],[([.x .b],[])],true,[],cD⟩
theorem aqx:de 215 apu:=b7 [] (tC aqy tN)
def wU(a:Sl Nat)(c:Int):Option Bool:=
 (bif(a.l.length:Int)==c then(cD a).bind fun d=>
 some (!d)else
 some false:Option Bool).bind fun b=>
 some b
theorem aqw:de 161 (b8 [.sl (.f .f64),I6] [.b] (u2 wU)):=b7 [(3,mc (jV [(4,xB)]))] (tC aqx tN)
def mD(a:am)(d:Sl Nat):Option Bool:=
 ((mW a).bind fun b=>
 bif b then(wU d (a.aS.l.length:Int)).bind fun e=>
 some e else
 some false:Option Bool).bind fun c=>
 some c
theorem afS:de 102 (b8 [y1,.sl (.f .f64)] [.b] (u2 mD)):=b7 [(3,mc (jV [(4,xB)]))] (tC ok4 (tC aqw tN))
def Bv(a:Int):Option Nat:=
 (bif decide (a>=0)then some 9218868437227405312 else
 some 18442240474082181120:Option Int).bind fun b=>
 (yf b).bind fun c=>
 some c
theorem akL:de 219 (b8 [I6] [.f .f64] Bv):=b7 [(4,ot [(.normal,jV [(3,.x (.i .u64))])])] (tC YM tN)
def mC:LT (Int×Sl Nat) (Sl Nat):=fun(b,a)=>
 bif decide (b<(a.l.length:Int))then(rG a.l b a.l.length).bind fun c=>
 (rG a.l 0 b).bind fun d=>
 some (.inl (wr .i64 (b+((min (a.to d).l.length (a.to c).l.length:Nat):Int)),a.to (IG a.l b.toNat (a.to c).l.length (a.to d).l)))else
 some (.inr a)
def fw(b:Sl Nat)(d:Int):Option (Sl Nat):=
 bif decide (d<0)then none else
 ((lz (wr .u64 (b.l.length:Int)) (wr .u64 d)).bind fun(e,c)=>
 bif decide (e>0)||decide (c>9223372036854775807)then none else
 (Fm 0 (wr .i64 c) (wr .i64 c)).bind fun a=>
 (aJ mC (((min b.l.length a.length:Nat):Int),Sl.mk (IG a 0 a.length b.l))).bind fun f=>
 some f)
def apo:cR:=⟨[(false,.x (.sl (.f .f64))),(false,.x I6)],[([.os (.f .f64)],[])],true,[],u2 fw⟩
theorem aqv:de 218 apo:=b7 [(17,gV (jO [(7,.so 0),(8,xI)] [.ar (.f .f64)] [2]) [(.exit 0,jO [(7,.so 0)] [.ar (.f .f64)] [2])])] (tC ok6 tN)
omit [Bx]in
theorem afR:sG prog 268 (Km true):=Sd (by kernel_rfl) (by kernel_rfl)
def F1(c:Nat):Option Nat:=
 (yg c).bind fun b=>
 (yf (fQ .u64 b 9223372036854775808)).bind fun a=>
 some a
theorem aqu:de 266 (b8 [.f .f64] [.f .f64] F1):=b7 [] (tC afR (tC YM tN))
def nm(a:Nat)(b:Int):Option Bool:=
 (bif b==0 then(F1 a).bind fun c=>
 some c else
 (bif decide (b<0)then some (Op.negFloat .f64 a)else
 some a):Option Nat).bind fun d=>
 some (T3 .f64 d 9218868437227405311)
theorem akK:de 226 (b8 [.f .f64,I6] [.b] (u2 nm)):=b7 [(2,ot [(.normal,jV [(0,.x (.f .f64))])])] (tC aqu tN)
def ya(b:Nat):Option Bool:=
 (yg b).bind fun a=>
 some (decide (wr .i64 a<0))
theorem aqs:de 332 (b8 [.f .f64] [.b] ya):=b7 [] (tC afR tN)
def t8(a:Nat):Option Int:=
 bif(!(P6 .f64 a a))then some 0 else
 ((nm a (-1)).bind fun c=>
 bif c then some 1 else
 (nm a 1).bind fun b=>
 bif b then some 6 else
 bif ZQ .f64 a 0 then some 2 else
 bif T3 .f64 a 0 then some 5 else
 (ya a).bind fun d=>
 bif d then some 3 else
 some 4)
theorem aqr:de 298 (b8 [.f .f64] [I6] t8):=b7 [] (tC akK (tC aqs tN))
def oR(b:Nat):Option Int:=
 (t8 b).bind fun a=>
 bif a==0 then some 2 else
 (bif a==3 then some (-1)else
 some 0)
theorem aqq:de 264 (b8 [.f .f64] [I6] oR):=b7 [] (tC aqr tN)
def pK(a:Nat)(b:Nat):Option Int:=
 bif ZQ .f64 a b then some (-1)else
 (bif T3 .f64 a b then some 1 else
 (oR a).bind fun c=>
 (oR b).bind fun e=>
 (mw c e).bind fun d=>
 some d)
theorem aqp:de 222 (b8 [.f .f64,.f .f64] [I6] (u2 pK)):=b7 [] (tC aqq (tC amT tN))
def iX(c:Int)(f:Int)(a:Sl Nat):Option Int:=
 (bS c a.l.length).bind fun e=>
 (bS f a.l.length).bind fun b=>
 (pK (gt a.l e) (gt a.l b)).bind fun d=>
 some d
def apg:cR:=⟨[(false,.x I6),(false,.x I6),(false,.pt (.sl (.f .f64)))],[([.x I6],[])],true,[],u3 iX⟩
theorem aqo:de 221 apg:=b7 [] (tC aqp tN)
def fJ(i:Int)(f:Sl Nat):LT (Int×Sl Int) (Sl Int):=fun(b,a)=>
 (bif decide (b>i)then(bS b a.l.length).bind fun h=>
 (bS (wr .i64 (b-1)) a.l.length).bind fun j=>
 (iX (gt a.l h) (gt a.l j) f).bind fun e=>
 some (decide (e<0))else
 some false:Option Bool).bind fun l=>
 bif l then(bS (wr .i64 (b-1)) a.l.length).bind fun c=>
 (bS b a.l.length).bind fun g=>
 (bS b a.l.length).bind fun d=>
 (bS (wr .i64 (b-1)) (a.l.set d (gt a.l c)).length).bind fun k=>
 some (.inl (wr .i64 (b-1),Sl.mk ((a.l.set d (gt a.l c)).set k (gt a.l g))))else
 some (.inr a)
def fI(e:Int)(f:Int)(c:Sl Nat):LT (Int×Sl Int) (Sl Int):=fun(a,b)=>
 bif decide (a<f)then(aJ (fJ e c) (a,b)).bind fun d=>
 some (.inl (wr .i64 (a+1),d))else
 some (.inr b)
def cT(d:Sl Int)(a:Int)(e:Int)(b:Sl Nat):Option (Sl Int):=
 (aJ (fI a e b) (wr .i64 (a+1),d)).bind fun c=>
 some c
def apf:cR:=⟨[(true,.os I6),(false,.x I6),(false,.x I6),(false,.fn 221 (.pr (.pt (.sl (.f .f64))) .ni))],[([],[.os I6])],true,[true,false,false,false],u4 cT⟩
theorem aqn:de 296 apf:=b7 [(2,gV ⟨[(0,.so 0),(8,xI)],(.co (.so 0) .ni),[.ar I6],[0],[]⟩ [(.exit 0,⟨[],(.co (.so 0) .ni),[.ar I6],[0],[]⟩)]),(9,gV ⟨[(0,.so 0),(9,xI)],(.co (.so 0) .ni),[.ar I6],[1],[]⟩ [(.exit 2,⟨[(0,.so 0)],(.co (.so 0) .ni),[.ar I6],[1],[]⟩)]),(12,mc (jV [(34,xB)]))] (tC aqo tN)
def dP(e:Int)(f:Sl Nat):LT (Int×Int×Sl Int) (Int×Sl Int):=fun(d,a,b)=>
 bif decide (a<=e)then(cT b d a f).bind fun c=>
 (py c b).bind fun _=>
 some (.inl (a,wr .i64 (a+20),c))else
 some (.inr (d,b))
def jp(a:Int):LT (Int×Int) Int:=fun(c,b)=>
 bif decide (b<=a)then none else
 some (.inr c)
def dO(b:Int):LT Int Unit:=fun a=>
 bif decide (a<b)then(aJ (jp b) (0,wr .i64 (2*a))).bind fun c=>
 bif decide (wr .i64 (c+a)<b)then none else
 some (.inl (wr .i64 (a*2)))else
 some (.inr ())
def d7(e:Sl Int)(a:Int)(d:Sl Nat):Option (Sl Int):=
 (aJ (dP a d) (0,20,e)).bind fun(f,b)=>
 (cT b f a d).bind fun c=>
 (py c b).bind fun _=>
 (aJ (dO a) 20).bind fun _=>
 some c
def ape:cR:=⟨[(true,.os I6),(false,.x I6),(false,.fn 221 (.pr (.pt (.sl (.f .f64))) .ni))],[([],[.os I6])],true,[true,false,false],u3 d7⟩
theorem aqm:de 263 ape:=b7 [(5,gV ⟨[(0,.so 0),(7,xI),(8,xI)],(.co (.so 0) .ni),[.ar I6],[0],[]⟩ [(.exit 0,⟨[(0,.so 0),(7,xI)],(.co (.so 0) .ni),[.ar I6],[0],[]⟩)]),(16,gV (jV [(6,xI)]) [(.exit 2,j0)]),(23,gV (jV [(7,xI),(8,xI)]) [(.exit 4,jV [(7,xI)])])] (tC aqn tN)
def dc(a:Sl Int)(c:Sl Nat):Option (Sl Int):=
 (d7 a (a.l.length:Int) c).bind fun b=>
 (py b a).bind fun _=>
 some b
def apd:cR:=⟨[(true,.os I6),(false,.fn 221 (.pr (.pt (.sl (.f .f64))) .ni))],[([],[.os I6])],true,[true,false],u2 dc⟩
theorem aql:de 220 apd:=b7 [] (tC aqm tN)
def wi(b:Nat)(c:Nat):Option Nat:=
 (xe (He .f64 b c)).bind fun a=>
 bif P6 .f64 a 0 then some 0 else
 some a
theorem akJ:de 223 (b8 [.f .f64,.f .f64] [.f .f64] (u2 wi)):=b7 [] (tC ald tN)
def nO(d:List Int):LT (Int×Sl Int) (Sl Int):=fun(a,b)=>
 bif decide (a<(d.length:Int))then(bS a b.l.length).bind fun c=>
 some (.inl (wr .i64 (a+1),Sl.mk (b.l.set c a)))else
 some (.inr b)
def nN(e:Sl Nat)(g:Nat)(j:Sl Int)(b:Sl aM):LT (Int×Sl Nat) (Sl Nat):=fun(d,a)=>
 bif decide (d<(b.l.length:Int))then(bS d b.l.length).bind fun c=>
 (bS (gt b.l c).To a.l.length).bind fun l=>
 (bS (gt b.l c).ku e.l.length).bind fun h=>
 (bS (gt j.l g) a.l.length).bind fun i=>
 (wi (gt e.l h) (gt a.l i)).bind fun f=>
 (bS (gt b.l c).To a.l.length).bind fun k=>
 some (.inl (wr .i64 (d+1),Sl.mk (a.l.set k (Hc .f64 (gt a.l l) f))))else
 some (.inr a)
def nM(i:am)(h:Sl Nat):LT (Sl Int×Sl Nat) (Sl Nat):=fun(b,c)=>
 bif decide ((b.l.length:Int)>0)then(dc b c).bind fun a=>
 (py a b).bind fun _=>
 (bS 0 a.l.length).bind fun d=>
 (rG a.l 1 a.l.length).bind fun g=>
 (qR i (gt a.l d)).bind fun e=>
 (aJ (nN h d a e) (0,c)).bind fun f=>
 some (.inl (a.to g,f))else
 some (.inr c)
def mE(a:am)(d:Sl Nat)(b:Int):Option (Sl Nat):=
 (mD a d).bind fun f=>
 bif(!f)||decide (b<0)||decide (b>=a.ao)then some Sl.nil else
 ((Bv 1).bind fun j=>
 (fw (Sl.mk [j]) a.ao).bind fun c=>
 (bS b c.l.length).bind fun g=>
 (Fm 0 a.ao a.ao).bind fun e=>
 (aJ (nO e) (0,Sl.mk e)).bind fun i=>
 (aJ (nM a d) (i,Sl.mk (c.l.set g 0))).bind fun h=>
 some h)
theorem akI:de 162 (l7 [y1,.sl (.f .f64),I6] [.sl (.f .f64)] (u3 mE)):=b7 [(16,gV (jO [(8,.so 0),(40,xI)] [.ar I6] [7000002]) [(.exit 0,jO [(8,.so 0)] [.ar I6] [7000002])]),(26,gV (jP [(8,.so 0)] [.ar I6] [4000002,5000002,7000003] [(5000002,(.sl (.f .f64)),.os (.f .f64))]) [(.exit 2,(jK [4000002,5000002,7000003] [(5000002,(.sl (.f .f64)),.os (.f .f64))]))]),(38,gV (jW [(63,xI)] [5000002,7000005] [(5000002,(.sl (.f .f64)),.os (.f .f64))]) [(.exit 4,(jK [5000002,7000005] [(5000002,(.sl (.f .f64)),.os (.f .f64))]))])] (tC afS (tC akL (tC aqv (tC aql (tC afU (tC akJ tN))))))
def CN(b:Sl Nat)(a:Int):Option Bool:=
 (bif decide (a>=0)&&decide (a<(b.l.length:Int))then(bS a b.l.length).bind fun e=>
 (Bv 1).bind fun d=>
 some (ZQ .f64 (gt b.l e) d)else
 some false:Option Bool).bind fun c=>
 some c
theorem aqk:de 227 (b8 [.sl (.f .f64),I6] [.b] (u2 CN)):=b7 [(3,mc (jV [(4,xB)]))] (tC akL tN)
def qk(f:Sl Nat)(c:Sl Nat)(j:Int)(a:Sl aM):LT (Int×Sl aM) (Sl aM):=fun(d,e)=>
 bif decide (d<(a.l.length:Int))then((bS d a.l.length).bind fun b=>
 ((CN f (gt a.l b).ku).bind fun i=>
 bif i then(bS (gt a.l b).ku f.l.length).bind fun m=>
 (bS (gt a.l b).To c.l.length).bind fun n=>
 (wi (gt f.l m) (gt c.l n)).bind fun g=>
 (bS j c.l.length).bind fun o=>
 some (P6 .f64 g (gt c.l o))else
 some false:Option Bool).bind fun k=>
 bif k then(fA (e.l++[gt a.l b])).bind fun h=>
 some (Sl.mk h)else
 some e:Option (Sl aM)).bind fun l=>
 some (.inl (wr .i64 (d+1),l))else
 some (.inr e)
def ql(d:am)(c:Sl Nat)(b:Sl Nat)(a:Int):Option (Sl aM):=
 (bS a b.l.length).bind fun g=>
 (nm (gt b.l g) 1).bind fun f=>
 bif f then some Sl.nil else
 ((qR d a).bind fun e=>
 (aJ (qk c b a e) (0,Sl.nil)).bind fun h=>
 some h)
theorem akH:de 164 (l7 [y1,.sl (.f .f64),.sl (.f .f64),I6] [.sl y9] (u4 ql)):=b7 [(12,gV (jO [(9,.so 0),(21,xI)] [.ar y9] []) [(.exit 0,jO [(9,.so 0)] [.ar y9] [])]),(16,ot [(.normal,jO [(9,.so 0)] [.ar y9] [3])]),(20,mc (jV [(46,xB)]))] (tC akK (tC afU (tC aqk (tC akJ tN))))
def AG(d:aM)(a:Sl Int)(c:Int):Option Bool:=
 (bS d.To a.l.length).bind fun b=>
 some (gt a.l b==c)
def ao9:cR:=⟨[(false,.x y9),(false,.pt (.sl I6)),(false,.pt I6)],[([.x .b],[])],true,[],u3 AG⟩
theorem aqj:de 225 ao9:=b7 [] tN
def cP(b:Sl aM)(c:Sl Int)(f:Int):LT Int (Int⊕Unit):=fun a=>
 bif decide (a<(b.l.length:Int))then(bS a b.l.length).bind fun e=>
 (AG (gt b.l e) c f).bind fun d=>
 bif d then some (.inr (.inl a))else
 some (.inl (wr .i64 (a+1)))else
 some (.inr (.inr ()))
def cY(b:Sl aM)(a:Sl Int)(d:Int):Option Int:=
 (aJ (cP b a d) 0).bind fun
 |.inl c=>some c
 |.inr _=>some (-1)
def ao8:cR:=⟨[(false,.x (.sl y9)),(false,.fn 225 (.pr (.pt (.sl I6)) (.pr (.pt I6) .ni)))],[([.x I6],[])],true,[],u3 cY⟩
theorem aqi:de 265 ao8:=b7 [(5,gV (jV [(8,xI)]) [(.ret,jV [(4,xI)]),(.exit 0,j0)])] (tC aqj tN)
def cg(c:Sl aM)(a:Sl Int)(d:Int):Option Bool:=
 (cY c a d).bind fun b=>
 some (decide (b>=0))
def ao7:cR:=⟨[(false,.x (.sl y9)),(false,.fn 225 (.pr (.pt (.sl I6)) (.pr (.pt I6) .ni)))],[([.x .b],[])],true,[],u3 cg⟩
theorem aqh:de 224 ao7:=b7 [] (tC aqi tN)
def lL(k:am)(j:Sl Nat)(d:Sl Nat)(c:Int)(i:Sl Int):LT (Int×Sl Int) (Sl Int):=fun(b,a)=>
 bif decide (b<(i.l.length:Int))then(((bS b a.l.length).bind fun f=>
 bif decide (gt a.l f<0)then(ql k j d b).bind fun e=>
 (cg e a c).bind fun l=>
 some l else
 some false:Option Bool).bind fun h=>
 bif h then(bS b a.l.length).bind fun g=>
 some (Sl.mk (a.l.set g (wr .i64 (c+1))))else
 some a:Option (Sl Int)).bind fun m=>
 some (.inl (wr .i64 (b+1),m))else
 some (.inr a)
def j_(f:am)(e:Sl Nat)(c:Sl Nat):LT (Int×Sl Int) (Sl Int):=fun(b,a)=>
 (cJ a b).bind fun d=>
 bif d then(aJ (lL f e c b a) (0,a)).bind fun g=>
 some (.inl (wr .i64 (b+1),g))else
 some (.inr a)
def tV(a:am)(c:Sl Nat)(e:Int):Option (Sl Int):=
 (mE a c e).bind fun b=>
 bif b.rp then some Sl.nil else
 ((ft (Sl.mk [(-1)]) a.ao).bind fun d=>
 (bS e d.l.length).bind fun g=>
 (aJ (j_ a c b) (0,Sl.mk (d.l.set g 0))).bind fun f=>
 some f)
theorem aqg:de 163 (l7 [y1,.sl (.f .f64),I6] [.sl I6] (u3 tV)):=b7 [(16,gV (jP [(9,.op 0 I6 [])] [.bx I6 (xI)] [3,4,5] [(4,(.sl I6),.os I6)]) [(.exit 0,jK [3,4,5] [(4,(.sl I6),.os I6)])]),(23,gV (jW [(31,xI)] [4,7] [(4,(.sl I6),.os I6)]) [(.exit 2,jK [4,7] [(4,(.sl I6),.os I6)])]),(27,ot [(.normal,jK [4,9] [(4,(.sl I6),.os I6)])]),(31,mc (jV [(47,xB)]))] (tC akI (tC ok7 (tC Vx (tC akH (tC aqh tN)))))
def lw(a:Sl Int)(e:Int)(c:Sl aM):LT (Int×Sl Int) (Sl Int):=fun(d,b)=>
 bif decide (d<(c.l.length:Int))then(bS d c.l.length).bind fun f=>
 (bS (gt c.l f).To a.l.length).bind fun i=>
 (bS e a.l.length).bind fun g=>
 bif gt a.l i==wr .i64 (gt a.l g-1)then(bS e b.l.length).bind fun h=>
 some (.inr (Sl.mk (b.l.set h (gt c.l f).fU)))else
 some (.inl (wr .i64 (d+1),b))else
 some (.inr b)
def m7(f:am)(e:Sl Nat)(g:Sl Nat)(c:Sl Int)(d:Sl Int):LT (Int×Sl Int) (Sl Int):=fun(a,b)=>
 bif decide (a<(d.l.length:Int))then(ql f e g a).bind fun h=>
 (aJ (lw c a h) (0,b)).bind fun i=>
 some (.inl (wr .i64 (a+1),i))else
 some (.inr b)
def vM(a:am)(c:Sl Nat)(b:Int):Option (Sl Int×Int):=
 (mD a c).bind fun h=>
 bif(!h)then some (Sl.nil,2)else
 (bif decide (b<0)||decide (b>=(a.aU.l.length:Int))then some (Sl.nil,7)else
 (bS b a.aU.l.length).bind fun d=>
 (mE a c (gt a.aU.l d).At).bind fun k=>
 (tV a c (gt a.aU.l d).At).bind fun g=>
 (ft (Sl.mk [(-1)]) a.ao).bind fun f=>
 (aJ (m7 a c k g f) (0,f)).bind fun e=>
 (bS b a.aU.l.length).bind fun i=>
 (bS (gt a.aU.l d).At e.l.length).bind fun j=>
 some (Sl.mk (e.l.set j (gt a.aU.l i).fU),0))
theorem aqf:de 103 (l7 [y1,.sl (.f .f64),I6] [.sl I6,I6] (u3 vM)):=b7 [(20,gV (jO [(11,.so 0),(50,xI)] [.ar I6] [10000003]) [(.exit 1,jO [(11,.so 0)] [.ar I6] [10000003])]),(29,gV (jO [(11,.so 0),(59,xI)] [.ar I6] [10000004]) [(.exit 3,jO [(11,.so 0)] [.ar I6] [10000004])])] (tC afS (tC akI (tC aqg (tC ok7 (tC akH tN)))))
def mo(c:Sl Int):LT (Int×Sl (Sl Int)) (Sl (Sl Int)):=fun(a,b)=>
 bif decide (a<(c.l.length:Int))then(bS a c.l.length).bind fun f=>
 (bS a b.l.length).bind fun e=>
 (fA ((gt b.l e).l++[gt c.l f])).bind fun g=>
 (bS a b.l.length).bind fun d=>
 bif Nat.beq e d then some (.inl (wr .i64 (a+1),Sl.mk (b.l.set d (Sl.mk g))))else none else
 some (.inr b)
def ie(c:am)(g:Sl Nat):LT (Int×Sl (Sl Int)) (Int⊕(Sl (Sl Int))):=fun(a,b)=>
 bif decide (a<(c.aU.l.length:Int))then(vM c g a).bind fun(d,_)=>
 (cJ d (-1)).bind fun e=>
 bif e then some (.inr (.inl 7))else
 (aJ (mo d) (0,b)).bind fun f=>
 some (.inl (wr .i64 (a+1),f))else
 some (.inr (.inr b))
def k_(a:am)(b:Sl Nat):Option (Sl (Sl Int)×Int):=
 (mD a b).bind fun c=>
 bif(!c)then some (Sl.nil,2)else
 ((Fm (Sl.nil:Sl Int) a.ao a.ao).bind fun e=>
 (aJ (ie a b) (0,Sl.mk e)).bind fun
 |.inl f=>some (Sl.nil,f)
 |.inr d=>some (d,0))
theorem aqe:de 52 (l7 [y1,.sl (.f .f64)] [.sl (.sl I6),I6] (u2 k_)):=aP mixed apR 2 [(12,gV (jO [(6,.sr 0),(22,xI)] [.rw I6] [2]) [(.ret,jO [(4,.nl 0),(5,xI)] [] [2]),(.exit 0,jO [(6,.sr 0)] [.rw I6] [2])]),(28,gV (jO [(6,.sr 0),(36,xI)] [.rw I6] [3]) [(.exit 2,jO [(6,.sr 0)] [.rw I6] [3])])] (tC afS (tC aqf (tC Vx tN))) (by kernel_rfl)
def iL(a:aA):LT (Int×Sl (Sl (Sl Int))) (Int⊕(Sl (Sl (Sl Int)))):=fun(b,c)=>
 bif decide (b<(a.dI.l.length:Int))then(bS b a.dI.l.length).bind fun e=>
 (A8 (gt a.dI.l e)).bind fun f=>
 (k_ a.T f).bind fun(g,d)=>
 bif d !=0 then some (.inr (.inl 2))else
 (fA (c.l++[g])).bind fun h=>
 some (.inl (wr .i64 (b+1),Sl.mk h))else
 some (.inr (.inr c))
def ri(a:aA):Option (Sl (Sl (Sl Int))×Int):=
 ((mW a.T).bind fun c=>
 bif c then(qj a.T).bind fun l=>
 some (l&&decide ((a.dI.l.length:Int)>=1)&&decide ((a.dI.l.length:Int)<=16)&&(a.iU.l.length:Int)==a.T.ao)else
 some false:Option Bool).bind fun i=>
 (bif i then(nY a.BF 0 500).bind fun b=>
 bif b then(nY a.HA (a.T.aU.l.length:Int) 64).bind fun d=>
 bif d then(nY a.qf 0 65536).bind fun f=>
 bif f then(nY a.zQ 0 65536).bind fun e=>
 bif e then(nY a.A7 0 65536).bind fun n=>
 bif n then(nY a.Aw 1 65536).bind fun h=>
 some h else
 some false else
 some false else
 some false else
 some false else
 some false else
 some false:Option Bool).bind fun k=>
 (bif(!k)then some true else
 ((dz a.iU).bind fun o=>
 some o):Option Bool).bind fun g=>
 bif g then some (Sl.nil,2)else
 ((aJ (iL a) (0,Sl.nil)).bind fun
 |.inl m=>some (Sl.nil,m)
 |.inr j=>some (j,0))
theorem aqd:de 22 (l7 [y0] [.sl (.sl (.sl I6)),I6] ri):=b7 [(3,mc (jV [(4,xB)])),(5,mc (jV [(4,xB)])),(8,mc (jV [(80,xB)])),(16,gV (jO [(5,.so 0),(84,xI)] [.ar (.sl (.sl I6))] []) [(.ret,jV [(2,.nl 0),(3,xI)]),(.exit 0,jO [(5,.so 0)] [.ar (.sl (.sl I6))] [])])] (tC ok4 (tC aqG (tC afT (tC aqD (tC aqB (tC aqe tN))))))
def Cm:LT (Int×aX) aX:=fun(a,b)=>
 bif decide (a<8)then(bS a 8).bind fun c=>
 some (.inl (wr .i64 (a+1),aX.agF b (Arr.set b.Au c (-1))))else
 some (.inr b)
def ua:Option (Int×aC×Int×Mp Int ac×Int×Int×Int×Int×Arr 8 aZ×Arr 8 Int×Sl ac×Sl dE):=
 (aJ Cm (0,(⟨0,(⟨Sl.nil,Sl.nil,0,0,0,0⟩:aC),0,(Mp.none:Mp Int ac),0,(-1),0,(-1),pM (.ar 8 HI),pM (.ar 8 I6),Sl.nil,Sl.nil⟩:aX))).bind fun a=>
 some (a.cI,a.eM,a.nv,a.eG,a.gE,a.bH,a.skip,a.tI,a.vF,a.Au,a.out,a.gq)
def ao2:cR:=⟨[],[([.st (.pr (.x I6) (.pr (.x Eu) (.pr (.x I6) (.pr (.mp I6 y5) (.pr (.x I6) (.pr (.x I6) (.pr (.x I6) (.pr (.x I6) (.pr (.x (.ar 8 HI)) (.pr (.x (.ar 8 I6)) (.pr (.os y5) (.pr (.os y2) .ni))))))))))))],[])],false,[],fun _=>ua⟩
theorem akG:de 31 ao2:=b7 [(7,gV (jW [(5,xI)] [1,2] [(2,y11,h0)]) [(.exit 0,jK [1,2] [(2,y11,h0)])])] tN
def Ap(a:aA):Option (Int⊕(aj×Int)):=
 (ri a).bind fun(d,b)=>
 bif b !=0 then some (.inl b)else
 (ua.bind fun(m,c,e,g,f,n,i,h,o,k,j,l)=>
 some (.inr ((⟨a,d,Sl.nil,(⟨0,0,false,0,0,0,false,false,0⟩:ap),m,c,e,g,f,n,i,h,o,k,j,l⟩:aj),0)))
def ao1:cR:=⟨[(false,.x y0)],[([.nl 1,.x I6],[]),([.pb kp (h1),.x I6],[])],false,[],Ap⟩
theorem akF:de 7 ao1:=b7 [] (tC aqd (tC akG tN))
def As:Option Int:=some 6
def ao0:cR:=⟨[(true,.nl 1)],[([.x I6],[.nl 1])],false,[true],fun _=>As⟩
theorem aqc:de 15 ao0:=b7 [] tN
def mM(_:Int)(_:Int):Option Unit:=
 As.bind fun a=>
 bif a==6 then some ()else
 none
def aoZ:cR:=⟨[(true,.nl 1),(false,.x I6),(false,.x I6)],[([],[.nl 1])],false,[true,false,false],u2 mM⟩
theorem aqb:de 24 aoZ:=b7 [] (tC aqc tN)
def fC(a:aj):Option (Int×aj):=some (a.cX,a)
theorem Vw:de 15 (l6 kp h1 [] [I6] fC):=b7 [] tN
def mL(b:aj)(c:Int)(a:Int):Option (Bool×aj):=some (a==(-1)||decide (wr .i64 (c-a)>=b.c.Aw),b)
theorem afQ:de 109 (l6 kp h1 [I6,I6] [.b] (u3 mL)):=b7 [] tN
def n_(g:aj)(d:Int)(e:Int):LT (Int×aj) aj:=fun(a,b)=>
 bif decide (a<g.c.T.ao)then(((FB .i64 e a).bind fun h=>
 bif pT .i64 h 1==1 then(bS a 8).bind fun n=>
 (mL b d (gt b.qg.1 n)).bind fun(m,f)=>
 some (m,f)else
 some (false,b):Option (Bool×aj)).bind fun(i,c)=>
 bif i then(bS a 8).bind fun j=>
 (fA (c.oC.l++[(⟨1,a,0,0,d,0,0,0,0,Sl.nil⟩:ac)])).bind fun k=>
 some (aj.kF c (Arr.set c.qg j d) (Sl.mk k))else
 some c:Option aj).bind fun l=>
 some (.inl (wr .i64 (a+1),l))else
 some (.inr b)
def pL(a:aj)(c:Int)(b:Int):Option aj:=
 (aJ (n_ a c b) (0,a)).bind fun d=>
 some d
theorem aqa:de 57 (l6 kp h1 [I6,I6] [] (u3 pL)):=b7 [(2,gV (jW [(13,xI)] [0,13,31,76,77] [(0,kp,h1)]) [(.exit 0,jK [0,13,31,76,77] [(0,kp,h1)])]),(6,ot [(.normal,jK [0,90,108,153,154] [(0,kp,h1)])]),(10,mc (jW [(32,xB)] [0,90,108,153,154] [(0,kp,h1)]))] (tC afQ tN)
def pB(c:Int)(g:aj):LT (Int×aj) aj:=fun(b,a)=>
 bif decide (b<g.c.T.ao)then((FB .i64 (pT .i64 a.bK.ik c) b).bind fun f=>
 bif pT .i64 f 1==1 then(fA (a.oC.l++[(⟨5,b,a.bK.U,(-1),0,0,0,0,0,Sl.nil⟩:ac)])).bind fun e=>
 some (aj.wx a (Sl.mk e))else
 some a:Option aj).bind fun d=>
 some (.inl (wr .i64 (b+1),d))else
 some (.inr a)
def rf(a:aj)(c:Int)(d:Int):Option aj:=
 (bif a.bK.ik==0 then some (true,a)else
 ((mL a c a.xo).bind fun(e,g)=>
 some ((!e),g)):Option (Bool×aj)).bind fun(f,b)=>
 bif f then some b else
 ((aJ (pB d b) (0,aj.vK b c)).bind fun h=>
 some h)
theorem ap_:de 58 (l6 kp h1 [I6,I6] [] (u3 rf)):=b7 [(2,mc (jW [(23,xB)] [0,13,31,76,77] [(0,kp,h1)])),(7,gV (jW [(35,xI)] [0,90,108,153,154] [(0,kp,h1)]) [(.exit 0,jK [0,90,108,153,154] [(0,kp,h1)])]),(11,ot [(.normal,jK [0,167,185,230,231] [(0,kp,h1)])])] (tC afQ tN)
def oF:Option bl:=some (⟨1,0⟩:bl)
theorem afP:de 187 (b8 [] [y3] (fun _=>oF)):=b7 [] tN
def xh(a:Int)(b:Int):Option Int:=some (wr .i64 ((wr .i64 (wr .i64 (wr .i64 ((if 1099511627776<(if 0>a then 0 else a)then 1099511627776 else if 0>a then 0 else a)*(if 1000<(if 0>b then 0 else b)then 1000 else if 0>b then 0 else b))+1000)-1)).tdiv 1000))
theorem akE:de 185 (b8 [I6,I6] [I6] (u2 xh)):=b7 [] tN
def yn(a:Int):Option Int:=some (if 4503599627370496<(if(-4503599627370496)>a then(-4503599627370496)else a)then 4503599627370496 else if(-4503599627370496)>a then(-4503599627370496)else a)
theorem akD:de 243 (b8 [I6] [I6] yn):=b7 [] tN
def lJ(c:bl):Option bl:=
 (yn c.Lo).bind fun b=>
 (yn c.Hi).bind fun a=>
 bif decide (a<b)then oF.bind fun d=>
 some d else
 some (⟨b,a⟩:bl)
theorem YL:de 186 (b8 [y3] [y3] lJ):=b7 [] (tC akD (tC afP tN))
set_option synthInstance.maxSize 1000 in
def tn(c:bl):Option Bool:=
 (lJ c).bind fun b=>
 oF.bind fun a=>
 some (decide (b=a))
theorem ab7:de 129 (b8 [y3] [.b] tn):=b7 [] (tC YL (tC afP tN))
def yB(f:bl)(e:Int):Option bl:=
 (lJ f).bind fun a=>
 (yn e).bind fun b=>
 (tn a).bind fun d=>
 bif d then some a else
 ((lJ (⟨wr .i64 (a.Lo-(if 0>b then 0 else b)),wr .i64 (a.Hi+(if 0>b then 0 else b))⟩:bl)).bind fun c=>
 some c)
theorem akC:de 184 (b8 [y3,I6] [y3] (u2 yB)):=b7 [] (tC YL (tC akD (tC ab7 tN)))
def FA(a:aZ)(b:Int)(d:Int):Option bl:=
 bif(!a.sI)then oF.bind fun c=>
 some c else
 ((xh (wr .i64 ((if a.At>b then a.At else b)-(if a.At<b then a.At else b))) d).bind fun f=>
 (yB a.S f).bind fun e=>
 some e)
theorem akB:de 128 (b8 [HI,I6,I6] [y3] (u3 FA)):=b7 [] (tC afP (tC akE (tC akC tN)))
def CV(c:bl):Option Int:=
 (lJ c).bind fun a=>
 (tn a).bind fun b=>
 bif b then some 0 else
 some (wr .i64 (a.Lo+wr .i64 ((wr .i64 (a.Hi-a.Lo)).tdiv 2)))
theorem akA:de 188 (b8 [y3] [I6] CV):=b7 [] (tC YL (tC ab7 tN))
def DE(c:bl):Option Int:=
 (lJ c).bind fun a=>
 (tn a).bind fun b=>
 bif b then some 0 else
 ((CV a).bind fun d=>
 some (wr .i64 (a.Hi-d)))
theorem ap8:de 189 (b8 [y3] [I6] DE):=b7 [] (tC YL (tC ab7 (tC akA tN)))
def Bh(c:aZ)(a:Int)(d:Int):Option (Int×Int×Bool):=
 bif(!c.sI)||decide (a<0)||decide (a>1099511627776)then some (0,0,false)else
 ((FA c a d).bind fun b=>
 (CV b).bind fun f=>
 (DE b).bind fun e=>
 some (wr .i64 (a+f),e,true))
theorem ap7:de 131 (b8 [HI,I6,I6] [I6,I6,.b] (u3 Bh)):=b7 [] (tC akB (tC akA (tC ap8 tN)))
def ve(b:aj)(a:bj):LT (Int×Sl Int) (Bool⊕(Sl Int)):=fun(c,d)=>
 bif decide (c<(a.jm.l.length:Int))then(bS c a.jm.l.length).bind fun f=>
 (bS (gt a.jm.l f) 8).bind fun j=>
 (Bh (gt b.oD.1 j) a.At b.c.BF).bind fun(i,g,e)=>
 bif(!e)||decide (g>b.c.qf)then some (.inr (.inl false))else
 (fA (d.l++[i])).bind fun h=>
 some (.inl (wr .i64 (c+1),Sl.mk h))else
 some (.inr (.inr d))
def qM(a:aj)(d:bj):Option (Sl Int×Bool×aj):=
 (aJ (ve a d) (0,Sl.nil)).bind fun
 |.inl c=>some (Sl.nil,c,a)
 |.inr b=>some (b,true,a)
theorem akz:de 68 (l6 kp h1 [y14] [.sl I6,.b] (u2 qM)):=b7 [(7,gV (jO [(6,.so 0),(15,xI)] [.ar I6] []) [(.ret,jV [(4,.nl 0),(5,xB)]),(.exit 0,jO [(6,.so 0)] [.ar I6] [])])] (tC ap7 tN)
def i_(a:Int)(b:Int):Option Bool:=some (decide (a>=0)&&decide (a<b))
theorem afO:de 134 (b8 [I6,I6] [.b] (u2 i_)):=b7 [] tN
def wN(b:ap)(a:aI):Option (ap×Bool):=
 (bif b.hZ||b.ik !=0||a.U !=wr .i64 (b.U+1)then some true else
 ((i_ a.A 16).bind fun c=>
 bif(!c)then some true else
 (i_ a.B 1125899906842625).bind fun e=>
 some (!e)):Option Bool).bind fun d=>
 bif d then some (b,false)else
 some ((⟨a.U,b.lh,true,a.A,a.B,0,false,false,0⟩:ap),true)
theorem ap6:de 74 (b8 [Ea,xn] [Ea,.b] (u2 wN)):=b7 [(4,mc (jV [(32,xB)]))] (tC afO tN)
def pz(a:ap)(b:aI):Option (ap×Bool):=
 (bif a.hZ||b.B !=0 then some true else
 ((i_ b.A 8).bind fun c=>
 bif(!c)then some true else
 (FB .i64 a.ik b.A).bind fun f=>
 some (pT .i64 f 1==0)):Option Bool).bind fun d=>
 bif d then some (a,false)else
 ((GP .i64 1 b.A).bind fun e=>
 some ((⟨a.U,a.lh,a.hZ,a.dF,a.At,a.fx,a.lf,a.bD,fQ .i64 a.ik e⟩:ap),true))
theorem ap5:de 75 (b8 [Ea,xn] [Ea,.b] (u2 pz)):=b7 [(4,mc (jV [(27,xB)]))] (tC afO tN)
def qK(a:ap):Option ap:=some (⟨a.U,a.lh,false,0,0,0,false,false,a.ik⟩:ap)
theorem ap4:de 135 (b8 [Ea] [Ea] qK):=b7 [] tN
def mI(a:ap)(b:aI):Option (ap×Bool):=
 (bif(!a.hZ)||b.B !=0 then some true else
 some (b.A !=0&&b.bP !=2&&b.bP !=6):Option Bool).bind fun e=>
 bif e then some (a,false)else
 ((bif b.bP==2 then(bif(!a.lf)&&(!a.bD)&&b.A==a.fx then(i_ a.fx 8).bind fun j=>
 some j else
 some false:Option Bool).bind fun g=>
 some (g,(⟨a.U,a.lh,a.hZ,a.dF,a.At,wr .i64 (a.fx+1),a.lf,a.bD,a.ik⟩:ap))else
 (bif b.bP==3 then some ((!a.lf)&&(!a.bD)&&decide (a.fx>0),(⟨a.U,a.lh,a.hZ,a.dF,a.At,a.fx,true,a.bD,a.ik⟩:ap))else
 bif b.bP==4 then some ((!a.bD),(⟨a.U,a.lh,a.hZ,a.dF,a.At,a.fx,a.lf,true,a.ik⟩:ap))else
 bif b.bP==5 then(qK (⟨a.U,a.dF,a.hZ,a.dF,a.At,a.fx,a.lf,a.bD,a.ik⟩:ap)).bind fun c=>
 some (a.lf&&(!a.bD),c)else
 bif b.bP==6 then(bif a.bD then(i_ b.A 256).bind fun d=>
 some d else
 some false:Option Bool).bind fun h=>
 (qK (⟨a.U,a.lh,a.hZ,a.dF,a.At,a.fx,a.lf,a.bD,b.A⟩:ap)).bind fun f=>
 some (h,f)else
 some (false,a)):Option (Bool×ap)).bind fun(k,i)=>
 some (i,k))
theorem ap3:de 76 (b8 [Ea,xn] [Ea,.b] (u2 mI)):=b7 [(4,mc (jV [(30,xB)])),(11,ot [(.normal,jO [(2,.op 0 Ea []),(7,xB)] [.bx Ea (.x Ea)] [0])]),(17,mc (jV [(7,xB)])),(39,mc (jV [(7,xB)]))] (tC afO (tC ap4 tN))
def iK(b:ap)(a:aI):Option (ap×Int):=
 (bif a.bP==1 then(wN b a).bind fun(d,i)=>
 some (i,d)else
 (bif a.U !=b.U then some (false,b)else
 bif a.bP==7 then(pz b a).bind fun(h,c)=>
 some (c,h)else
 (mI b a).bind fun(e,f)=>
 some (f,e)):Option (Bool×ap)).bind fun(g,j)=>
 bif(!g)then some (b,5)else
 some (j,0)
theorem ap2:de 36 (b8 [Ea,xn] [Ea,I6] (u2 iK)):=b7 [(4,ot [(.normal,jO [(6,.op 0 Ea []),(7,xB)] [.bx Ea (.x Ea)] [3])])] (tC ap6 (tC ap5 (tC ap3 tN)))
def fB(a:aj)(e:Int)(b:Int)(d:Int)(c:Int):Option aj:=
 (fA (a.l.l++[(⟨e,b,d,c⟩:aI)])).bind fun f=>
 (iK a.bK (⟨e,b,d,c⟩:aI)).bind fun(g,_)=>
 some (aj.RZ a (Sl.mk f) g)
theorem RD:de 70 (l6 kp h1 [I6,I6,I6,I6] [] (u5 fB)):=b7 [] (tC ap2 tN)
def Ao(a:Int)(b:Int):Option Int:=some (wr .i64 (wr .i64 (a*8)+b))
theorem afN:de 130 (b8 [I6,I6] [I6] (u2 Ao)):=b7 [] tN
def p9(b:aj):LT (Int×aj) aj:=fun(c,a)=>
 bif decide (c<((rn b.cM).l.length:Int))then(bS c (rn b.cM).l.length).bind fun e=>
 (fA (a.oC.l++[lS a.cM (⟨0,0,0,0,0,0,0,0,0,Sl.nil⟩:ac) (gt (rn b.cM).l e)])).bind fun d=>
 some (.inl (wr .i64 (c+1),aj.wx a (Sl.mk d)))else
 some (.inr a)
def lX(a:aj)(b:Int):Option aj:=
 bif L8 a.cM then(aJ (p9 a) (0,aj.yx a b)).bind fun c=>
 some c else none
theorem aky:de 133 (l6 kp h1 [I6] [] (u2 lX)):=b7 [(4,gV (jW [(19,xI)] [0,13,31,76,77,78] [(0,kp,h1)]) [(.exit 0,jK [0,13,31,76,77,78] [(0,kp,h1)])])] (.Zv @acA (.Zv @V0 tN))
def u_(a:Sl ac):LT (Int×aj) aj:=fun(d,c)=>
 bif decide (d<(a.l.length:Int))then(bS d a.l.length).bind fun b=>
 (Ao (gt a.l b).Rd (gt a.l b).Sw).bind fun e=>
 some (.inl (wr .i64 (d+1),aj.nH c (Cw c.cM e (gt a.l b))))else
 some (.inr c)
def lA(b:aj)(c:Int)(d:Sl ac):Option aj:=
 (aJ (u_ d) (0,aj.nH b (Mp.none:Mp Int ac))).bind fun e=>
 (lX e c).bind fun a=>
 some a
theorem ab6:de 72 (l6 kp h1 [I6,.sl y5] [] (u3 lA)):=b7 [(5,gV (jW [(15,xI)] [0,13,76,77,78] [(0,kp,h1)]) [(.exit 0,jK [0,13,76,77,78] [(0,kp,h1)])])] (tC afN (tC aky tN))
def j5(a:aj)(e:Int)(c:Int)(g:Int)(d:Int)(b:Int):Option aj:=
 (fA (a.xp.l++[(⟨c,e,a.bK.U,g,d,b⟩:dE)])).bind fun f=>
 some (aj.A9 a (Sl.mk f))
theorem YK:de 71 (l6 kp h1 [I6,I6,I6,I6,I6] [] (u6 j5)):=b7 [] tN
def uY(a:aj):Option aj:=some (aj.iM a 0 (-1) (-1))
theorem afM:de 115 (l6 kp h1 [] [] uY):=b7 [] tN
def sY(a:aj)(c:Int)(_:Int):Option aj:=
 bif a.cX==1 then none else
 (bif a.cX==2 then bif decide (wr .i64 (a.oE+1)<(a.dj.aF.l.length:Int))then none else
 (fB a 3 a.bK.U 0 0).bind fun d=>
 some (aj.iG d 3)else
 bif a.cX==4 then(fB a 5 a.bK.U 0 0).bind fun b=>
 (j5 b c 9 0 b.bK.lh 0).bind fun e=>
 (uY e).bind fun f=>
 some f else
 bif a.cX==5 then some (aj.yy a (wr .i64 (wr .i64 (c+a.dj.jb)+1)))else
 some a)
theorem ap1:de 112 (l6 kp h1 [I6,I6] [] (u3 sY)):=b7 [] (tC RD (tC YK (tC afM tN)))
def Aq(b:aj)(j:Int)(i:Int)(c:Nat):LT (Int×Sl ac×aj) (Sl ac×aj):=fun(f,e,a)=>
 bif decide (f<((gt b.dj.aF.l c).jm.l.length:Int))then((bS f (gt b.dj.aF.l c).jm.l.length).bind fun d=>
 (FB .i64 (fQ .i64 i a.jT) (gt (gt b.dj.aF.l c).jm.l d)).bind fun l=>
 bif pT .i64 l 1==0 then(GP .i64 1 (gt (gt b.dj.aF.l c).jm.l d)).bind fun g=>
 some (e,aj.CO a (CL .i64 a.jT g))else
 ((fA (e.l++[(⟨5,gt (gt b.dj.aF.l c).jm.l d,a.bK.U,j,0,0,0,0,0,Sl.nil⟩:ac)])).bind fun k=>
 some (Sl.mk k,a)):Option (Sl ac×aj)).bind fun(h,m)=>
 some (.inl (wr .i64 (f+1),h,m))else
 some (.inr (e,a))
def qL(a:aj)(d:Int)(b:Int)(c:Int):Option aj:=
 (bS b a.dj.aF.l.length).bind fun i=>
 (aJ (Aq a b c i) (0,Sl.nil,aj.pX a b (-1))).bind fun(f,g)=>
 (lA g d f).bind fun e=>
 bif(f.l.length:Int)==0 then(sY e d c).bind fun h=>
 some h else
 some e
theorem akx:de 114 (l6 kp h1 [I6,I6,I6] [] (u4 qL)):=b7 [(7,gV (jP [(8,.so 0),(31,xI)] [.ar y5] [0,13,31,76,77] [(0,kp,h1)]) [(.exit 0,jP [(8,.so 0)] [.ar y5] [0,13,31,76,77] [(0,kp,h1)])]),(11,ot [(.normal,jP [(8,.so 0)] [.ar y5] [0,78,91,109,154,155] [(0,kp,h1)])])] (tC ab6 (tC ap1 tN))
def ld(a:aj)(e:Int)(c:Int):Option aj:=
 (bif(!a.bK.bD)then(fB a 4 a.bK.U 0 0).bind fun d=>
 some d else
 some a:Option aj).bind fun b=>
 (qL (aj.iG b 5) e (wr .i64 ((b.dj.aF.l.length:Int)-1)) c).bind fun f=>
 some f
theorem ab5:de 62 (l6 kp h1 [I6,I6] [] (u3 ld)):=b7 [(0,ot [(.normal,jK [0,13,31,76,77] [(0,kp,h1)])])] (tC RD (tC akx tN))
def vd(h:Int)(e:Sl Int)(b:aj)(c:Nat):LT (Int×Sl ac) (Sl ac):=fun(a,d)=>
 bif decide (a<((gt b.dj.aF.l c).jm.l.length:Int))then(bS a (gt b.dj.aF.l c).jm.l.length).bind fun i=>
 (bS a e.l.length).bind fun f=>
 (fA (d.l++[(⟨4,gt (gt b.dj.aF.l c).jm.l i,b.bK.U,h,0,gt e.l f,0,0,0,Sl.nil⟩:ac)])).bind fun g=>
 some (.inl (wr .i64 (a+1),Sl.mk g))else
 some (.inr d)
def xg(c:aj)(e:Int)(a:Int)(g:Int):Option aj:=
 (bS a c.dj.aF.l.length).bind fun l=>
 (qM c (gt c.dj.aF.l l)).bind fun(k,j,d)=>
 bif(!j)then(ld d e g).bind fun h=>
 some h else
 ((fB d 2 d.bK.U a 0).bind fun b=>
 (bS a b.dj.aF.l.length).bind fun m=>
 (aJ (vd a k b m) (0,Sl.nil)).bind fun f=>
 (lA (aj.pc b 2 a) e f).bind fun i=>
 some i)
theorem ap0:de 172 (l6 kp h1 [I6,I6,I6] [] (u4 xg)):=b7 [(16,gV (jO [(10,.so 0),(61,xI)] [.ar y5] []) [(.exit 0,jO [(10,.so 0)] [.ar y5] [])])] (tC akz (tC ab5 (tC RD (tC ab6 tN))))
def u7(a:aj)(b:Int)(c:Int):Option aj:=
 bif a.cX==1 then(xg a b 0 c).bind fun e=>
 some e else
 (bif a.cX==2 then bif decide (wr .i64 (a.oE+1)<(a.dj.aF.l.length:Int))then(xg a b (wr .i64 (a.oE+1)) c).bind fun f=>
 some f else
 (fB a 3 a.bK.U 0 0).bind fun h=>
 some (aj.iG h 3)else
 bif a.cX==4 then(fB a 5 a.bK.U 0 0).bind fun d=>
 (j5 d b 9 0 d.bK.lh 0).bind fun g=>
 (uY g).bind fun i=>
 some i else
 bif a.cX==5 then some (aj.yy a (wr .i64 (wr .i64 (b+a.dj.jb)+1)))else
 some a)
theorem akw:de 112 (l6 kp h1 [I6,I6] [] (u3 u7)):=b7 [] (tC ap0 (tC RD (tC YK (tC afM tN))))
def sD(a:aj)(b:Int):Option aj:=
 (bif decide ((a.cM.es.length:Int)>0)then(mL a b a.Eb).bind fun(d,f)=>
 some (d,f)else
 some (false,a):Option (Bool×aj)).bind fun(e,c)=>
 bif e then(lX c b).bind fun g=>
 some g else
 some c
theorem akv:de 113 (l6 kp h1 [I6] [] (u2 sD)):=b7 [(1,mc (jW [(20,xB)] [0,13,31,76,77] [(0,kp,h1)]))] (tC afQ (tC aky tN))
def u9(a:aj)(c:Int)(b:Int):Option aj:=
 bif Fa a.cM then bif decide ((a.cM.es.length:Int)>0)&&((Dg b a.cM).es.length:Int)==0 then(u7 (aj.gy a (Dg b a.cM) (tU b a.cM a.jT)) c b).bind fun f=>
 some f else
 bif a.AA==(-1)||decide (c<a.AA)then(sD (aj.gy a (Dg b a.cM) (tU b a.cM a.jT)) c).bind fun g=>
 some g else
 bif decide (a.oE>0)then(qL (aj.gy a (Dg b a.cM) (tU b a.cM a.jT)) c (wr .i64 (a.oE-1)) b).bind fun i=>
 some i else
 (GP .i64 1 a.c.T.ao).bind fun d=>
 (fB (aj.gy a (Dg b a.cM) (tU b a.cM a.jT)) 6 a.bK.U (CL .i64 (tU b a.cM a.jT) (fQ .i64 (wr .i64 (d-1)) b)) 0).bind fun h=>
 (j5 h c 10 0 (CL .i64 (tU b a.cM a.jT) (fQ .i64 (wr .i64 (d-1)) b)) 0).bind fun e=>
 (uY e).bind fun j=>
 some j else none
theorem apZ:de 59 (l6 kp h1 [I6,I6] [] (u3 u9)):=b7 [] (.Zv @agb (tC akw (tC akv (tC akx (tC RD (tC YK (tC afM tN)))))))
def re(a:aC)(g:Int)(b:Nat):LT (Int×Int×Arr 8 Int) (Int×Arr 8 Int):=fun(f,e,c)=>
 bif decide (e<((gt a.aF.l b).jm.l.length:Int))then(bS e (gt a.aF.l b).jm.l.length).bind fun d=>
 (GP .i64 1 (gt (gt a.aF.l b).jm.l d)).bind fun h=>
 (bS (gt (gt a.aF.l b).jm.l d) 8).bind fun i=>
 (GP .i64 1 g).bind fun j=>
 (bS (gt (gt a.aF.l b).jm.l d) 8).bind fun k=>
 some (.inl (CL .i64 f h,wr .i64 (e+1),Arr.set c k (CL .i64 (gt c.1 i) j)))else
 some (.inr (f,c))
def nZ(b:aC):LT (Int×Int×Arr 8 Int) (Int×Arr 8 Int):=fun(d,a,c)=>
 bif decide (a<(b.aF.l.length:Int))then(bS a b.aF.l.length).bind fun f=>
 (aJ (re b a f) (d,0,c)).bind fun(g,e)=>
 some (.inl (g,wr .i64 (a+1),e))else
 some (.inr (d,c))
def n9(a:aC):Option (Int×Arr 8 Int):=
 (aJ (nZ a) (0,0,pM (.ar 8 I6))).bind fun(b,c)=>
 some (b,c)
theorem afL:de 67 (b8 [Eu] [I6,.ar 8 I6] n9):=b7 [(7,gV (jO [(4,xI),(5,.op 0 (.ar 8 I6) []),(14,xI)] [.bx (.ar 8 I6) (.x (.ar 8 I6))] [2]) [(.exit 0,jO [(4,xI),(5,.op 0 (.ar 8 I6) [])] [.bx (.ar 8 I6) (.x (.ar 8 I6))] [2])]),(16,gV (jO [(4,xI),(5,.op 0 (.ar 8 I6) []),(22,xI)] [.bx (.ar 8 I6) (.x (.ar 8 I6))] [3]) [(.exit 2,jO [(4,xI),(5,.op 0 (.ar 8 I6) [])] [.bx (.ar 8 I6) (.x (.ar 8 I6))] [3])])] tN
def BB(c:aj)(d:Int)(h:Arr 8 Int):LT (Int×Sl ac) (Sl ac):=fun(a,b)=>
 bif decide (a<c.c.T.ao)then((FB .i64 d a).bind fun g=>
 bif pT .i64 g 1==1 then(bS a 8).bind fun f=>
 (fA (b.l++[(⟨6,a,c.bK.U,0,0,0,0,0,gt h.1 f,Sl.nil⟩:ac)])).bind fun i=>
 some (Sl.mk i)else
 some b:Option (Sl ac)).bind fun e=>
 some (.inl (wr .i64 (a+1),e))else
 some (.inr b)
def wP(a:aj)(e:Int):Option aj:=
 (n9 a.dj).bind fun(b,f)=>
 (aJ (BB a b f) (0,Sl.nil)).bind fun d=>
 (lA (aj.iG a 4) e d).bind fun c=>
 some c
theorem apY:de 116 (l6 kp h1 [I6] [] (u2 wP)):=b7 [(9,gV (jO [(6,.so 0),(27,xI)] [.ar y5] []) [(.exit 0,jO [(6,.so 0)] [.ar y5] [])]),(13,ot [(.normal,jO [(6,.so 0)] [.ar y5] [88])])] (tC afL (tC ab6 tN))
def sC(a:aj)(b:Int)(c:Int):Option aj:=
 (n9 a.dj).bind fun(d,_)=>
 (bif a.cX==2 then some a.oE else
 some 0:Option Int).bind fun k=>
 bif fQ .i64 d c !=0 then(ld a b c).bind fun j=>
 some j else
 ((bif decide (a.cX<=2)then(bS k a.dj.aF.l.length).bind fun h=>
 some (decide (b>=wr .i64 ((gt a.dj.aF.l h).At-a.c.A7)))else
 some false:Option Bool).bind fun g=>
 bif g then(ld a b c).bind fun i=>
 some i else
 bif a.cX==3&&decide (b>a.dj.To)then(wP a b).bind fun e=>
 some e else
 (sD a b).bind fun f=>
 some f)
theorem apX:de 60 (l6 kp h1 [I6,I6] [] (u3 sC)):=b7 [(4,ot [(.normal,jV [(8,xI)])]),(12,mc (jV [(41,xB)]))] (tC afL (tC ab5 (tC apY (tC akv tN))))
def lB(f:aj)(c:Int)(b:Int):Option aj:=
 (fC f).bind fun(e,d)=>
 bif e==6 then some d else
 ((pL d c b).bind fun a=>
 bif a.cX==0 then(rf a c b).bind fun i=>
 some i else
 bif a.cX==5 then(u9 a c b).bind fun g=>
 some g else
 (sC a c b).bind fun h=>
 some h)
theorem aer:de 24 (l6 kp h1 [I6,I6] [] (u3 lB)):=b7 [] (tC Vw (tC aqa (tC ap_ (tC apZ (tC apX tN)))))
def LY(a:Int):Option Int:=
 bif a==1 then some 1 else
 (bif a==2 then some 7 else
 bif a==3 then some 152 else
 bif a==4 then some 26 else
 bif a==5 then some 24 else
 bif a==6 then some 72 else
 bif a==7 then some 60 else
 bif a==8 then some 124 else
 some 0)
theorem am1:de 119 (b8 [I6] [I6] LY):=b7 [] tN
theorem aez:Lz prog 119 (adE [(1,1),(2,7),(3,152),(4,26),(5,24),(6,72),(7,60),(8,124)] 0):=Xl (fn:=LY) (ro:=true) am1 fun x=>rfl
def gP(a:Int)(b:Int)(c:Int):Option Bool:=some (decide (a>=b)&&decide (a<=c))
theorem aeq:de 120 (b8 [I6,I6,I6] [.b] (u3 gP)):=b7 [] tN
def qI(a:ac):Option ac:=
 bif a.bP==1 then some (⟨a.bP,a.Sw,0,0,a.T1,0,0,0,0,Sl.nil⟩:ac)else
 (bif a.bP==2 then some (⟨a.bP,a.Sw,0,0,a.T1,a.T2,a.jb,0,0,Sl.nil⟩:ac)else
 bif a.bP==3 then some (⟨a.bP,a.Sw,a.U,a.Rd,0,0,0,0,0,a.gW⟩:ac)else
 bif a.bP==4 then some (⟨a.bP,a.Sw,a.U,a.Rd,0,a.T2,0,0,0,Sl.nil⟩:ac)else
 bif a.bP==5 then some (⟨a.bP,a.Sw,a.U,a.Rd,0,0,0,0,0,Sl.nil⟩:ac)else
 bif a.bP==6 then some (⟨a.bP,a.Sw,a.U,0,0,0,0,0,a.Code,Sl.nil⟩:ac)else
 bif a.bP==7 then some (⟨a.bP,a.Sw,a.U,a.Rd,0,0,a.jb,a.Of,0,Sl.nil⟩:ac)else
 bif a.bP==8 then some (⟨a.bP,a.Sw,a.U,a.Rd,0,0,a.jb,a.Of,a.Code,Sl.nil⟩:ac)else
 some (⟨a.bP,a.Sw,0,0,0,0,0,0,0,Sl.nil⟩:ac))
theorem am0:de 122 (l7 [y5] [y5] qI):=aP mixed apQ 1 [(7,{u:=12})] (.Zv (@aez inferInstance) tN) (by kernel_rfl)
def FH(a:bR)(b:bR):Option Bool:=some (a.KP==b.KP&&decide (a.M=b.M))
theorem amZ:de 277 (b8 [y7,y7] [.b] (u2 FH)):=b7 [] tN
def fW(s1_0:Sl cz)(s2_1:Sl cz):LT Int (Bool⊕Unit):=fun a=>
 bif decide (a<(s1_0.l.length:Int))then(bS a s1_0.l.length).bind fun b=>
 (bS a s2_1.l.length).bind fun c=>
 bif(!(decide ((gt s1_0.l b)=(gt s2_1.l c))))then some (.inr (.inl false))else
 some (.inl (wr .i64 (a+1)))else
 some (.inr (.inr ()))
def iH(s1_0:Sl cz)(s2_1:Sl cz):Option Bool:=
 bif(s1_0.l.length:Int) !=(s2_1.l.length:Int)then some false else
 ((aJ (fW s1_0 s2_1) 0).bind fun
 |.inl a=>some a
 |.inr _=>some true)
theorem amY:de 322 (b8 [.sl y9,.sl y9] [.b] (u2 iH)):=b7 [(10,gV (jV [(13,xI)]) [(.ret,jV [(4,xB)]),(.exit 0,j0)])] tN
def BE(b:Sl cz)(c:Sl cz):Option Bool:=
 (iH b c).bind fun a=>
 some a
theorem amX:de 278 (b8 [.sl y9,.sl y9] [.b] (u2 BE)):=b7 [] (tC amY tN)
def DI(a:bR)(b:bR):Option Bool:=
 ((FH a b).bind fun c=>
 bif c then(BE a.Ct b.Ct).bind fun e=>
 some e else
 some false:Option Bool).bind fun d=>
 some d
theorem amW:de 240 (b8 [y7,y7] [.b] (u2 DI)):=b7 [(3,mc (jV [(4,xB)]))] (tC amZ (tC amX tN))
def lR(a:aV)(b:aV):Option Bool:=
 (bif a.bP==b.bP&&a.Uv==b.Uv then(DI a.R b.R).bind fun d=>
 some d else
 some false:Option Bool).bind fun c=>
 some c
theorem amV:de 181 (b8 [y6,y6] [.b] (u2 lR)):=b7 [(3,mc (jV [(4,xB)]))] (tC amW tN)
def bi(s1_0:Sl aV)(s2_1:Sl aV):LT Int (Bool⊕Unit):=fun a=>
 bif decide (a<(s1_0.l.length:Int))then(bS a s1_0.l.length).bind fun c=>
 (bS a s2_1.l.length).bind fun d=>
 (lR (gt s1_0.l c) (gt s2_1.l d)).bind fun b=>
 bif(!b)then some (.inr (.inl false))else
 some (.inl (wr .i64 (a+1)))else
 some (.inr (.inr ()))
def aT(s1_0:Sl aV)(s2_1:Sl aV):Option Bool:=
 bif(s1_0.l.length:Int) !=(s2_1.l.length:Int)then some false else
 ((aJ (bi s1_0 s2_1) 0).bind fun
 |.inl a=>some a
 |.inr _=>some true)
def aj7:cR:=⟨[(false,.x (.sl y6)),(false,.x (.sl y6)),(false,.fn 181 .ni)],[([.x .b],[])],true,[],u2 aT⟩
theorem amU:de 180 aj7:=b7 [(10,gV (jV [(17,xI)]) [(.ret,jV [(6,xB)]),(.exit 0,j0)])] (tC amV tN)
def nh(a:ac)(b:ac):Option Bool:=
 (bif a.bP==b.bP&&a.Sw==b.Sw&&a.U==b.U&&a.Rd==b.Rd&&a.T1==b.T1&&a.T2==b.T2&&a.jb==b.jb&&a.Of==b.Of&&a.Code==b.Code then(aT a.gW b.gW).bind fun d=>
 some d else
 some false:Option Bool).bind fun c=>
 some c
theorem amS:de 121 (b8 [y5,y5] [.b] (u2 nh)):=b7 [(3,mc (jV [(4,xB)]))] (tC amU tN)
def Af(a:Int):Option Int:=
 (bif a==0 then some (a==0)else
 (bif a==1 then some (a==1)else
 some (a==3)):Option Bool).bind fun b=>
 bif b then some 8 else
 (bif a==2 then some 4 else
 some 0)
theorem amR:de 323 (b8 [I6] [I6] Af):=b7 [(5,ot [(.normal,jV [(4,xB)])])] tN
def nk(b:Int):Option Int:=
 (Af b).bind fun a=>
 (GP .i64 1 a).bind fun c=>
 some (wr .i64 (c-1))
theorem YT:de 279 (b8 [I6] [I6] nk):=b7 [] (tC amR tN)
def nW(b:ck):LT Int (Bool⊕Unit):=fun a=>
 bif decide (a<4)then(bS a 4).bind fun c=>
 (bif decide (gt b.QA.1 c<0)then some true else
 ((nk a).bind fun d=>
 bif decide (gt b.QA.1 c>d)then some true else
 (bS a 4).bind fun g=>
 bif decide (gt b.Val.1 g<0)then some true else
 (bS a 4).bind fun e=>
 some (fQ .i64 (gt b.Val.1 e) (gt b.QA.1 c) !=0)):Option Bool).bind fun f=>
 bif f then some (.inr (.inl false))else
 some (.inl (wr .i64 (a+1)))else
 some (.inr (.inr ()))
def tZ(a:ck):Option Bool:=
 bif decide (a.fU<(-1))||decide (a.fU>=8)then some false else
 ((aJ (nW a) 0).bind fun
 |.inl b=>some b
 |.inr _=>some true)
def aj3:cR:=⟨[(false,.x y8)],[([.x .b],[])],true,[],tZ⟩
theorem amQ:de 241 aj3:=b7 [(10,gV (jV [(15,xI)]) [(.ret,jV [(2,xB)]),(.exit 0,j0)]),(18,mc (jV [(42,xB)]))] (tC YT tN)
set_option synthInstance.maxSize 1000 in
def uc(a:cz)(d:Int):Option Bool:=
 bif a.bP==1 then(bif decide (a.F>=0)&&decide (a.F<4)&&decide (a.V>=0)then(nk a.F).bind fun c=>
 some (decide (a.V<=c))else
 some false:Option Bool).bind fun b=>
 some b else
 (bif a.bP==2 then some (a.F==0&&decide (a.V>=0)&&decide (a.V<d))else
 some (decide (a=(⟨3,0,0⟩:cz))))
theorem amP:de 282 (b8 [y9,I6] [.b] (u2 uc)):=b7 [(8,mc (jV [(4,xB)]))] (tC YT tN)
def xj(b:cz)(c:Int):Option Bool:=
 (uc b c).bind fun a=>
 some (!a)
def aj1:cR:=⟨[(false,.x y9),(false,.pt I6)],[([.x .b],[])],true,[],u2 xj⟩
theorem amO:de 281 aj1:=b7 [] (tC amP tN)
def dp(b:Sl cz)(c:Int):LT Int (Int⊕Unit):=fun a=>
 bif decide (a<(b.l.length:Int))then(bS a b.l.length).bind fun e=>
 (xj (gt b.l e) c).bind fun d=>
 bif d then some (.inr (.inl a))else
 some (.inl (wr .i64 (a+1)))else
 some (.inr (.inr ()))
def ez(b:Sl cz)(a:Int):Option Int:=
 (aJ (dp b a) 0).bind fun
 |.inl c=>some c
 |.inr _=>some (-1)
def aj0:cR:=⟨[(false,.x (.sl y9)),(false,.fn 281 (.pr (.pt I6) .ni))],[([.x I6],[])],true,[],u2 ez⟩
theorem amN:de 324 aj0:=b7 [(5,gV (jV [(8,xI)]) [(.ret,jV [(4,xI)]),(.exit 0,j0)])] (tC amO tN)
def dV(c:Sl cz)(a:Int):Option Bool:=
 (ez c a).bind fun b=>
 some (decide (b>=0))
def ajZ:cR:=⟨[(false,.x (.sl y9)),(false,.fn 281 (.pr (.pt I6) .ni))],[([.x .b],[])],true,[],u2 dV⟩
theorem amM:de 280 ajZ:=b7 [] (tC amN tN)
def yw(a:Sl cz)(d:Int):Option Bool:=
 (bif decide ((a.l.length:Int)<=16)then(dV a d).bind fun c=>
 some (!c)else
 some false:Option Bool).bind fun b=>
 some b
theorem amL:de 242 (b8 [.sl y9,I6] [.b] (u2 yw)):=b7 [(3,mc (jV [(4,xB)]))] (tC amM tN)
def qn(a:bR)(d:Int):Option Bool:=
 (bif decide (a.KP>=0)&&decide (a.KP<65536)then(tZ a.M).bind fun b=>
 bif b then(yw a.Ct d).bind fun e=>
 some e else
 some false else
 some false:Option Bool).bind fun c=>
 some c
theorem amK:de 183 (b8 [y7,I6] [.b] (u2 qn)):=b7 [(3,mc (jV [(4,xB)]))] (tC amQ (tC amL tN))
def uN(a:aV):Option Bool:=
 ((gP a.bP 1 5).bind fun d=>
 bif d then(qn a.R 8).bind fun b=>
 some b else
 some false:Option Bool).bind fun c=>
 some c
theorem amJ:de 125 (b8 [y6] [.b] uN):=b7 [(3,mc (jV [(2,xB)]))] (tC aeq (tC amK tN))
def pH(b:aV):Option Bool:=
 (uN b).bind fun a=>
 some (!a)
theorem amI:de 124 (b8 [y6] [.b] pH):=b7 [] (tC amJ tN)
def b_(b:Sl aV):LT Int (Int⊕Unit):=fun a=>
 bif decide (a<(b.l.length:Int))then(bS a b.l.length).bind fun d=>
 (pH (gt b.l d)).bind fun c=>
 bif c then some (.inr (.inl a))else
 some (.inl (wr .i64 (a+1)))else
 some (.inr (.inr ()))
def cO(b:Sl aV):Option Int:=
 (aJ (b_ b) 0).bind fun
 |.inl a=>some a
 |.inr _=>some (-1)
def ajU:cR:=⟨[(false,.x (.sl y6)),(false,.fn 124 .ni)],[([.x I6],[])],true,[],cO⟩
theorem amH:de 182 ajU:=b7 [(5,gV (jV [(8,xI)]) [(.ret,jV [(4,xI)]),(.exit 0,j0)])] (tC amI tN)
def bQ(b:Sl aV):Option Bool:=
 (cO b).bind fun a=>
 some (decide (a>=0))
def ajT:cR:=⟨[(false,.x (.sl y6)),(false,.fn 124 .ni)],[([.x .b],[])],true,[],bQ⟩
theorem amG:de 123 ajT:=b7 [] (tC amH tN)
def ly(a:ac):Option Bool:=
 (bif a.bP==1 then some 1 else
 (bif a.bP==2 then some 7 else
 bif a.bP==3 then some 152 else
 bif a.bP==4 then some 26 else
 bif a.bP==5 then some 24 else
 bif a.bP==6 then some 72 else
 bif a.bP==7 then some 60 else
 bif a.bP==8 then some 124 else
 some 0):Option Int).bind fun b=>
 (bif b==0 then some true else
 ((gP a.Sw 0 7).bind fun g=>
 bif(!g)then some true else
 (qI a).bind fun l=>
 (nh l a).bind fun e=>
 some (!e)):Option Bool).bind fun i=>
 bif i then some false else
 ((bif a.bP==5||a.bP==7||a.bP==8 then some (-1)else
 some 0:Option Int).bind fun j=>
 ((gP a.T1 0 1125899906842624).bind fun o=>
 bif(!o)then some true else
 ((gP a.T2 (-1125899906842624) 1125899906842624).bind fun n=>
 bif(!n)then some true else
 (gP a.jb 0 65535).bind fun p=>
 some (!p)):Option Bool).bind fun q=>
 bif q then some false else
 ((bif pT .i64 b 8 !=0 then(gP a.U 1 65535).bind fun t=>
 some (!t)else
 some false:Option Bool).bind fun c=>
 bif c then some c else
 ((bif pT .i64 b 16 !=0 then(gP a.Rd j 7).bind fun h=>
 some (!h)else
 some false:Option Bool).bind fun d=>
 bif d then some d else
 (bif pT .i64 b 32 !=0 then(gP a.Of 3 6).bind fun r=>
 some (!r)else
 some false:Option Bool).bind fun k=>
 some k):Option Bool).bind fun f=>
 bif f then some false else
 (gP a.Code 0 255).bind fun m=>
 bif(!m)||decide ((a.gW.l.length:Int)>16)then some false else
 (bQ a.gW).bind fun s=>
 some (!s))
theorem amF:de 63 (b8 [y5] [.b] ly):=b7 [(3,mc (jV [(3,xI)])),(6,mc (jV [(22,xB)])),(11,ot [(.normal,jV [(4,xI)])]),(17,mc (jV [(36,xB)])),(20,ot [(.normal,jV [(53,xB)])]),(22,mc (jV [(53,xB)])),(24,mc (jV [(53,xB)])),(25,mc (jV [(53,xB)]))] (.Zv (@aez inferInstance) (tC aeq (tC am0 (tC amS (tC amG tN)))))
def EC(t1_0:Int)(t2_1:Int)(t4_2:Int)(c:Int):Option bl:=
 (xh (wr .i64 (t4_2-t1_0)) c).bind fun b=>
 (yB (⟨wr .i64 (t2_1-t4_2),wr .i64 (t2_1-t1_0)⟩:bl) b).bind fun a=>
 some a
theorem amE:de 126 (b8 [I6,I6,I6,I6] [y3] (u4 EC)):=b7 [] (tC akE (tC akC tN))
def DD(c:bl)(e:bl):Option bl:=
 (lJ c).bind fun a=>
 (lJ e).bind fun b=>
 (lJ (⟨(if b.Lo>a.Lo then b.Lo else a.Lo),(if b.Hi<a.Hi then b.Hi else a.Hi)⟩:bl)).bind fun d=>
 some d
theorem amD:de 127 (b8 [y3,y3] [y3] (u2 DD)):=b7 [] (tC YL tN)
def Bg(a:aZ)(t1_1:Int)(t2_2:Int)(t4_3:Int)(c:Int):Option (aZ×Int):=
 bif decide (t1_1<0)||decide (t4_3<t1_1)||decide (t4_3>1099511627776)||decide (t2_2<(-1125899906842624))||decide (t2_2>1125899906842624)then some (a,2)else
 (bif a.sI&&decide (t4_3<a.At)then some (a,2)else
 (EC t1_1 t2_2 t4_3 c).bind fun b=>
 (bif a.sI then(FA a t4_3 c).bind fun g=>
 (DD b g).bind fun f=>
 some f else
 some b:Option bl).bind fun d=>
 (tn d).bind fun e=>
 bif e then some (a,16)else
 some ((⟨true,d,t4_3⟩:aZ),0))
theorem amC:de 64 (b8 [HI,I6,I6,I6,I6] [HI,I6] (u5 Bg)):=b7 [(13,ot [(.normal,jO [(12,.op 0 y3 [])] [.bx y3 (.x y3)] [4])])] (tC amE (tC akB (tC amD (tC ab7 tN))))
def lW(a:aj)(b:ac):Option (Bool×aj):=
 (Ao b.Rd b.Sw).bind fun c=>
 (bif Db a.cM c&&(lS a.cM (⟨0,0,0,0,0,0,0,0,0,Sl.nil⟩:ac) c).bP==b.Of then some (decide (a.cX>=1)&&decide (a.cX<=2)||a.cX==4||a.cX==5)else
 some false:Option Bool).bind fun d=>
 some (d,a)
theorem aep:de 66 (l6 kp h1 [y5] [.b] (u2 lW)):=b7 [(5,mc (jV [(4,xB)]))] (tC afN tN)
def sE(b:aj)(e:Int)(a:ac)(g:Int):Option aj:=
 bif b.cX==0 then(bif a.Of==5&&a.Rd==(-1)then(FB .i64 b.bK.ik a.Sw).bind fun j=>
 some (pT .i64 j 1==1)else
 some false:Option Bool).bind fun i=>
 bif i then(fB b 7 b.bK.U a.Sw 0).bind fun k=>
 (j5 k e 11 a.Sw 0 0).bind fun l=>
 some l else
 some b else
 ((lW b a).bind fun(f,c)=>
 bif(!f)then some c else
 (Ao a.Rd a.Sw).bind fun d=>
 bif((Br c.cM d).es.length:Int)==0 then(u7 (aj.nH c (Br c.cM d)) e g).bind fun h=>
 some h else
 some (aj.nH c (Br c.cM d)))
theorem amB:de 65 (l6 kp h1 [I6,y5,I6] [] (u4 sE)):=b7 [(7,mc (jV [(33,xB)]))] (tC RD (tC YK (tC aep (tC afN (tC akw tN)))))
def mN(i:aj)(d:Int)(a:ac)(e:Int):Option aj:=
 ((fC i).bind fun(o,c)=>
 bif o==6 then some (true,c)else
 ((ly a).bind fun l=>
 some ((!l)||decide (a.Sw>=c.c.T.ao),c)):Option (Bool×aj)).bind fun(k,b)=>
 bif k then some b else
 (bif a.bP==2 then(bS a.Sw 8).bind fun g=>
 (Bg (gt b.oD.1 g) a.T1 a.T2 d b.c.BF).bind fun(p,n)=>
 bif n==0 then(bS a.Sw 8).bind fun q=>
 some (aj.AB b (Arr.set b.oD q p))else
 some b else
 bif a.U !=b.bK.U then some b else
 bif a.bP==7 then(sE b d a e).bind fun s=>
 some s else
 (bif a.bP==8&&a.Of !=5 then(lW b a).bind fun(r,j)=>
 some (r,j)else
 some (false,b):Option (Bool×aj)).bind fun(h,f)=>
 bif h then(ld f d e).bind fun m=>
 some m else
 some f)
theorem aeo:de 27 (l6 kp h1 [I6,y5,I6] [] (u4 mN)):=b7 [(4,mc (jW [(28,xB)] [0,13,31,76,77] [(0,kp,h1)])),(18,mc (jW [(83,xB)] [0,91,109,154,155] [(0,kp,h1)]))] (tC Vw (tC amF (tC amC (tC amB (tC aep (tC ab5 tN))))))
def nq(a:aj):Option (Sl ac×Sl dE×aj):=some (a.oC,a.xp,aj.ox a Sl.nil Sl.nil)
theorem aen:de 11 (l6 kp h1 [] [.sl y5,.sl y2] nq):=b7 [] tN
def Bf(a:Int):Option Int:=some (wr .i64 (wr .i64 (2*(if 1073741824<(if 0>a then 0 else a)then 1073741824 else if 0>a then 0 else a))+2))
theorem amA:de 118 (b8 [I6] [I6] Bf):=b7 [] tN
def uO(a:Int)(b:Int):Option Bool:=some (decide (a>=0)&&decide (a<=b))
theorem amz:de 173 (b8 [I6,I6] [.b] (u2 uO)):=b7 [] tN
def AH(a:Int):Option Bool:=some (decide (a<0)||decide (a>=8))
theorem amy:de 299 (b8 [I6] [.b] AH):=b7 [] tN
def dQ(b:Sl Int):LT Int (Int⊕Unit):=fun a=>
 bif decide (a<(b.l.length:Int))then(bS a b.l.length).bind fun d=>
 (AH (gt b.l d)).bind fun c=>
 bif c then some (.inr (.inl a))else
 some (.inl (wr .i64 (a+1)))else
 some (.inr (.inr ()))
def d8(b:Sl Int):Option Int:=
 (aJ (dQ b) 0).bind fun
 |.inl a=>some a
 |.inr _=>some (-1)
def ajH:cR:=⟨[(false,.x (.sl I6)),(false,.fn 299 .ni)],[([.x I6],[])],true,[],d8⟩
theorem amx:de 101 ajH:=b7 [(5,gV (jV [(8,xI)]) [(.ret,jV [(4,xI)]),(.exit 0,j0)])] (tC amy tN)
def dl(b:Sl Int):Option Bool:=
 (d8 b).bind fun a=>
 some (decide (a>=0))
def ajG:cR:=⟨[(false,.x (.sl I6)),(false,.fn 299 .ni)],[([.x .b],[])],true,[],dl⟩
theorem amw:de 50 ajG:=b7 [] (tC amx tN)
def nQ(f:am)(a:Sl (Sl Int)):LT Int (Bool⊕Unit):=fun b=>
 bif decide (b<(a.l.length:Int))then(bS b a.l.length).bind fun c=>
 (bif((gt a.l c).l.length:Int) !=(f.aU.l.length:Int)then some true else
 ((dl (gt a.l c)).bind fun d=>
 some d):Option Bool).bind fun e=>
 bif e then some (.inr (.inl false))else
 some (.inl (wr .i64 (b+1)))else
 some (.inr (.inr ()))
def mF(a:am)(b:Sl (Sl Int)):Option Bool:=
 (mW a).bind fun c=>
 bif(!c)||(b.l.length:Int) !=a.ao then some false else
 ((aJ (nQ a b) 0).bind fun
 |.inl d=>some d
 |.inr _=>some true)
theorem YS:de 270 (b8 [y1,.sl (.sl I6)] [.b] (u2 mF)):=b7 [(10,gV (jV [(19,xI)]) [(.ret,jV [(4,xB)]),(.exit 0,j0)]),(18,mc (jV [(32,xB)]))] (tC ok4 (tC amw tN))
def tq(a:Sl (Sl Int))(b:Int)(c:Int):Option (Int×Bool):=
 (bif decide (b<0)||decide (b>=(a.l.length:Int))||decide (c<0)then some true else
 ((bS b a.l.length).bind fun g=>
 some (decide (c>=((gt a.l g).l.length:Int)))):Option Bool).bind fun f=>
 bif f then some (0,false)else
 ((bS b a.l.length).bind fun d=>
 (bS c (gt a.l d).l.length).bind fun e=>
 some (gt (gt a.l d).l e,true))
theorem aem:de 300 (b8 [.sl (.sl I6),I6,I6] [I6,.b] (u3 tq)):=b7 [(4,mc (jV [(28,xB)]))] tN
def kH(a:Sl Int):Option Bool:=
 (bif decide ((a.l.length:Int)>0)then(rG a.l 0 (wr .i64 ((a.l.length:Int)-1))).bind fun d=>
 (bS (wr .i64 ((a.l.length:Int)-1)) a.l.length).bind fun b=>
 (cJ (a.to d) (gt a.l b)).bind fun e=>
 some e else
 some false:Option Bool).bind fun c=>
 some c
theorem amv:de 301 (b8 [.sl I6] [.b] kH):=b7 [(3,mc (jV [(2,xB)]))] (tC Vx tN)
def us(a:am)(e:Int)(d:Int):LT Int ((Int×Int×Int×Bool)⊕Unit):=fun c=>
 bif decide (c<(a.aS.l.length:Int))then(bS c a.aS.l.length).bind fun b=>
 bif decide ((⟨e,d⟩:bJ)=(⟨(gt a.aS.l b).A,(gt a.aS.l b).jD⟩:bJ))then some (.inr (.inl ((gt a.aS.l b).B,(gt a.aS.l b).jC,c,true)))else
 bif decide ((⟨e,d⟩:bJ)=(⟨(gt a.aS.l b).B,(gt a.aS.l b).jC⟩:bJ))then some (.inr (.inl ((gt a.aS.l b).A,(gt a.aS.l b).jD,c,true)))else
 some (.inl (wr .i64 (c+1)))else
 some (.inr (.inr ()))
def ym(e:am)(f:Int)(d:Int):Option (Int×Int×Int×Bool):=
 (aJ (us e f d) 0).bind fun
 |.inl (g,a,c,b)=>some (g,a,c,b)
 |.inr _=>some (0,0,0,false)
theorem amu:de 333 (b8 [y1,I6,I6] [I6,I6,I6,.b] (u3 ym)):=b7 [(7,gV (jV [(21,xI)]) [(.ret,jV [(6,xI),(7,xI),(8,xI),(9,xB)]),(.exit 0,j0)])] tN
def vV(f:am)(d:Sl (Sl Int))(a:Int)(e:Int):Option (Int×Bool):=
 (tq d a e).bind fun(b,h)=>
 bif(!h)then some (0,false)else
 ((ym f a b).bind fun(g,_,_,c)=>
 some (g,c))
theorem amt:de 302 (b8 [y1,.sl (.sl I6),I6,I6] [I6,.b] (u4 vV)):=b7 [] (tC aem (tC amu tN))
def m_(e:am)(b:Sl (Sl Int))(d:Int):(Sl Int)->Option (Sl Int⊕((Int×Sl Int)⊕Unit)):=fun a=>
 (kH a).bind fun i=>
 bif(!i)then(bS (wr .i64 ((a.l.length:Int)-1)) a.l.length).bind fun c=>
 (bS d e.aU.l.length).bind fun j=>
 (bS (gt a.l c) b.l.length).bind fun f=>
 (bS d (gt b.l f).l.length).bind fun k=>
 bif decide ((gt e.aU.l j)=(⟨gt a.l c,gt (gt b.l f).l k⟩:dY))then some (.inr (.inl (0,a)))else
 (vV e b (gt a.l c) d).bind fun(l,h)=>
 bif(!h)then some (.inr (.inl (13,Sl.nil)))else
 (fA (a.l++[l])).bind fun g=>
 some (.inl (Sl.mk g))else
 some (.inr (.inr ()))
def vS(c:am)(a:Sl (Sl Int))(d:Int)(b:Int):Option (Sl Int×Int):=
 (tq a d b).bind fun(_,i)=>
 (bif(!i)then some true else
 ((mF c a).bind fun g=>
 some (!g)):Option Bool).bind fun h=>
 bif h then some (Sl.nil,2)else
 ((aJ (m_ c a b) (Sl.mk [d])).bind fun
 |.inl (f,e)=>some (e,f)
 |.inr _=>some (Sl.nil,12))
theorem ams:de 271 (l7 [y1,.sl (.sl I6),I6,I6] [.sl I6,I6] (u4 vS)):=b7 [(6,mc (jV [(30,xB)])),(12,gV (jO [(12,.so 0)] [.ar I6] [3]) [(.ret,jO [(8,.so 0),(9,xI)] [.ar I6] [3]),(.exit 0,jO [] [] [3])])] (tC aem (tC YS (tC amv (tC amt tN))))
def oI(g:am)(b:Sl (Sl Int))(d:Int):LT (Int×Sl Int) (Sl Int):=fun(a,c)=>
 bif decide (a<(b.l.length:Int))then(vS g b a d).bind fun(e,_)=>
 (fA (c.l++[wr .i64 ((e.l.length:Int)-1)])).bind fun f=>
 some (.inl (wr .i64 (a+1),Sl.mk f))else
 some (.inr c)
def vW(b:am)(c:Sl (Sl Int))(a:Int):Option (Sl Int):=
 (mF b c).bind fun d=>
 bif(!d)||decide (a<0)||decide (a>=(b.aU.l.length:Int))then some Sl.nil else
 ((aJ (oI b c a) (0,Sl.nil)).bind fun e=>
 some e)
theorem ael:de 233 (l7 [y1,.sl (.sl I6),I6] [.sl I6] (u3 vW)):=b7 [(12,gV (jO [(7,.so 0),(28,xI)] [.ar I6] []) [(.exit 0,jO [(7,.so 0)] [.ar I6] [])])] (tC YS (tC ams tN))
def pD(b:am)(e:Sl (Sl Int)):LT Int (Bool⊕Unit):=fun a=>
 bif decide (a<(b.aU.l.length:Int))then(vW b e a).bind fun c=>
 (cJ c (-1)).bind fun d=>
 bif d then some (.inr (.inl false))else
 some (.inl (wr .i64 (a+1)))else
 some (.inr (.inr ()))
def tw(b:am)(a:Sl (Sl Int)):Option Bool:=
 (mF b a).bind fun c=>
 bif(!c)then some false else
 ((aJ (pD b a) 0).bind fun
 |.inl d=>some d
 |.inr _=>some true)
theorem amr:de 232 (b8 [y1,.sl (.sl I6)] [.b] (u2 tw)):=b7 [(10,gV (jV [(13,xI)]) [(.ret,jV [(4,xB)]),(.exit 0,j0)])] (tC YS (tC ael (tC Vx tN)))
theorem amq:de 234 spM:=ar2
def lT(d:Sl (Sl Int))(b:Sl (Sl Int))(c:Int)(f:Sl Int):LT (Int×Sl aD) (Sl aD):=fun(a,e)=>
 bif decide (a<(b.l.length:Int))then((bS a b.l.length).bind fun h=>
 (bS c (gt b.l h).l.length).bind fun j=>
 (bS a d.l.length).bind fun g=>
 (bS c (gt d.l g).l.length).bind fun o=>
 bif gt (gt b.l h).l j !=gt (gt d.l g).l o then(bS a b.l.length).bind fun i=>
 (bS c (gt b.l i).l.length).bind fun l=>
 (bS a f.l.length).bind fun m=>
 (fA (e.l++[(⟨a,c,gt (gt b.l i).l l,gt f.l m⟩:aD)])).bind fun n=>
 some (Sl.mk n)else
 some e:Option (Sl aD)).bind fun k=>
 some (.inl (wr .i64 (a+1),k))else
 some (.inr e)
def nX(c:am)(e:Sl (Sl Int))(d:Sl (Sl Int)):LT (Int×Sl aD) (Sl aD):=fun(a,b)=>
 bif decide (a<(c.aU.l.length:Int))then(vW c d a).bind fun f=>
 (aJ (lT e d a f) (0,b)).bind fun g=>
 some (.inl (wr .i64 (a+1),g))else
 some (.inr b)
def t6(a:am)(b:Sl (Sl Int))(e:Sl (Sl Int)):Option (Sl aD×Int):=
 ((tw a b).bind fun f=>
 bif(!f)then some true else
 ((tw a e).bind fun h=>
 some (!h)):Option Bool).bind fun g=>
 bif g then some (Sl.nil,2)else
 ((aJ (nX a b e) (0,Sl.nil)).bind fun d=>
 (ar4 d).bind fun c=>
 (py c d).bind fun _=>
 some (c,0))
theorem amp:de 174 (l7 [y1,.sl (.sl I6),.sl (.sl I6)] [.sl xn,I6] (u3 t6)):=b7 [(4,mc (jV [(21,xB)])),(12,gV (jO [(8,.so 0),(25,xI)] [.ar xn] []) [(.exit 0,jO [(8,.so 0)] [.ar xn] [])]),(23,gV (jO [(8,.so 0),(34,xI)] [.ar xn] [1]) [(.exit 2,jO [(8,.so 0)] [.ar xn] [1])]),(27,ot [(.normal,jO [(8,.so 0)] [.ar xn] [3])])] (tC amr (tC ael (tC amq tN)))
def mn(a:am):LT (Int×Int) Int:=fun(c,b)=>
 bif decide (b<(a.aS.l.length:Int))then(bS b a.aS.l.length).bind fun d=>
 some (.inl ((if(gt a.aS.l d).rI>c then(gt a.aS.l d).rI else c),wr .i64 (b+1)))else
 some (.inr c)
def qQ(a:am):Option Int:=
 (aJ (mn a) (0,0)).bind fun b=>
 some b
theorem amo:de 236 (b8 [y1] [I6] qQ):=b7 [(7,gV (jV [(3,xI),(9,xI)]) [(.exit 0,jV [(3,xI)])])] tN
def wb(a:am):Option Int:=
 (qQ a).bind fun b=>
 some (wr .i64 (a.ao*b))
theorem aek:de 175 (b8 [y1] [I6] wb):=b7 [] (tC amo tN)
theorem amn:de 237 spJ:=ar3
omit [Bx]in
theorem amm:sG prog 238 (Si I6 vG):=aae
def pw(b:Sl aD):LT (Int×Sl Int) (Sl Int):=fun(a,c)=>
 bif decide (a<(b.l.length:Int))then(bS a b.l.length).bind fun e=>
 (fA (c.l++[(gt b.l e).CC])).bind fun d=>
 some (.inl (wr .i64 (a+1),Sl.mk d))else
 some (.inr c)
def oQ(d:Sl aD):Option (Sl Int):=
 (aJ (pw d) (0,Sl.nil)).bind fun b=>
 (ar5 b).bind fun a=>
 (py a b).bind fun _=>
 (Wi vG a).bind fun c=>
 some c
theorem aml:de 176 (l7 [.sl xn] [.sl I6] oQ):=b7 [(7,gV (jO [(3,.so 0),(8,xI)] [.ar I6] []) [(.exit 0,jO [(3,.so 0)] [.ar I6] [])])] (tC amn (tC amm tN))
def Bp(c:am)(a:Int):Option Int:=
 (wb c).bind fun b=>
 some (wr .i64 (wr .i64 (wr .i64 (2*a)+b)+1))
theorem amk:de 178 (b8 [y1,I6] [I6] (u2 Bp)):=b7 [] (tC aek tN)
def Cl(a:bT)(b:Int):Option Bool:=some (decide (a.I<0)||decide (a.I>=b)||decide (a.J<0)||decide (a.J>=b)||decide (a.Gap<(-1073741824))||decide (a.Gap>1073741824))
def ajs:cR:=⟨[(false,.x y9),(false,.pt I6)],[([.x .b],[])],true,[],u2 Cl⟩
theorem amj:de 321 ajs:=b7 [] tN
def cK(b:Sl bT)(c:Int):LT Int (Int⊕Unit):=fun a=>
 bif decide (a<(b.l.length:Int))then(bS a b.l.length).bind fun e=>
 (Cl (gt b.l e) c).bind fun d=>
 bif d then some (.inr (.inl a))else
 some (.inl (wr .i64 (a+1)))else
 some (.inr (.inr ()))
def cV(b:Sl bT)(a:Int):Option Int:=
 (aJ (cK b a) 0).bind fun
 |.inl c=>some c
 |.inr _=>some (-1)
def ajr:cR:=⟨[(false,.x (.sl y9)),(false,.fn 321 (.pr (.pt I6) .ni))],[([.x I6],[])],true,[],u2 cV⟩
theorem ami:de 340 ajr:=b7 [(5,gV (jV [(8,xI)]) [(.ret,jV [(4,xI)]),(.exit 0,j0)])] (tC amj tN)
def cL(c:Sl bT)(a:Int):Option Bool:=
 (cV c a).bind fun b=>
 some (decide (b>=0))
def ajq:cR:=⟨[(false,.x (.sl y9)),(false,.fn 321 (.pr (.pt I6) .ni))],[([.x .b],[])],true,[],u2 cL⟩
theorem amh:de 320 ajq:=b7 [] (tC ami tN)
def wj(a:Int)(b:Sl bT):Option Bool:=
 bif decide (a<0)||decide (a>64)||decide ((b.l.length:Int)>256)then some false else
 ((cL b a).bind fun c=>
 some (!c))
theorem amg:de 275 (b8 [I6,.sl y9] [.b] (u2 wj)):=b7 [] (tC amh tN)
def jZ(a:Sl bT):LT (Int×Int×Sl Int×Sl Int) (Int×Sl Int×Sl Int):=fun(f,e,b,d)=>
 bif decide (e<(a.l.length:Int))then((bS e a.l.length).bind fun c=>
 (bS (gt a.l c).I b.l.length).bind fun g=>
 (bS (gt a.l c).J b.l.length).bind fun k=>
 bif decide (wr .i64 (gt b.l g+(gt a.l c).Gap)>gt b.l k)then(bS (gt a.l c).J b.l.length).bind fun j=>
 (bS (gt a.l c).J d.l.length).bind fun i=>
 some ((gt a.l c).J,Sl.mk (b.l.set j (wr .i64 (gt b.l g+(gt a.l c).Gap))),Sl.mk (d.l.set i e))else
 some (f,b,d):Option (Int×Sl Int×Sl Int)).bind fun(h,m,l)=>
 some (.inl (h,wr .i64 (e+1),m,l))else
 some (.inr (f,b,d))
def oU(h:Int)(i:Sl bT):LT (Int×Int×Sl Int×Sl Int) (Int×Sl Int×Sl Int):=fun(g,d,b,c)=>
 bif decide (d<wr .i64 (h+1))then(aJ (jZ i) ((-1),0,b,c)).bind fun(a,e,f)=>
 bif decide (a<0)then some (.inr (a,e,f))else
 some (.inl (a,wr .i64 (d+1),e,f))else
 some (.inr (g,b,c))
def yv(a:Int)(g:Sl bT):Option (Sl Int×Sl Int×Int):=
 (Fm 0 a a).bind fun e=>
 (Fm 0 a a).bind fun d=>
 (aJ (oU a g) ((-1),0,Sl.mk e,Sl.mk d)).bind fun(f,c,b)=>
 some (c,b,f)
theorem amf:de 276 (l7 [I6,.sl y9] [.sl I6,.sl I6,I6] (u2 yv)):=b7 [(10,gV (jO [(7,.so 0),(8,.so 1),(9,xI),(19,xI)] [.ar I6,.ar I6] [1000000,3000000]) [(.exit 0,jO [(7,.so 0),(8,.so 1),(9,xI)] [.ar I6,.ar I6] [1000000,3000000])]),(20,gV (jO [(7,.so 0),(8,.so 1),(9,xI),(23,xI)] [.ar I6,.ar I6] [6000000,6000001]) [(.exit 2,jO [(7,.so 0),(8,.so 1),(9,xI)] [.ar I6,.ar I6] [6000000,6000001])]),(24,ot [(.normal,jO [(7,.so 0),(8,.so 1),(9,xI)] [.ar I6,.ar I6] [6000002,6000003])])] tN
def sB(a:Int)(b:Sl bT):Option (Sl Int×Bool):=
 (wj a b).bind fun d=>
 bif(!d)then some (Sl.nil,false)else
 ((yv a b).bind fun(e,_,c)=>
 bif decide (c>=0)then some (Sl.nil,false)else
 some (e,true))
theorem ame:de 239 (l7 [I6,.sl y9] [.sl I6,.b] (u2 sB)):=b7 [] (tC amg (tC amf tN))
def pI(c:Int)(d:Int):LT (Int×Sl bT) (Sl bT):=fun(a,b)=>
 bif decide (a<c)then(fA (b.l++[(⟨wr .i64 (a-1),a,d⟩:bT)])).bind fun e=>
 some (.inl (wr .i64 (a+1),Sl.mk e))else
 some (.inr b)
def tD(a:Int)(d:Int):Option (Sl Int):=
 (aJ (pI a d) (1,Sl.nil)).bind fun c=>
 (sB a c).bind fun(b,_)=>
 some b
theorem amd:de 177 (l7 [I6,I6] [.sl I6] (u2 tD)):=b7 [(7,gV (jO [(5,.so 0),(6,xI)] [.ar y9] []) [(.exit 0,jO [(5,.so 0)] [.ar y9] [])])] (tC ame tN)
def mG(a:Sl aD)(f:Int):LT (Int×Sl Int) (Sl Int):=fun(c,b)=>
 bif decide (c<(a.l.length:Int))then((bS c a.l.length).bind fun d=>
 (bif(gt a.l d).CC==f then(cJ b (gt a.l d).Sw).bind fun e=>
 some (!e)else
 some false:Option Bool).bind fun h=>
 bif h then(fA (b.l++[(gt a.l d).Sw])).bind fun g=>
 some (Sl.mk g)else
 some b:Option (Sl Int)).bind fun i=>
 some (.inl (wr .i64 (c+1),i))else
 some (.inr b)
def Bo(a:Sl aD)(c:Int):Option (Sl Int):=
 (aJ (mG a c) (0,Sl.nil)).bind fun b=>
 some b
theorem amc:de 179 (l7 [.sl xn,I6] [.sl I6] (u2 Bo)):=b7 [(7,gV (jO [(5,.so 0),(10,xI)] [.ar I6] []) [(.exit 0,jO [(5,.so 0)] [.ar I6] [])]),(11,ot [(.normal,jO [(5,.so 0)] [.ar I6] [0])]),(15,mc (jV [(24,xB)]))] (tC Vx tN)
def oP(s:Int)(q:Int)(p:Int)(j:Sl aD)(r:Int)(b:Sl Int)(c:Sl Int):LT (Int×Sl aD×Int×Int×Int×Int×Sl bj) (Sl aD×Int×Int×Int×Int×Sl bj):=fun(a,e,h,f,g,d,i)=>
 bif decide (a<(c.l.length:Int))then(bS a c.l.length).bind fun l=>
 (bS a b.l.length).bind fun k=>
 (bS a b.l.length).bind fun o=>
 (Bo j (gt b.l o)).bind fun n=>
 (fA (i.l++[(⟨gt b.l k,wr .i64 (wr .i64 (wr .i64 (wr .i64 (wr .i64 (s+p)+q)+r)+1)+gt c.l l),n⟩:bj)])).bind fun m=>
 some (.inl (wr .i64 (a+1),e,h,f,g,d,Sl.mk m))else
 some (.inr (e,h,f,g,d,i))
def lG(e:am)(p:Sl (Sl Int))(n:Sl (Sl Int))(g:Int)(a:Int)(d:Int):Option (aC×Int):=
 ((uO g 1099511627776).bind fun s=>
 bif(!s)then some true else
 ((uO a 1048576).bind fun o=>
 bif(!o)then some true else
 (uO d 1048576).bind fun r=>
 some (!r)):Option Bool).bind fun q=>
 bif q then some ((⟨Sl.nil,Sl.nil,0,0,0,0⟩:aC),2)else
 ((t6 e p n).bind fun(c,h)=>
 bif h !=0 then some ((⟨Sl.nil,Sl.nil,0,0,0,0⟩:aC),h)else
 bif(c.l.length:Int)==0 then some ((⟨Sl.nil,Sl.nil,0,0,0,0⟩:aC),7)else
 (wb e).bind fun f=>
 (oQ c).bind fun k=>
 (Bp e a).bind fun u=>
 (tD (k.l.length:Int) u).bind fun t=>
 (aJ (oP g a d c f k t) (0,c,a,f,0,0,Sl.nil)).bind fun(m,l,j,_,_,b)=>
 (bS (wr .i64 ((b.l.length:Int)-1)) b.l.length).bind fun i=>
 bif decide (wr .i64 ((gt b.l i).At+a)>1099511627776)then some ((⟨Sl.nil,Sl.nil,0,0,0,0⟩:aC),11)else
 some ((⟨m,b,l,j,wr .i64 (wr .i64 (wr .i64 (wr .i64 (wr .i64 (wr .i64 (g+d)+a)+f)+1)-a)-j),wr .i64 ((gt b.l i).At+a)⟩:aC),0))
theorem amb:de 117 (l7 [y1,.sl (.sl I6),.sl (.sl I6),I6,I6,I6] [Eu,I6] (u6 lG)):=b7 [(4,mc (jV [(33,xB)])),(27,gV (jO [(16,.op 0 Eu []),(75,xI)] [.bx Eu (.rc (.co (.x (.sl xn)) (.co (.so 1) (.co (xI) (.co (xI) (.co (xI) (.co (xI) .ni))))))),.ar y14] [5]) [(.exit 1,(jO [(16,.op 0 Eu [])] [.bx Eu (.rc (.co (.x (.sl xn)) (.co (.so 1) (.co (xI) (.co (xI) (.co (xI) (.co (xI) .ni))))))),.ar y14] [5]))])] (tC amz (tC amp (tC aek (tC aml (tC amk (tC amd (tC amc tN)))))))
def mK(a:aj)(d:Int)(f:Int):Option (aC×Int×aj):=
 (bS a.bK.lh a.gp.l.length).bind fun h=>
 (bS d a.gp.l.length).bind fun e=>
 (Bf a.c.qf).bind fun g=>
 (lG a.c.T (gt a.gp.l h) (gt a.gp.l e) f g a.c.zQ).bind fun(b,c)=>
 some (b,c,a)
theorem aej:de 61 (l6 kp h1 [I6,I6] [Eu,I6] (u3 mK)):=b7 [] (tC amA (tC amb tN))
def DS:Option ck:=some (⟨(-1),pM (.ar 4 I6),pM (.ar 4 I6)⟩:ck)
def aji:cR:=⟨[],[([.x y8],[])],true,[],fun _=>DS⟩
theorem ama:de 325 aji:=b7 [] tN
def F3(a:Int)(c:Int):Option ck:=
 DS.bind fun b=>
 ((bif decide (a>=0)&&decide (a<4)&&decide (c>=0)then(nk a).bind fun i=>
 some (decide (c<=i))else
 some false:Option Bool).bind fun g=>
 bif g then(nk a).bind fun d=>
 (bS a 4).bind fun h=>
 (bS a 4).bind fun e=>
 some (⟨b.fU,Arr.set b.Val h c,Arr.set b.QA e d⟩:ck)else
 some b:Option ck).bind fun f=>
 some f
def ajh:cR:=⟨[(false,.x I6),(false,.x I6)],[([.x y8],[])],true,[],u2 F3⟩
theorem al_:de 283 ajh:=b7 [(4,ot [(.normal,jO [(5,.op 0 y8 [])] [.bx y8 (.x y8)] [10])]),(6,mc (jV [(22,xB)]))] (tC ama (tC YT tN))
def DJ(c:Int)(a:Int)(d:Int):Option bR:=
 (F3 c a).bind fun b=>
 some (⟨d,b,Sl.nil⟩:bR)
theorem al9:de 244 (l7 [I6,I6,I6] [y7] (u3 DJ)):=b7 [] (tC al_ tN)
def vQ(b:Int)(d:Int)(e:Int)(c:Int):Option bR:=
 (DJ b d e).bind fun a=>
 some (⟨a.KP,a.M,Sl.mk [(⟨2,0,c⟩:cz)]⟩:bR)
theorem al8:de 190 (l7 [I6,I6,I6,I6] [y7] (u4 vQ)):=b7 [] (tC al9 tN)
def jY(a:Sl aD)(g:Int)(i:Int):LT (Int×Sl aV) (Sl aV):=fun(d,c)=>
 bif decide (d<(a.l.length:Int))then((bS d a.l.length).bind fun b=>
 bif(gt a.l b).CC==g&&(gt a.l b).Sw==i then(vQ 1 (gt a.l b).adz 10 (gt a.l b).fU).bind fun e=>
 (fA (c.l++[(⟨3,e,false⟩:aV)])).bind fun h=>
 some (Sl.mk h)else
 some c:Option (Sl aV)).bind fun f=>
 some (.inl (wr .i64 (d+1),f))else
 some (.inr c)
def lU(b:Sl aD)(c:Int)(d:Int):Option (Sl aV):=
 (aJ (jY b c d) (0,Sl.nil)).bind fun a=>
 some a
theorem al7:de 132 (l7 [.sl xn,I6,I6] [.sl y6] (u3 lU)):=b7 [(7,gV (jO [(7,.so 0),(12,xI)] [.ar y6] []) [(.exit 0,jO [(7,.so 0)] [.ar y6] [])]),(11,ot [(.normal,jO [(7,.so 0)] [.ar y6] [0])])] (tC al8 tN)
def pJ(a:aC)(h:Int)(b:Nat):LT (Int×Sl gX) (Sl gX):=fun(c,e)=>
 bif decide (c<((gt a.aF.l b).jm.l.length:Int))then(bS c (gt a.aF.l b).jm.l.length).bind fun d=>
 (bS h a.aF.l.length).bind fun g=>
 (lU a.sH (gt a.aF.l g).No (gt (gt a.aF.l b).jm.l d)).bind fun f=>
 (fA (e.l++[(⟨gt (gt a.aF.l b).jm.l d,f⟩:gX)])).bind fun i=>
 some (.inl (wr .i64 (c+1),Sl.mk i))else
 some (.inr e)
def wa(b:aC)(a:Int):Option (Sl gX):=
 bif decide (a<0)||decide (a>=(b.aF.l.length:Int))then some Sl.nil else
 ((bS a b.aF.l.length).bind fun d=>
 (aJ (pJ b a d) (0,Sl.nil)).bind fun c=>
 some c)
theorem al6:de 69 (l7 [Eu,I6] [.sl y17] (u2 wa)):=b7 [(12,gV (jO [(5,.so 0),(24,xI)] [.ar y17] []) [(.exit 0,jO [(5,.so 0)] [.ar y17] [])])] (tC al7 tN)
def mP(e:Int)(g:aj)(a:Sl gX):LT (Int×Sl ac) (Sl ac):=fun(b,c)=>
 bif decide (b<(a.l.length:Int))then(bS b a.l.length).bind fun d=>
 (fA (c.l++[(⟨3,(gt a.l d).Sw,wr .i64 (g.bK.U+1),e,0,0,0,0,0,(gt a.l d).gW⟩:ac)])).bind fun f=>
 some (.inl (wr .i64 (b+1),Sl.mk f))else
 some (.inr c)
def mO(b:aC):LT (Int×Sl ac×aj) ((Int×aj)⊕(Sl ac×aj)):=fun(a,e,d)=>
 bif decide (a<(b.aF.l.length:Int))then(bS a b.aF.l.length).bind fun i=>
 (qM d (gt b.aF.l i)).bind fun(_,h,c)=>
 bif(!h)then some (.inr (.inl (15,c)))else
 (wa b a).bind fun g=>
 (aJ (mP a c g) (0,e)).bind fun f=>
 some (.inl (wr .i64 (a+1),f,c))else
 some (.inr (.inr (e,d)))
def kh(h:aj)(c:Int)(d:Int)(k:Int):Option (Int×aj):=
 (fC h).bind fun(s,a)=>
 bif s !=0||a.bK.ik !=0||decide (a.bK.U>=65535)then some (16,a)else
 ((bif decide (d<0)||decide (d>=(a.gp.l.length:Int))then some true else
 ((nY c 0 1099511627776).bind fun p=>
 some (!p)):Option Bool).bind fun o=>
 bif o then some (2,a)else
 (mK a d c).bind fun(b,f,e)=>
 bif f !=0 then some (f,e)else
 (n9 b).bind fun(q,_)=>
 bif fQ .i64 q k !=0 then some (16,e)else
 (aJ (mO b) (0,Sl.nil,e)).bind fun
 |.inl (j,m)=>some (j,m)
 |.inr (i,g)=>(fB g 1 (wr .i64 (g.bK.U+1)) d c).bind fun l=>
 (j5 (aj.kE l b 0) c 8 0 b.QD b.To).bind fun n=>
 (lA (aj.iG n 1) c i).bind fun r=>
 some (0,r))
theorem aei:de 28 (l6 kp h1 [I6,I6,I6] [I6] (u4 kh)):=b7 [(9,mc (jV [(54,xB)])),(31,gV (jP [(13,.so 0),(77,xI)] [.ar y5] [0,168,186,231,232] [(0,kp,h1)]) [(.ret,jW [(8,xI)] [0,168,186,231,232] [(0,kp,h1)]),(.exit 0,jP [(13,.so 0)] [.ar y5] [0,168,186,231,232] [(0,kp,h1)])]),(47,gV (jO [(13,.so 0),(94,xI)] [.ar y5] [251]) [(.exit 2,jO [(13,.so 0)] [.ar y5] [251])])] (tC Vw (tC afT (tC aej (tC afL (tC akz (tC al6 (tC RD (tC YK (tC ab6 tN)))))))))
def f0(a:Sl aI):Option (Sl aI):=
 bif a.rp then some Sl.nil else
 ((fA ([]++a.l)).bind fun b=>
 some (AZ (Sl.mk []) a.l b))
def ajb:cR:=⟨[(false,.x (.sl xn))],[([.os xn],[])],true,[],f0⟩
theorem al5:de 35 ajb:=b7 [] tN
def pC(a:aj):Option (Sl aI×aj):=
 (f0 a.l).bind fun b=>
 some (b,a)
def aja:cR:=⟨[(true,.pb kp (h1))],[([.os xn],[.pb kp (h1)])],false,[true],pC⟩
theorem aeh:de 13 aja:=b7 [] (tC al5 tN)
def zb:LT (Int×aj) aj:=fun(a,b)=>
 bif decide (a<3)then(mN b 0 (⟨2,a,0,0,0,wr .i64 (3*a),0,0,0,Sl.nil⟩:ac) 7).bind fun c=>
 some (.inl (wr .i64 (a+1),c))else
 some (.inr b)
def mH:Option Bool:=
 De.bind fun y=>
 (Ap y).bind fun
 |.inl f=>((Ap (⟨(⟨1,Sl.nil,Sl.nil⟩:am),Sl.mk [Sl.nil,Sl.nil],Sl.mk [0],0,0,0,0,0,1⟩:aA)).bind fun
 |.inl w=>(bif f !=0||w !=0 then some false else
 (mM 0 7).bind fun _=>
 none)
 |.inr (_,p)=>bif f !=0||p !=0 then some false else
 (mM 0 7).bind fun _=>
 none)
 |.inr (d,g)=>((Ap (⟨(⟨1,Sl.nil,Sl.nil⟩:am),Sl.mk [Sl.nil,Sl.nil],Sl.mk [0],0,0,0,0,0,1⟩:aA)).bind fun
 |.inl x=>(bif g !=0||x !=0 then some false else
 (lB d 0 7).bind fun _=>
 none)
 |.inr (b,z)=>bif g !=0||z !=0 then some false else
 (lB d 0 7).bind fun n=>
 (aJ zb (0,n)).bind fun j=>
 (nq j).bind fun(l,_,k)=>
 (kh k 1 1 7).bind fun(t,r)=>
 (nq r).bind fun(s,c,e)=>
 (bif(l.l.length:Int)==3&&t==0 then(fC e).bind fun(i,a)=>
 bif i==1&&(s.l.length:Int)==2&&(c.l.length:Int)==1 then(bS 0 c.l.length).bind fun o=>
 bif(gt c.l o).bP==8 then(kh b 0 1 1).bind fun(q,h)=>
 bif q==7 then(pC a).bind fun(m,v)=>
 some ((m.l.length:Int)==1,v,h)else
 some (false,a,h)else
 some (false,a,b)else
 some (false,a,b)else
 some (false,e,b):Option (Bool×aj×aj)).bind fun(u,_,_)=>
 some u)
def ai_:cR:=b8 [] [.b] (fun _=>mH)
theorem al4:de 9 ai_:=b7 [(16,gV (jW [(5,xI)] [11,183,201,246,247] [(11,kp,h1)]) [(.exit 0,jK [11,183,201,246,247] [(11,kp,h1)])]),(30,mc (jW [(0,xB)] [11,92,105,123,168,169,494,512,557,558] [(11,kp,h1),(92,kp,h1)]))] (tC ok2 (tC akF (tC aqb (tC aer (tC aeo (tC aen (tC aei (tC Vw (tC aeh tN)))))))))
omit [Bx]in
theorem ar1:@mH Bn=some true:=by decide+kernel
def ar0:Option Bool:=some true
omit [Bx]in
theorem ar6:sG prog 9 {@ai_ Bn with fn:=fun _=>ar0}:=(@al4 Bn).le fun p z h=>by
 have e:(@ai_ Bn).fn p=@mH Bn:=by unfold ai_;with_reducible rfl
 rw[e,ar1];exact h
def sc(a:am)(g:Int)(f:Int):LT (Int×Int) Int:=fun(d,c)=>
 bif decide (c<(a.aS.l.length:Int))then((bS c a.aS.l.length).bind fun b=>
 (bif(gt a.aS.l b).A==g&&(gt a.aS.l b).jD==f then some (wr .i64 (d+1))else
 some d:Option Int).bind fun e=>
 bif(gt a.aS.l b).B==g&&(gt a.aS.l b).jC==f then some (wr .i64 (e+1))else
 some e:Option Int).bind fun h=>
 some (.inl (h,wr .i64 (c+1)))else
 some (.inr d)
def r_(a:am)(g:Int)(f:Int):LT (Int×Int) Int:=fun(c,b)=>
 bif decide (b<(a.aU.l.length:Int))then(((bS b a.aU.l.length).bind fun e=>
 bif(gt a.aU.l e).At==g then(bS b a.aU.l.length).bind fun h=>
 some ((gt a.aU.l h).fU==f)else
 some false:Option Bool).bind fun d=>
 bif d then some (wr .i64 (c+1))else
 some c:Option Int).bind fun i=>
 some (.inl (i,wr .i64 (b+1)))else
 some (.inr c)
def vZ(c:am)(b:Int)(a:Int):Option Bool:=
 (aJ (sc c b a) (0,0)).bind fun d=>
 (aJ (r_ c b a) (d,0)).bind fun e=>
 some (decide (b>=0)&&decide (b<c.ao)&&decide (a>=0)&&decide (a<=7)&&e==1)
theorem al3:de 105 (b8 [y1,I6,I6] [.b] (u3 vZ)):=b7 [(7,gV (jV [(7,xI),(8,xI)]) [(.exit 0,jV [(7,xI)])]),(11,ot [(.normal,jV [(7,xI)])]),(14,ot [(.normal,jV [(7,xI)])]),(25,gV (jV [(7,xI),(10,xI)]) [(.exit 2,jV [(7,xI)])]),(29,ot [(.normal,jV [(7,xI)])]),(31,mc (jV [(71,xB)]))] tN
def uK(a:am):LT Int (Bool⊕Unit):=fun c=>
 bif decide (c<(a.aS.l.length:Int))then(bS c a.aS.l.length).bind fun b=>
 (bif(gt a.aS.l b).A==(gt a.aS.l b).B||decide ((gt a.aS.l b).xT<1)||decide ((gt a.aS.l b).xT>(gt a.aS.l b).rI)||decide ((gt a.aS.l b).rI>1000)then some true else
 ((vZ a (gt a.aS.l b).A (gt a.aS.l b).jD).bind fun d=>
 bif(!d)then some true else
 (vZ a (gt a.aS.l b).B (gt a.aS.l b).jC).bind fun e=>
 some (!e)):Option Bool).bind fun f=>
 bif f then some (.inr (.inl false))else
 some (.inl (wr .i64 (c+1)))else
 some (.inr (.inr ()))
def uJ(a:am):LT Int (Bool⊕Unit):=fun b=>
 bif decide (b<(a.aU.l.length:Int))then(bS b a.aU.l.length).bind fun d=>
 (bS b a.aU.l.length).bind fun c=>
 (vZ a (gt a.aU.l d).At (gt a.aU.l c).fU).bind fun e=>
 bif(!e)then some (.inr (.inl false))else
 some (.inl (wr .i64 (b+1)))else
 some (.inr (.inr ()))
def oy(a:am):Option Bool:=
 bif decide (a.ao<1)||decide (a.ao>8)||decide ((a.aS.l.length:Int)>24)||decide ((a.aU.l.length:Int)>8)then some false else
 ((aJ (uK a) 0).bind fun
 |.inl b=>some b
 |.inr _=>(aJ (uJ a) 0).bind fun
 |.inl c=>some c
 |.inr _=>some true)
theorem YR:de 54 (b8 [y1] [.b] oy):=b7 [(10,gV (jV [(3,xI)]) [(.ret,jV [(2,xB)]),(.exit 0,j0)]),(18,mc (jV [(77,xB)])),(25,gV (jV [(5,xI)]) [(.ret,jV [(2,xB)]),(.exit 2,j0)])] (tC al3 tN)
def pF(f:am)(g:Int):LT (Int×Sl Int) (Sl Int):=fun(b,a)=>
 bif decide (b<f.ao)then(bif b==g then(fA (a.l++[0])).bind fun e=>
 some (Sl.mk e)else
 ((fA (a.l++[(-1)])).bind fun c=>
 some (Sl.mk c)):Option (Sl Int)).bind fun d=>
 some (.inl (wr .i64 (b+1),d))else
 some (.inr a)
def sf(a:am)(d:Int):LT (Int×Sl Int) (Sl Int):=fun(e,b)=>
 bif decide (e<(a.aS.l.length:Int))then((bS e a.aS.l.length).bind fun f=>
 (bS e a.aS.l.length).bind fun g=>
 (((bS (gt a.aS.l f).A b.l.length).bind fun p=>
 bif gt b.l p==d then(bS (gt a.aS.l g).B b.l.length).bind fun h=>
 some (gt b.l h==(-1))else
 some false:Option Bool).bind fun i=>
 bif i then(bS (gt a.aS.l g).B b.l.length).bind fun m=>
 some (Sl.mk (b.l.set m (wr .i64 (d+1))))else
 some b:Option (Sl Int)).bind fun c=>
 ((bS (gt a.aS.l g).B c.l.length).bind fun k=>
 bif gt c.l k==d then(bS (gt a.aS.l f).A c.l.length).bind fun l=>
 some (gt c.l l==(-1))else
 some false:Option Bool).bind fun n=>
 bif n then(bS (gt a.aS.l f).A c.l.length).bind fun o=>
 some (Sl.mk (c.l.set o (wr .i64 (d+1))))else
 some c:Option (Sl Int)).bind fun j=>
 some (.inl (wr .i64 (e+1),j))else
 some (.inr b)
def se(b:am):LT (Int×Sl Int) (Sl Int):=fun(a,c)=>
 bif decide (a<b.ao)then(aJ (sf b a) (0,c)).bind fun d=>
 some (.inl (wr .i64 (a+1),d))else
 some (.inr c)
def B2(a:am)(d:Int):Option (Sl Int):=
 (aJ (pF a d) (0,Sl.nil)).bind fun c=>
 (aJ (se a) (0,c)).bind fun b=>
 some b
theorem al2:de 106 (l7 [y1,I6] [.sl I6] (u2 B2)):=b7 [(7,gV (jO [(5,.so 0),(6,xI)] [.ar I6] []) [(.exit 0,jO [(5,.so 0)] [.ar I6] [])]),(11,ot [(.normal,jO [(5,.so 0)] [.ar I6] [1])]),(20,gV (jO [(5,.so 0),(7,xI)] [.ar I6] [1]) [(.exit 2,jO [(5,.so 0)] [.ar I6] [1])]),(27,gV (jO [(5,.so 0),(8,xI)] [.ar I6] [2]) [(.exit 4,jO [(5,.so 0)] [.ar I6] [2])]),(31,ot [(.normal,jO [(5,.so 0)] [.ar I6] [3])]),(34,ot [(.normal,jO [(5,.so 0)] [.ar I6] [3])]),(36,mc (jV [(63,xB)])),(39,mc (jV [(81,xB)]))] tN
def uy(a:Sl Int):LT Int (Bool⊕Unit):=fun b=>
 bif decide (b<(a.l.length:Int))then(bS b a.l.length).bind fun c=>
 bif decide (gt a.l c<0)then some (.inr (.inl false))else
 some (.inl (wr .i64 (b+1)))else
 some (.inr (.inr ()))
def w5(c:am):Option Bool:=
 (B2 c 0).bind fun a=>
 (aJ (uy a) 0).bind fun
 |.inl b=>some b
 |.inr _=>some true
theorem al1:de 55 (b8 [y1] [.b] w5):=b7 [(7,gV (jV [(4,xI)]) [(.ret,jV [(2,xB)]),(.exit 0,j0)])] (tC al2 tN)
def B6(a:Int):Option Bool:=some (decide (a<=9218868437227405312)||a==9223372036854775808)
theorem al0:de 228 (b8 [.i .u64] [.b] B6):=b7 [] tN
def uI(a:Sl Int):LT Int (Bool⊕Unit):=fun b=>
 bif decide (b<(a.l.length:Int))then(bS b a.l.length).bind fun d=>
 (B6 (gt a.l d)).bind fun c=>
 bif(!c)then some (.inr (.inl false))else
 some (.inl (wr .i64 (b+1)))else
 some (.inr (.inr ()))
def CY(a:Sl Int)(b:Int):Option Bool:=
 (aJ (uI a) 0).bind fun
 |.inl c=>some c
 |.inr _=>some ((a.l.length:Int)==b)
theorem alZ:de 167 (b8 [.sl (.i .u64),I6] [.b] (u2 CY)):=b7 [(5,gV (jV [(5,xI)]) [(.ret,jV [(4,xB)]),(.exit 0,j0)])] (tC al0 tN)
def qy(a:am)(d:Sl Int):Option Bool:=
 ((oy a).bind fun b=>
 bif b then(CY d (a.aS.l.length:Int)).bind fun e=>
 some e else
 some false:Option Bool).bind fun c=>
 some c
theorem YQ:de 107 (b8 [y1,.sl (.i .u64)] [.b] (u2 qy)):=b7 [(3,mc (jV [(4,xB)]))] (tC YR (tC alZ tN))
def wD(a:am)(e:Int)(d:Int):LT Int ((Int×Int×Int×Bool)⊕Unit):=fun c=>
 bif decide (c<(a.aS.l.length:Int))then(bS c a.aS.l.length).bind fun b=>
 bif(gt a.aS.l b).A==e&&(gt a.aS.l b).jD==d then some (.inr (.inl ((gt a.aS.l b).B,(gt a.aS.l b).jC,c,true)))else
 bif(gt a.aS.l b).B==e&&(gt a.aS.l b).jC==d then some (.inr (.inl ((gt a.aS.l b).A,(gt a.aS.l b).jD,c,true)))else
 some (.inl (wr .i64 (c+1)))else
 some (.inr (.inr ()))
def yR(d:am)(f:Int)(e:Int):Option (Int×Int×Int×Bool):=
 (aJ (wD d f e) 0).bind fun
 |.inl (g,a,c,b)=>some (g,a,c,b)
 |.inr _=>some (0,0,0,false)
theorem aeg:de 230 (b8 [y1,I6,I6] [I6,I6,I6,.b] (u3 yR)):=b7 [(5,gV (jV [(10,xI)]) [(.ret,jV [(6,xI),(7,xI),(8,xI),(9,xB)]),(.exit 0,j0)])] tN
def sd(f:am)(g:Int):LT (Int×Sl cZ) (Sl cZ):=fun(a,b)=>
 bif decide (a<8)then((yR f g a).bind fun(d,_,h,e)=>
 bif e then(fA (b.l++[(⟨a,d,h⟩:cZ)])).bind fun i=>
 some (Sl.mk i)else
 some b:Option (Sl cZ)).bind fun c=>
 some (.inl (wr .i64 (a+1),c))else
 some (.inr b)
def v_(b:am)(c:Int):Option (Sl cZ):=
 (aJ (sd b c) (0,Sl.nil)).bind fun a=>
 some a
theorem YP:de 170 (l7 [y1,I6] [.sl y9] (u2 v_)):=b7 [(7,gV (jO [(5,.so 0),(6,xI)] [.ar y9] []) [(.exit 0,jO [(5,.so 0)] [.ar y9] [])]),(11,ot [(.normal,jO [(5,.so 0)] [.ar y9] [1])])] (tC aeg tN)
def xa(a:Int):Option Int:=
 bif decide (a.tmod 9223372036854775808>9218868437227405312)then some 9221120237041090561 else
 some a
theorem aef:de 267 (b8 [.i .u64] [.i .u64] xa):=b7 [] tN
def yQ(c:Int)(f:Int):Option Int:=
 (yf c).bind fun b=>
 (yf f).bind fun e=>
 (yg (He .f64 b e)).bind fun d=>
 (xa d).bind fun a=>
 bif a==9223372036854775808 then some 0 else
 some a
theorem aee:de 229 (b8 [.i .u64,.i .u64] [.i .u64] (u2 yQ)):=b7 [] (tC YM (tC afR (tC aef tN)))
def qC(d:am):LT (Int×Sl Int) (Sl Int):=fun(a,b)=>
 bif decide (a<d.ao)then(fA (b.l++[9218868437227405312])).bind fun c=>
 some (.inl (wr .i64 (a+1),Sl.mk c))else
 some (.inr b)
def qB(e:Sl Int)(d:Sl Int)(a:Sl cZ):LT (Int×Int) Int:=fun(c,b)=>
 bif decide (b<(a.l.length:Int))then((bS b a.l.length).bind fun j=>
 (bS (gt a.l j).ku e.l.length).bind fun i=>
 (bS b a.l.length).bind fun h=>
 (bS (gt a.l h).To d.l.length).bind fun k=>
 (yQ (gt e.l i) (gt d.l k)).bind fun f=>
 bif decide (f<c)then some f else
 some c:Option Int).bind fun g=>
 some (.inl (g,wr .i64 (b+1)))else
 some (.inr c)
def qA(c:am)(g:Sl Int)(b:Sl Int):LT (Int×Sl Int) (Sl Int):=fun(a,d)=>
 bif decide (a<c.ao)then(bS a b.l.length).bind fun f=>
 (v_ c a).bind fun h=>
 (aJ (qB g b h) (gt b.l f,0)).bind fun i=>
 (fA (d.l++[i])).bind fun e=>
 some (.inl (wr .i64 (a+1),Sl.mk e))else
 some (.inr d)
def qz(c:am)(d:Sl Int):LT (Int×Sl Int) (Sl Int):=fun(b,a)=>
 bif decide (b<c.ao)then(aJ (qA c d a) (0,Sl.nil)).bind fun e=>
 some (.inl (wr .i64 (b+1),e))else
 some (.inr a)
def qD(a:am)(d:Sl Int)(b:Int):Option (Sl Int):=
 (qy a d).bind fun e=>
 bif(!e)||decide (b<0)||decide (b>=a.ao)then some Sl.nil else
 ((aJ (qC a) (0,Sl.nil)).bind fun c=>
 (bS b c.l.length).bind fun f=>
 (aJ (qz a d) (0,Sl.mk (c.l.set f 0))).bind fun g=>
 some g)
theorem aed:de 168 (l7 [y1,.sl (.i .u64),I6] [.sl (.i .u64)] (u3 qD)):=b7 [(12,gV (jO [(7,.so 0),(8,xI)] [.ar (.i .u64)] []) [(.exit 0,jO [(7,.so 0)] [.ar (.i .u64)] [])]),(24,gV (jO [(7,.so 0),(9,xI)] [.ar (.i .u64)] [2]) [(.exit 2,jO [(7,.so 0)] [.ar (.i .u64)] [2])]),(34,gV (jO [(10,.so 0),(11,xI)] [.ar (.i .u64)] []) [(.exit 4,jO [(10,.so 0)] [.ar (.i .u64)] [])]),(46,gV (jV [(12,.x (.i .u64)),(14,xI)]) [(.exit 6,jV [(12,.x (.i .u64))])]),(50,ot [(.normal,jV [(12,.x (.i .u64))])])] (tC YQ (tC YP (tC aee tN)))
def Ad(b:Int):Option Int:=
 (xa b).bind fun a=>
 bif a==9221120237041090561 then some 0 else
 (bif a==18442240474082181120 then some 1 else
 bif decide (a>9223372036854775808)then some 2 else
 bif a==9223372036854775808 then some 3 else
 bif a==0 then some 4 else
 bif decide (a<9218868437227405312)then some 5 else
 some 6)
theorem alY:de 269 (b8 [.i .u64] [I6] Ad):=b7 [] (tC aef tN)
def FP(a:Sl Int)(b:Int):Option Bool:=
 bif decide (b<0)||decide (b>=(a.l.length:Int))then some false else
 ((bS b a.l.length).bind fun d=>
 (Ad (gt a.l d)).bind fun c=>
 some (decide (c>0)&&decide (c<6)))
theorem alX:de 231 (b8 [.sl (.i .u64),I6] [.b] (u2 FP)):=b7 [] (tC alY tN)
def yP(c:Sl Int)(a:Sl Int)(d:Int)(b:cZ):Option Bool:=
 ((bS d a.l.length).bind fun k=>
 bif gt a.l k !=9218868437227405312 then(FP c b.ku).bind fun j=>
 bif j then(bS b.ku c.l.length).bind fun i=>
 (bS b.To a.l.length).bind fun f=>
 (yQ (gt c.l i) (gt a.l f)).bind fun e=>
 (bS d a.l.length).bind fun g=>
 some (e==gt a.l g)else
 some false else
 some false:Option Bool).bind fun h=>
 some h
theorem aec:de 171 (b8 [.sl (.i .u64),.sl (.i .u64),I6,y9] [.b] (u4 yP)):=b7 [(3,mc (jV [(8,xB)]))] (tC alX (tC aee tN))
def qx(c:Sl Int):LT (Int×Sl Int) (Sl Int):=fun(a,b)=>
 bif decide (a<(c.l.length:Int))then(fA (b.l++[(-1)])).bind fun d=>
 some (.inl (wr .i64 (a+1),Sl.mk d))else
 some (.inr b)
def qw(l:Sl Int)(f:Sl Int)(e:Int)(b:Sl cZ)(d:Int):LT (Int×Sl Int) (Sl Int):=fun(c,a)=>
 bif decide (c<(b.l.length:Int))then(((bS d a.l.length).bind fun k=>
 bif gt a.l k==(-1)then(bS c b.l.length).bind fun o=>
 (bS (gt b.l o).To a.l.length).bind fun j=>
 bif gt a.l j==wr .i64 (e-1)then(bS c b.l.length).bind fun m=>
 (yP l f d (gt b.l m)).bind fun g=>
 some g else
 some false else
 some false:Option Bool).bind fun h=>
 bif h then(bS d a.l.length).bind fun i=>
 some (Sl.mk (a.l.set i e))else
 some a:Option (Sl Int)).bind fun n=>
 some (.inl (wr .i64 (c+1),n))else
 some (.inr a)
def qv(h:am)(g:Sl Int)(b:Sl Int)(d:Int):LT (Int×Sl Int) (Sl Int):=fun(a,c)=>
 bif decide (a<(b.l.length:Int))then(v_ h a).bind fun e=>
 (aJ (qw g b d e a) (0,c)).bind fun f=>
 some (.inl (wr .i64 (a+1),f))else
 some (.inr c)
def qu(f:am)(e:Sl Int)(b:Sl Int):LT (Int×Sl Int) (Sl Int):=fun(a,c)=>
 bif decide (a<(b.l.length:Int))then(aJ (qv f e b a) (0,c)).bind fun d=>
 some (.inl (wr .i64 (a+1),d))else
 some (.inr c)
def z8(d:am)(c:Sl Int)(e:Int):Option (Sl Int):=
 (qD d c e).bind fun a=>
 (aJ (qx a) (0,Sl.nil)).bind fun b=>
 (bif decide ((a.l.length:Int)>0)then(bS e b.l.length).bind fun g=>
 some (Sl.mk (b.l.set g 0))else
 some b:Option (Sl Int)).bind fun h=>
 (aJ (qu d c a) (1,h)).bind fun f=>
 some f
theorem alW:de 169 (l7 [y1,.sl (.i .u64),I6] [.sl I6] (u3 z8)):=b7 [(9,gV (jO [(8,.so 0),(9,xI)] [.ar I6] []) [(.exit 0,jO [(8,.so 0)] [.ar I6] [])]),(16,ot [(.normal,jO [(8,.so 0)] [.ar I6] [2])]),(23,gV (jO [(8,.so 0),(10,xI)] [.ar I6] [3]) [(.exit 2,jO [(8,.so 0)] [.ar I6] [3])]),(30,gV (jO [(8,.so 0),(11,xI)] [.ar I6] [4]) [(.exit 4,jO [(8,.so 0)] [.ar I6] [4])]),(39,gV (jO [(8,.so 0),(13,xI)] [.ar I6] [5]) [(.exit 6,jO [(8,.so 0)] [.ar I6] [5])]),(43,ot [(.normal,jO [(8,.so 0)] [.ar I6] [7])]),(45,mc (jV [(81,xB)]))] (tC aed (tC YP (tC aec tN)))
def rZ(j:Sl Int)(k:Sl Int)(c:Sl Int)(e:Int)(a:Sl cZ):LT (Int×Int) Int:=fun(d,b)=>
 bif decide (b>=0)then(((bS b a.l.length).bind fun g=>
 (yP j k e (gt a.l g)).bind fun f=>
 bif f then(bS b a.l.length).bind fun l=>
 (bS (gt a.l l).To c.l.length).bind fun o=>
 (bS e c.l.length).bind fun h=>
 some (wr .i64 (gt c.l o+1)==gt c.l h)else
 some false:Option Bool).bind fun i=>
 bif i then(bS b a.l.length).bind fun m=>
 some (gt a.l m).fU else
 some d:Option Int).bind fun n=>
 some (.inl (n,wr .i64 (b-1)))else
 some (.inr d)
def wB(a:am)(j:Sl Int)(f:Int)(g:Nat)(k:Sl Int)(e:Sl Int):LT (Int×Sl Int) (Sl Int):=fun(b,d)=>
 bif decide (b<a.ao)then(v_ a b).bind fun c=>
 (aJ (rZ j k e b c) ((-1),wr .i64 ((c.l.length:Int)-1))).bind fun m=>
 (bif b==(gt a.aU.l g).At then(bS f a.aU.l.length).bind fun i=>
 some (gt a.aU.l i).fU else
 some m:Option Int).bind fun h=>
 (fA (d.l++[h])).bind fun l=>
 some (.inl (wr .i64 (b+1),Sl.mk l))else
 some (.inr d)
def B1(a:am)(c:Sl Int)(b:Int):Option (Sl Int×Int):=
 (qy a c).bind fun f=>
 bif(!f)then some (Sl.nil,2)else
 (bif decide (b<0)||decide (b>=(a.aU.l.length:Int))then some (Sl.nil,7)else
 (bS b a.aU.l.length).bind fun d=>
 (qD a c (gt a.aU.l d).At).bind fun g=>
 (z8 a c (gt a.aU.l d).At).bind fun e=>
 (aJ (wB a c b d g e) (0,Sl.nil)).bind fun h=>
 some (h,0))
theorem alV:de 108 (l7 [y1,.sl (.i .u64),I6] [.sl I6,I6] (u3 B1)):=b7 [(21,gV (jO [(11,.so 0),(12,xI)] [.ar I6] []) [(.exit 0,jO [(11,.so 0)] [.ar I6] [])]),(33,gV (jV [(13,xI),(15,xI)]) [(.exit 2,jV [(13,xI)])]),(37,ot [(.normal,jV [(13,xI)])]),(39,mc (jV [(82,xB)])),(42,ot [(.normal,jV [(13,xI)])])] (tC YQ (tC aed (tC alW (tC YP (tC aec tN)))))
def iJ(e:am)(h:Sl Int)(c:Int):LT (Int×Sl Int) (Int⊕(Sl Int)):=fun(b,d)=>
 bif decide (b<(e.aU.l.length:Int))then(B1 e h b).bind fun(a,_)=>
 (bS c a.l.length).bind fun i=>
 bif gt a.l i==(-1)then some (.inr (.inl 7))else
 (bS c a.l.length).bind fun g=>
 (fA (d.l++[gt a.l g])).bind fun f=>
 some (.inl (wr .i64 (b+1),Sl.mk f))else
 some (.inr (.inr d))
def iI(b:am)(e:Sl Int):LT (Int×Sl (Sl Int)) (Int⊕(Sl (Sl Int))):=fun(a,c)=>
 bif decide (a<b.ao)then(aJ (iJ b e a) (0,Sl.nil)).bind fun
 |.inl g=>some (.inr (.inl g))
 |.inr f=>((fA (c.l++[f])).bind fun d=>
 some (.inl (wr .i64 (a+1),Sl.mk d)))else
 some (.inr (.inr c))
def oO(b:am)(a:Sl Int):Option (Sl (Sl Int)×Int):=
 (qy b a).bind fun c=>
 bif(!c)then some (Sl.nil,2)else
 ((aJ (iI b a) (0,Sl.nil)).bind fun
 |.inl d=>some (Sl.nil,d)
 |.inr e=>some (e,0))
theorem alU:de 56 (l7 [y1,.sl (.i .u64)] [.sl (.sl I6),I6] (u2 oO)):=b7 [(12,gV (jO [(6,.so 0),(7,xI)] [.ar (.sl I6)] []) [(.ret,jV [(4,.nl 0),(5,xI)]),(.exit 0,jO [(6,.so 0)] [.ar (.sl I6)] [])]),(22,gV (jO [(8,.so 0),(9,xI)] [.ar I6] []) [(.ret,jV [(4,.nl 0),(5,xI)]),(.exit 2,jO [(8,.so 0)] [.ar I6] [])])] (tC YQ (tC alV tN))
def qr(a:aA):LT Int (Bool⊕Unit):=fun b=>
 bif decide (b<(a.iU.l.length:Int))then((bS b a.iU.l.length).bind fun c=>
 bif decide (gt a.iU.l c<(-1048576))then some true else
 ((bS b a.iU.l.length).bind fun e=>
 some (decide (gt a.iU.l e>1048576))):Option Bool).bind fun d=>
 bif d then some (.inr (.inl false))else
 some (.inl (wr .i64 (b+1)))else
 some (.inr (.inr ()))
def iE(a:aA):LT (Int×Sl (Sl (Sl Int))) (Bool⊕(Sl (Sl (Sl Int)))):=fun(b,c)=>
 bif decide (b<(a.dI.l.length:Int))then(bS b a.dI.l.length).bind fun e=>
 (oO a.T (gt a.dI.l e)).bind fun(d,f)=>
 bif f !=0 then some (.inr (.inl false))else
 (fA (c.l++[d])).bind fun g=>
 some (.inl (wr .i64 (b+1),Sl.mk g))else
 some (.inr (.inr c))
def qs(a:aA):Option (Sl (Sl (Sl Int))×Bool):=
 ((oy a.T).bind fun b=>
 bif(!b)then some true else
 ((w5 a.T).bind fun g=>
 some ((!g)||decide ((a.dI.l.length:Int)<1)||decide ((a.dI.l.length:Int)>16)||(a.iU.l.length:Int) !=a.T.ao||decide (a.BF<0)||decide (a.BF>500)||decide (a.HA<(a.T.aU.l.length:Int))||decide (a.HA>64))):Option Bool).bind fun d=>
 bif d then some (Sl.nil,false)else
 (bif decide (a.qf<0)||decide (a.qf>65536)||decide (a.zQ<0)||decide (a.zQ>65536)||decide (a.A7<0)||decide (a.A7>65536)||decide (a.Aw<1)||decide (a.Aw>65536)then some (Sl.nil,false)else
 (aJ (qr a) 0).bind fun
 |.inl f=>some (Sl.nil,f)
 |.inr _=>(aJ (iE a) (0,Sl.nil)).bind fun
 |.inl c=>some (Sl.nil,c)
 |.inr e=>some (e,true))
theorem alT:de 23 (l7 [y0] [.sl (.sl (.sl I6)),.b] qs):=b7 [(4,mc (jV [(63,xB)])),(15,gV (jV [(4,xI)]) [(.ret,jV [(2,.nl 0),(3,xB)]),(.exit 0,j0)]),(21,mc (jV [(122,xB)])),(30,gV (jO [(5,.so 0),(6,xI)] [.ar (.sl (.sl I6))] []) [(.ret,jV [(2,.nl 0),(3,xB)]),(.exit 2,jO [(5,.so 0)] [.ar (.sl (.sl I6))] [])])] (tC YR (tC al1 (tC alU tN)))
def nC:LT (Int×ah) ah:=fun(b,a)=>
 bif decide (b<a.C.T.ao)then(fA (a.GG.l++[(⟨false,(⟨0,0⟩:dY),0⟩:bE)])).bind fun d=>
 (fA (a.DA.l++[false])).bind fun c=>
 (fA (a.xl.l++[0])).bind fun e=>
 some (.inl (wr .i64 (b+1),ah.CD a (Sl.mk d) (Sl.mk c) (Sl.mk e)))else
 some (.inr a)
def lF(a:ah):Option ah:=
 (aJ nC (0,(⟨a.C,a.lg,a.L,a.At,0,(⟨Sl.nil,Sl.nil,0,0,0,0⟩:aQ),0,Sl.nil,0,false,0,Sl.nil,false,0,Sl.nil,Sl.nil,Sl.nil,Sl.nil,Sl.nil⟩:ah))).bind fun b=>
 some b
theorem aeb:de 37 (l6 ou h2 [] [] lF):=b7 [(14,gV (jW [(2,xI)] [0,13] [(0,ou,h2)]) [(.exit 0,jK [0,13] [(0,ou,h2)])])] tN
def DM(a:aA):Option (Unit⊕ah):=
 (qs a).bind fun(c,b)=>
 bif(!b)then some (.inl ())else
 ((lF (⟨a,c,Sl.nil,(⟨0,0,false,0,0,0,false,false,0⟩:ap),0,(⟨Sl.nil,Sl.nil,0,0,0,0⟩:aC),0,Sl.nil,0,false,0,Sl.nil,false,0,Sl.nil,Sl.nil,Sl.nil,Sl.nil,Sl.nil⟩:ah)).bind fun d=>
 some (.inr d))
def aiP:cR:=⟨[(false,.x y0)],[([.nl 1],[]),([.pb ou (h2)],[])],false,[],DM⟩
theorem alS:de 16 aiP:=b7 [] (tC alT (tC aeb tN))
def wg(a:Sl ac)(b:Int):Option (ac×Bool×Sl ac):=
 bif(a.l.length:Int)==0||decide (b<0)then some ((⟨0,0,0,0,0,0,0,0,0,Sl.nil⟩:ac),false,a)else
 ((X7 .i64 b (a.l.length:Int)).bind fun c=>
 (bS c a.l.length).bind fun d=>
 some (gt a.l d,true,a))
def aiO:cR:=⟨[(true,.os y5),(false,.x I6)],[([.x y5,.x .b],[.os y5])],false,[true,false],u2 wg⟩
theorem aea:de 33 aiO:=b7 [] tN
def uS(a:ac):Option ac:=
 bif a.bP==1 then some (⟨2,a.Sw,0,0,a.T1,wr .i64 (a.T1+wr .i64 (3*a.Sw)),0,0,0,Sl.nil⟩:ac)else
 some (⟨7,a.Sw,a.U,a.Rd,0,0,0,a.bP,0,Sl.nil⟩:ac)
theorem ad_:de 34 (l7 [y5] [y5] uS):=b7 [] tN
def wR(a:aj):Option aj:=
 ua.bind fun(_,k,j,b,c,f,e,l,g,d,h,i)=>
 some (⟨a.c,a.gp,a.l,a.bK,6,k,j,b,c,f,e,l,g,d,h,i⟩:aj)
theorem alR:de 25 (l6 kp h1 [] [] wR):=b7 [] (tC akG tN)
def wQ(a:aj)(e:Int)(d:Int):Option aj:=
 bif a.cX !=6 then some a else
 (bif(!a.bK.hZ)then some (aj.iG a 0)else
 (mK (aj.iG a 0) a.bK.dF a.bK.At).bind fun(c,_,b)=>
 bif b.bK.lf&&(!b.bK.bD)then some (aj.ov b 3 c)else
 (ld (aj.CP b c) e d).bind fun f=>
 some f)
theorem alQ:de 26 (l6 kp h1 [I6,I6] [] (u3 wQ)):=b7 [] (tC aej (tC ab5 tN))
def Cf(b:aj)(a:bc)(c:Sl ac):Option (Int×aj×Sl ac):=
 (bif a.bP==0 then(kh b a.lh a.N a.Up).bind fun(m,h)=>
 some (.inr (m,h))else
 ((bif a.bP==1 then some (a.bP==1)else
 some (a.bP==2):Option Bool).bind fun k=>
 bif k then(lB b a.lh a.Up).bind fun j=>
 some (.inl (c,j))else
 bif a.bP==3 then(mN b a.lh a.M a.Up).bind fun i=>
 some (.inl (c,i))else
 bif a.bP==4 then(wg c a.N).bind fun(e,n,d)=>
 (py d c).bind fun _=>
 bif n then(uS e).bind fun p=>
 (mN b a.lh p a.Up).bind fun s=>
 some (.inl (d,s))else
 some (.inl (d,b))else
 bif a.bP==5 then(wR b).bind fun g=>
 some (.inl (c,g))else
 bif a.bP==6 then(wQ b a.lh a.Up).bind fun f=>
 some (.inl (c,f))else
 some (.inl (c,b))):Option ((Sl ac×aj)⊕(Int×aj))).bind fun
 |.inl (o,l)=>some (0,l,o)
 |.inr (r,q)=>some (r,q,c)
def aiK:cR:=⟨[(true,.pb kp (h1)),(false,.x y4),(true,.os y5)],[([.x I6],[.pb kp (h1),.os y5])],false,[true,false,true],u3 Cf⟩
theorem alP:de 10 aiK:=b7 [(2,ot [(.normal,⟨[],(.co (.sm) (.co (.so 0) .ni)),[.ar y5],[0,13,31,76,77,78],[(0,kp,h1)]⟩),(.ret,jW [(6,xI)] [0,13,31,76,77] [(0,kp,h1)])]),(9,ot [(.normal,jV [(21,xB)])])] (tC aei (tC aer (tC aeo (tC aea (tC ad_ (tC alR (tC alQ tN)))))))
def yS(b:Int):Option Int:=
 (bif decide (b<0)then some 0 else
 some b:Option Int).bind fun a=>
 (bif decide (a>1073741824)then some 1073741824 else
 some a:Option Int).bind fun c=>
 some (wr .i64 (wr .i64 (c+c)+2))
theorem ad9:de 78 (b8 [I6] [I6] yS):=b7 [(2,ot [(.normal,jV [(0,xI)])]),(6,ot [(.normal,jV [(0,xI)])])] tN
def uH(a:Sl (Sl Int))(c:Int):LT Int (Bool⊕Unit):=fun b=>
 (bS c a.l.length).bind fun i=>
 bif decide (b<((gt a.l i).l.length:Int))then((bS c a.l.length).bind fun d=>
 (bS b (gt a.l d).l.length).bind fun g=>
 bif decide (gt (gt a.l d).l g<0)then some true else
 ((bS c a.l.length).bind fun e=>
 (bS b (gt a.l e).l.length).bind fun h=>
 some (decide (gt (gt a.l e).l h>7))):Option Bool).bind fun f=>
 bif f then some (.inr (.inl false))else
 some (.inl (wr .i64 (b+1)))else
 some (.inr (.inr ()))
def uG(e:am)(a:Sl (Sl Int)):LT Int (Bool⊕Unit):=fun b=>
 bif decide (b<(a.l.length:Int))then(bS b a.l.length).bind fun c=>
 bif((gt a.l c).l.length:Int) !=(e.aU.l.length:Int)then some (.inr (.inl false))else
 (aJ (uH a b) 0).bind fun
 |.inl d=>some (.inr (.inl d))
 |.inr _=>some (.inl (wr .i64 (b+1)))else
 some (.inr (.inr ()))
def w8(a:am)(b:Sl (Sl Int)):Option Bool:=
 (oy a).bind fun c=>
 bif(!c)||(b.l.length:Int) !=a.ao then some false else
 ((aJ (uG a b) 0).bind fun
 |.inl d=>some d
 |.inr _=>some true)
theorem ad8:de 247 (b8 [y1,.sl (.sl I6)] [.b] (u2 w8)):=b7 [(10,gV (jV [(5,xI)]) [(.ret,jV [(4,xB)]),(.exit 0,j0)]),(22,gV (jV [(6,xI)]) [(.ret,jV [(4,xB)]),(.exit 2,j0)]),(28,mc (jV [(58,xB)]))] (tC YR tN)
def B0(g:am)(a:Sl (Sl Int))(b:Int)(c:Int):Option (Int×Bool):=
 (bif decide (b<0)||decide (b>=(a.l.length:Int))||decide (c<0)then some true else
 ((bS b a.l.length).bind fun i=>
 some (decide (c>=((gt a.l i).l.length:Int)))):Option Bool).bind fun h=>
 bif h then some (0,false)else
 ((bS b a.l.length).bind fun d=>
 (bS c (gt a.l d).l.length).bind fun f=>
 (yR g b (gt (gt a.l d).l f)).bind fun(e,_,_,j)=>
 some (e,j))
theorem alO:de 285 (b8 [y1,.sl (.sl I6),I6,I6] [I6,.b] (u4 B0)):=b7 [(4,mc (jV [(34,xB)]))] (tC aeg tN)
def lQ(b:am)(c:Sl (Sl Int))(d:Int)(f:Int):LT (Int×Int) ((Int×Bool)⊕Int):=fun(a,e)=>
 bif decide (e<=f)then((bS d b.aU.l.length).bind fun j=>
 bif(gt b.aU.l j).At==a then(bS d b.aU.l.length).bind fun i=>
 (bS a c.l.length).bind fun g=>
 (bS d (gt c.l g).l.length).bind fun l=>
 some ((gt b.aU.l i).fU==gt (gt c.l g).l l)else
 some false:Option Bool).bind fun k=>
 bif k then some (.inr (.inl (a,e==f)))else
 bif e==f then some (.inr (.inl (a,false)))else
 (B0 b c a d).bind fun(h,m)=>
 bif(!m)then some (.inr (.inl ((-1),false)))else
 some (.inl (h,wr .i64 (e+1)))else
 some (.inr (.inr a))
def w7(f:am)(d:Sl (Sl Int))(h:Int)(e:Int)(c:Int):Option (Int×Bool):=
 (aJ (lQ f d e c) (h,0)).bind fun
 |.inl (g,b)=>some (g,b)
 |.inr a=>some (a,false)
theorem alN:de 248 (b8 [y1,.sl (.sl I6),I6,I6,I6] [I6,.b] (u5 w7)):=b7 [(7,gV (jV [(12,xI),(13,xI)]) [(.ret,jV [(10,xI),(11,xB)]),(.exit 0,jV [(12,xI)])]),(14,mc (jV [(45,xB)]))] (tC alO tN)
def rX(d:am)(e:Sl (Sl Int))(g:Int)(f:Int):LT (Int×Sl Int) ((Int×Sl Int)⊕Unit):=fun(a,i)=>
 bif decide (a<d.ao)then(w7 d e g f a).bind fun(b,h)=>
 bif b==(-1)then some (.inr (.inl (13,Sl.nil)))else
 (fA (i.l++[b])).bind fun c=>
 bif h then some (.inr (.inl (0,Sl.mk c)))else
 some (.inl (wr .i64 (a+1),Sl.mk c))else
 some (.inr (.inr ()))
def yN(a:am)(b:Sl (Sl Int))(d:Int)(c:Int):Option (Sl Int×Int):=
 (w8 a b).bind fun e=>
 bif(!e)||decide (d<0)||decide (d>=(b.l.length:Int))||decide (c<0)||decide (c>=(a.aU.l.length:Int))then some (Sl.nil,2)else
 ((aJ (rX a b d c) (0,Sl.nil)).bind fun
 |.inl (g,f)=>some (f,g)
 |.inr _=>(w7 a b d c a.ao).bind fun(h,_)=>
 bif h==(-1)then some (Sl.nil,13)else
 some (Sl.nil,12))
theorem ad7:de 194 (l7 [y1,.sl (.sl I6),I6,I6] [.sl I6,I6] (u4 yN)):=b7 [(12,gV (jO [(10,.so 0),(11,xI)] [.ar I6] []) [(.ret,jO [(8,.so 0),(9,xI)] [.ar I6] []),(.exit 0,j0)])] (tC ad8 (tC alN tN))
def rY(b:am)(d:Sl (Sl Int))(e:Int):LT Int (Bool⊕Unit):=fun a=>
 bif decide (a<(b.aU.l.length:Int))then(yN b d e a).bind fun(_,c)=>
 bif c !=0 then some (.inr (.inl false))else
 some (.inl (wr .i64 (a+1)))else
 some (.inr (.inr ()))
def wA(d:am)(b:Sl (Sl Int)):LT Int (Bool⊕Unit):=fun a=>
 bif decide (a<(b.l.length:Int))then(aJ (rY d b a) 0).bind fun
 |.inl c=>some (.inr (.inl c))
 |.inr _=>some (.inl (wr .i64 (a+1)))else
 some (.inr (.inr ()))
def yO(b:am)(a:Sl (Sl Int)):Option Bool:=
 (w8 b a).bind fun c=>
 bif(!c)then some false else
 ((aJ (wA b a) 0).bind fun
 |.inl d=>some d
 |.inr _=>some true)
theorem alM:de 193 (b8 [y1,.sl (.sl I6)] [.b] (u2 yO)):=b7 [(10,gV (jV [(5,xI)]) [(.ret,jV [(4,xB)]),(.exit 0,j0)]),(17,gV (jV [(6,xI)]) [(.ret,jV [(4,xB)]),(.exit 2,j0)])] (tC ad8 (tC ad7 tN))
def lP(i:am)(e:Sl (Sl Int))(b:Sl (Sl Int))(g:Int)(c:Int):LT (Int×Sl ce) (Sl ce):=fun(a,d)=>
 bif decide (a<(i.aU.l.length:Int))then((yN i b c a).bind fun(o,_)=>
 (bif(o.l.length:Int)==wr .i64 (g+1)then(bS c e.l.length).bind fun f=>
 (bS a (gt e.l f).l.length).bind fun k=>
 (bS c b.l.length).bind fun j=>
 (bS a (gt b.l j).l.length).bind fun q=>
 some (gt (gt e.l f).l k !=gt (gt b.l j).l q)else
 some false:Option Bool).bind fun l=>
 bif l then(bS c b.l.length).bind fun h=>
 (bS a (gt b.l h).l.length).bind fun m=>
 (fA (d.l++[(⟨c,a,gt (gt b.l h).l m,g⟩:ce)])).bind fun n=>
 some (Sl.mk n)else
 some d:Option (Sl ce)).bind fun p=>
 some (.inl (wr .i64 (a+1),p))else
 some (.inr d)
def qt(c:am)(d:Sl (Sl Int))(g:Sl (Sl Int))(e:Int):LT (Int×Sl ce) (Sl ce):=fun(a,b)=>
 bif decide (a<c.ao)then(aJ (lP c d g e a) (0,b)).bind fun f=>
 some (.inl (wr .i64 (a+1),f))else
 some (.inr b)
def uF(c:am)(d:Sl (Sl Int))(e:Sl (Sl Int)):LT (Int×Sl ce) (Sl ce):=fun(a,b)=>
 bif decide (a<c.ao)then(aJ (qt c d e a) (0,b)).bind fun f=>
 some (.inl (wr .i64 (a+1),f))else
 some (.inr b)
def z7(a:am)(b:Sl (Sl Int))(c:Sl (Sl Int)):Option (Sl ce×Int):=
 ((yO a b).bind fun d=>
 bif(!d)then some true else
 ((yO a c).bind fun f=>
 some (!f)):Option Bool).bind fun e=>
 bif e then some (Sl.nil,2)else
 ((aJ (uF a b c) (0,Sl.nil)).bind fun g=>
 some (g,0))
theorem alL:de 136 (l7 [y1,.sl (.sl I6),.sl (.sl I6)] [.sl xn,I6] (u3 z7)):=b7 [(4,mc (jV [(23,xB)])),(12,gV (jO [(8,.so 0),(9,xI)] [.ar xn] []) [(.exit 0,jO [(8,.so 0)] [.ar xn] [])]),(19,gV (jO [(8,.so 0),(10,xI)] [.ar xn] [1]) [(.exit 2,jO [(8,.so 0)] [.ar xn] [1])]),(26,gV (jO [(8,.so 0),(11,xI)] [.ar xn] [2]) [(.exit 4,jO [(8,.so 0)] [.ar xn] [2])]),(30,ot [(.normal,jO [(8,.so 0)] [.ar xn] [3])]),(34,mc (jV [(72,xB)]))] (tC alM (tC ad7 tN))
def i8(a:am):LT (Int×Int) Int:=fun(c,b)=>
 bif decide (b<(a.aS.l.length:Int))then((bS b a.aS.l.length).bind fun f=>
 bif decide ((gt a.aS.l f).rI>c)then(bS b a.aS.l.length).bind fun d=>
 some (gt a.aS.l d).rI else
 some c:Option Int).bind fun e=>
 some (.inl (e,wr .i64 (b+1)))else
 some (.inr c)
def wC(a:am):Option Int:=
 (aJ (i8 a) (0,0)).bind fun b=>
 some b
theorem alK:de 195 (b8 [y1] [I6] wC):=b7 [(7,gV (jV [(3,xI),(4,xI)]) [(.exit 0,jV [(3,xI)])]),(11,ot [(.normal,jV [(3,xI)])])] tN
def BY(a:am):Option Int:=
 (wC a).bind fun b=>
 some (wr .i64 (a.ao*b))
theorem alJ:de 137 (b8 [y1] [I6] BY):=b7 [] (tC alK tN)
def oN(a:Sl ce)(d:Int)(e:Int):LT (Int×Int) Int:=fun(c,b)=>
 bif decide (b<(a.l.length:Int))then(((bS b a.l.length).bind fun i=>
 bif(gt a.l i).Sw==e then(bS b a.l.length).bind fun h=>
 some ((gt a.l h).CC==d)else
 some false:Option Bool).bind fun g=>
 bif g then some (wr .i64 (c+1))else
 some c:Option Int).bind fun f=>
 some (.inl (f,wr .i64 (b+1)))else
 some (.inr c)
def qX(g:am)(h:Sl ce)(c:Int):LT (Int×Sl Int) (Sl Int):=fun(a,b)=>
 bif decide (a<g.ao)then((aJ (oN h c a) (0,0)).bind fun d=>
 bif decide (d>0)then(fA (b.l++[a])).bind fun f=>
 some (Sl.mk f)else
 some b:Option (Sl Int)).bind fun e=>
 some (.inl (wr .i64 (a+1),e))else
 some (.inr b)
def DN(c:am)(d:Sl ce)(a:Int):Option (Sl Int):=
 (aJ (qX c d a) (0,Sl.nil)).bind fun b=>
 some b
theorem alI:de 138 (l7 [y1,.sl xn,I6] [.sl I6] (u3 DN)):=b7 [(7,gV (jO [(7,.so 0),(8,xI)] [.ar I6] []) [(.exit 0,jO [(7,.so 0)] [.ar I6] [])]),(11,ot [(.normal,jO [(7,.so 0)] [.ar I6] [1])]),(17,gV (jV [(9,xI),(10,xI)]) [(.exit 2,jV [(9,xI)])]),(21,ot [(.normal,jV [(9,xI)])]),(23,mc (jV [(38,xB)]))] tN
def pE(k:am)(h:Int)(m:Sl ce):LT (Int×Int×Sl ce×Int×Int×Int×Int×Sl bU) (Sl ce×Int×Int×Int×Int×Sl bU):=fun(b,c,e,i,d,f,j,g)=>
 bif decide (c<k.ao)then((DN k m c).bind fun l=>
 bif(l.l.length:Int)==0 then some (b,(⟨e,g,i,d,f,j⟩:eR))else
 ((fA (g.l++[(⟨c,b,l⟩:bU)])).bind fun n=>
 some (wr .i64 (wr .i64 (wr .i64 (wr .i64 (b+h)+h)+d)+1),(⟨e,Sl.mk n,i,d,f,wr .i64 (b+h)⟩:eR))):Option (Int×eR)).bind fun(o,a)=>
 some (.inl (o,wr .i64 (c+1),a.sH,a.aaO,a.jb,a.QD,a.To,a.aF))else
 some (.inr (e,i,d,f,j,g))
def lO(e:am)(i:Sl (Sl Int))(m:Sl (Sl Int))(c:Int)(a:Int)(b:Int):Option (aQ×Int):=
 bif decide (c<0)||decide (c>1099511627776)||decide (a<0)||decide (a>1048576)||decide (b<0)||decide (b>1048576)then some ((⟨Sl.nil,Sl.nil,0,0,0,0⟩:aQ),2)else
 ((z7 e i m).bind fun(d,h)=>
 bif h !=0 then some ((⟨Sl.nil,Sl.nil,0,0,0,0⟩:aQ),h)else
 bif(d.l.length:Int)==0 then some ((⟨Sl.nil,Sl.nil,0,0,0,0⟩:aQ),7)else
 (BY e).bind fun g=>
 (aJ (pE e a d) (wr .i64 (wr .i64 (wr .i64 (wr .i64 (c+b)+a)+g)+1),0,d,a,g,wr .i64 (wr .i64 (c+b)+1),0,Sl.nil)).bind fun(k,o,l,j,f,n)=>
 bif decide (f>1099511627776)then some ((⟨Sl.nil,Sl.nil,0,0,0,0⟩:aQ),11)else
 some ((⟨k,n,o,l,j,f⟩:aC),0))
theorem ad6:de 77 (l7 [y1,.sl (.sl I6),.sl (.sl I6),I6,I6,I6] [Eu,I6] (u6 lO)):=b7 [(28,gV (jO [(16,.op 0 Eu []),(17,xI),(18,xI)] [.bx Eu (.rc (.co (.x (.sl xn)) (.co (.so 1) (.co (xI) (.co (xI) (.co (xI) (.co (xI) .ni))))))),.ar y14] [5]) [(.exit 0,(jO [(16,.op 0 Eu [])] [.bx Eu (.rc (.co (.x (.sl xn)) (.co (.so 1) (.co (xI) (.co (xI) (.co (xI) (.co (xI) .ni))))))),.ar y14] [5]))]),(32,ot [(.normal,jW [(17,xI)] [6,7] [(6,Eu,h3)])])] (tC alL (tC alJ (tC alI tN)))
def BW(a:Sl Int)(d:Int):LT Int (Bool⊕Unit):=fun b=>
 bif decide (b<(a.l.length:Int))then(bS b a.l.length).bind fun c=>
 bif gt a.l c==d then some (.inr (.inl true))else
 some (.inl (wr .i64 (b+1)))else
 some (.inr (.inr ()))
def vY(a:Sl Int)(b:Int):Option Bool:=
 (aJ (BW a b) 0).bind fun
 |.inl c=>some c
 |.inr _=>some false
theorem Tq:de 196 (b8 [.sl I6,I6] [.b] (u2 vY)):=b7 [(5,gV (jV [(5,xI)]) [(.ret,jV [(4,xB)]),(.exit 0,j0)])] tN
def tA(a:aQ)(e:Int):LT Int (Bool⊕Unit):=fun b=>
 bif decide (b<(a.aF.l.length:Int))then(bS b a.aF.l.length).bind fun d=>
 (vY (gt a.aF.l d).jm e).bind fun c=>
 bif c then some (.inr (.inl true))else
 some (.inl (wr .i64 (b+1)))else
 some (.inr (.inr ()))
def pg(a:aQ)(c:Int):Option Bool:=
 (aJ (tA a c) 0).bind fun
 |.inl b=>some b
 |.inr _=>some false
theorem ad5:de 139 (b8 [Eu,I6] [.b] (u2 pg)):=b7 [(5,gV (jV [(5,xI)]) [(.ret,jV [(4,xB)]),(.exit 0,j0)])] (tC Tq tN)
def pi(b:Int)(c:Int):Option Bool:=
 (FB .i64 b (wr .u64 c)).bind fun a=>
 some (a.tmod 2 !=0)
theorem JR:de 85 (b8 [I6,I6] [.b] (u2 pi)):=b7 [] tN
def vX(c:aQ)(f:Int):LT Int (Bool⊕Unit):=fun a=>
 bif decide (a<8)then((pg c a).bind fun e=>
 bif e then(pi f a).bind fun b=>
 some (!b)else
 some false:Option Bool).bind fun d=>
 bif d then some (.inr (.inl false))else
 some (.inl (wr .i64 (a+1)))else
 some (.inr (.inr ()))
def rV(a:aQ)(c:Int):Option Bool:=
 (aJ (vX a c) 0).bind fun
 |.inl b=>some b
 |.inr _=>some true
theorem ad4:de 79 (b8 [Eu,I6] [.b] (u2 rV)):=b7 [(5,gV (jV [(5,xI)]) [(.ret,jV [(4,xB)]),(.exit 0,j0)]),(11,mc (jV [(18,xB)]))] (tC ad5 (tC JR tN))
def C4(b:Int)(c:Int):Option Int:=
 (Wf .i64 b c).bind fun a=>
 (bif decide (wr .i64 (a*c)>b)then some (wr .i64 (a-1))else
 some a:Option Int).bind fun d=>
 some d
theorem alH:de 254 (b8 [I6,I6] [I6] (u2 C4)):=b7 [(4,ot [(.normal,jV [(5,xI)])])] tN
def w9(a:Int)(b:Int):Option Int:=
 bif decide (a<0)||decide (b<0)then some 0 else
 ((bif decide (a>1099511627776)then some 1099511627776 else
 some a:Option Int).bind fun c=>
 (bif decide (b>1000)then some 1000 else
 some b:Option Int).bind fun e=>
 (C4 (wr .i64 (0-wr .i64 (c*e))) 1000).bind fun d=>
 some (wr .i64 (0-d)))
theorem ad3:de 206 (b8 [I6,I6] [I6] (u2 w9)):=b7 [(7,ot [(.normal,jV [(0,xI)])]),(11,ot [(.normal,jV [(1,xI)])])] (tC alH tN)
def ng(a:Int):Option Int:=
 bif decide (a>4503599627370496)then some 4503599627370496 else
 (bif decide (a<(-4503599627370496))then some (-4503599627370496)else
 some a)
theorem Tn:de 208 (b8 [I6] [I6] ng):=b7 [] tN
def qH(a:bo):Option Bool:=
 (ng a.Hi).bind fun c=>
 (ng a.Lo).bind fun b=>
 some (decide (c<b))
theorem Tk:de 154 (b8 [y3] [.b] qH):=b7 [] (tC Tn tN)
def kf(c:bo):Option bo:=
 (ng c.Lo).bind fun b=>
 (ng c.Hi).bind fun a=>
 bif decide (b>a)then some (⟨1,0⟩:bo)else
 some (⟨b,a⟩:bo)
theorem Tj:de 198 (b8 [y3] [y3] kf):=b7 [] (tC Tn tN)
def C3(a:bo)(i:Int)(g:Int):Option bo:=
 (qH a).bind fun d=>
 bif d then(kf a).bind fun h=>
 some h else
 ((kf a).bind fun b=>
 (ng i).bind fun c=>
 (ng g).bind fun e=>
 (kf (⟨wr .i64 (b.Lo+c),wr .i64 (b.Hi+e)⟩:bo)).bind fun f=>
 some f)
theorem alG:de 255 (b8 [y3,I6,I6] [y3] (u3 C3)):=b7 [] (tC Tk (tC Tj (tC Tn tN)))
def xb(e:bo)(d:Int):Option bo:=
 (ng d).bind fun a=>
 (bif decide (a<0)then some 0 else
 some a:Option Int).bind fun b=>
 (C3 e (wr .i64 (0-b)) b).bind fun c=>
 some c
theorem ad2:de 207 (b8 [y3,I6] [y3] (u2 xb)):=b7 [(4,ot [(.normal,jV [(1,xI)])])] (tC Tn (tC alG tN))
def C0(a:bE)(b:Int)(c:Int):Option bo:=
 bif(!a.sI)then some (⟨1,0⟩:bo)else
 ((bif decide (wr .i64 (b-a.At)<0)then some (wr .i64 (0-wr .i64 (b-a.At)))else
 some (wr .i64 (b-a.At)):Option Int).bind fun d=>
 (w9 d c).bind fun f=>
 (xb a.S f).bind fun e=>
 some e)
theorem ad1:de 153 (b8 [HI,I6,I6] [y3] (u3 C0)):=b7 [(9,ot [(.normal,jV [(7,xI)])])] (tC ad3 (tC ad2 tN))
def DP(b:bo):Option Int:=
 (qH b).bind fun c=>
 bif c then some 0 else
 ((kf b).bind fun a=>
 (bif decide (wr .i64 (wr .i64 ((wr .i64 (a.Lo+a.Hi)).tdiv 2)*2)>wr .i64 (a.Lo+a.Hi))then some (wr .i64 (wr .i64 ((wr .i64 (a.Lo+a.Hi)).tdiv 2)-1))else
 some (wr .i64 ((wr .i64 (a.Lo+a.Hi)).tdiv 2)):Option Int).bind fun d=>
 some d)
theorem alF:de 197 (b8 [y3] [I6] DP):=b7 [(13,ot [(.normal,jV [(5,xI)])])] (tC Tk (tC Tj tN))
def yp(c:bE)(a:Int)(f:Int):Option (Int×Int×Bool):=
 bif(!c.sI)||decide (a<0)||decide (a>1099511627776)then some (0,0,false)else
 ((C0 c a f).bind fun b=>
 (DP b).bind fun d=>
 (qH b).bind fun g=>
 bif g then some (a,0,true)else
 (kf b).bind fun e=>
 some (wr .i64 (a+d),wr .i64 (e.Hi-d),true))
theorem ad0:de 140 (b8 [HI,I6,I6] [I6,I6,.b] (u3 yp)):=b7 [] (tC ad1 (tC alF (tC Tk (tC Tj tN))))
def oJ(b:ah)(a:aQ)(c:Int):LT Int (Bool⊕Unit):=fun d=>
 (bS c a.aF.l.length).bind fun i=>
 bif decide (d<((gt a.aF.l i).jm.l.length:Int))then(bS c a.aF.l.length).bind fun e=>
 (bS d (gt a.aF.l e).jm.l.length).bind fun j=>
 (bS (gt (gt a.aF.l e).jm.l j) b.GG.l.length).bind fun f=>
 (bS c a.aF.l.length).bind fun k=>
 (yp (gt b.GG.l f) (gt a.aF.l k).At b.C.BF).bind fun(_,h,g)=>
 bif(!g)||decide (h>b.C.qf)then some (.inr (.inl false))else
 some (.inl (wr .i64 (d+1)))else
 some (.inr (.inr ()))
def pn(a:ah)(b:aQ)(c:Int):Option (Bool×ah):=
 (aJ (oJ a b c) 0).bind fun
 |.inl d=>some (d,a)
 |.inr _=>some (true,a)
theorem adZ:de 80 (l6 ou h2 [Eu,I6] [.b] (u3 pn)):=b7 [(5,gV (jV [(7,xI)]) [(.ret,jV [(6,xB)]),(.exit 0,j0)])] (tC ad0 tN)
def tW(a:Int):Option Int:=
 bif a==2 then some 15 else
 (bif a==0||a==1||a==3 then some 255 else
 some 0)
theorem YO:de 251 (b8 [I6] [I6] tW):=b7 [] tN
def JB(a:Int)(b:Int):Option ck:=
 ((bif decide (a>=0)&&decide (a<4)&&decide (b>=0)then(tW a).bind fun d=>
 some (decide (b<=d))else
 some false:Option Bool).bind fun h=>
 bif h then(bS a 4).bind fun e=>
 (tW a).bind fun c=>
 (bS a 4).bind fun g=>
 some (⟨(-1),Arr.set (pM (.ar 4 I6)) e b,Arr.set (pM (.ar 4 I6)) g c⟩:ck)else
 some (⟨(-1),pM (.ar 4 I6),pM (.ar 4 I6)⟩:ck):Option ck).bind fun f=>
 some f
theorem alE:de 249 (b8 [I6,I6] [y8] (u2 JB)):=b7 [(4,ot [(.normal,jO [(5,.op 0 y8 [])] [.bx y8 (.x y8)] [1])]),(6,mc (jV [(22,xB)]))] (tC YO tN)
def Aa(b:Int)(d:Int)(e:Int)(c:Int):Option bR:=
 (JB b d).bind fun a=>
 some (⟨e,a,Sl.mk [(⟨2,0,c⟩:cz)]⟩:bR)
theorem alD:de 199 (l7 [I6,I6,I6,I6] [y7] (u4 Aa)):=b7 [] (tC alE tN)
def AK(a:Sl ce)(h:Int)(k:Int):LT (Int×Sl aV) (Sl aV):=fun(b,c)=>
 bif decide (b<(a.l.length:Int))then(((bS b a.l.length).bind fun e=>
 bif(gt a.l e).CC==h then(bS b a.l.length).bind fun m=>
 some ((gt a.l m).Sw==k)else
 some false:Option Bool).bind fun j=>
 bif j then(bS b a.l.length).bind fun g=>
 (bS b a.l.length).bind fun d=>
 (Aa 1 (gt a.l g).adz 10 (gt a.l d).fU).bind fun l=>
 (fA (c.l++[(⟨3,l,false⟩:aV)])).bind fun i=>
 some (Sl.mk i)else
 some c:Option (Sl aV)).bind fun f=>
 some (.inl (wr .i64 (b+1),f))else
 some (.inr c)
def BZ(a:Sl ce)(b:Int)(c:Int):Option (Sl aV):=
 (aJ (AK a b c) (0,Sl.nil)).bind fun d=>
 some d
theorem alC:de 141 (l7 [.sl xn,I6,I6] [.sl y6] (u3 BZ)):=b7 [(7,gV (jO [(7,.so 0),(8,xI)] [.ar y6] []) [(.exit 0,jO [(7,.so 0)] [.ar y6] [])]),(11,ot [(.normal,jO [(7,.so 0)] [.ar y6] [0])]),(13,mc (jV [(30,xB)]))] (tC alD tN)
def EM(a:aQ)(b:Int)(e:Int):Option (Sl aV):=
 (bS b a.aF.l.length).bind fun d=>
 (BZ a.sH (gt a.aF.l d).No e).bind fun c=>
 some c
theorem alB:de 81 (l7 [Eu,I6,I6] [.sl y6] (u3 EM)):=b7 [] (tC alC tN)
def x_(c:Int):LT (Int×Int) Int:=fun(b,a)=>
 bif decide (a<c)then some (.inl (wr .i64 (b.tdiv 2),wr .i64 (a+1)))else
 some (.inr b)
def Bi(c:Int)(b:Int):Option Int:=
 (aJ (x_ b) (c,0)).bind fun a=>
 some (a.tmod 2)
theorem alA:de 250 (b8 [I6,I6] [I6] (u2 Bi)):=b7 [(5,gV (jV [(0,xI),(5,xI)]) [(.exit 0,jV [(0,xI)])])] tN
def qW(b:ay)(a:ba):Option Bool:=
 bif a.bP==1 then some ((!b.hZ)&&b.ik==0&&wr .i64 (a.U-1)==b.U&&decide (a.A>=0)&&decide (a.A<=15)&&decide (a.B>=0)&&decide (a.B<=1125899906842624))else
 (bif a.U !=b.U||a.B !=0||decide (a.bP<1)||decide (a.bP>7)then some false else
 bif a.bP==7 then(bif(!b.hZ)&&decide (a.A>=0)&&decide (a.A<=7)&&decide (b.ik>0)then(Bi b.ik a.A).bind fun d=>
 some (d==1)else
 some false:Option Bool).bind fun c=>
 some c else
 bif(!b.hZ)then some false else
 bif a.bP==2 then some ((!b.lf)&&(!b.bD)&&a.A==b.fx&&decide (b.fx<8)&&decide (b.fx>=0))else
 bif a.bP==6 then some (b.bD&&decide (a.A>=0)&&decide (a.A<=255))else
 bif a.A !=0 then some false else
 bif a.bP==3 then some ((!b.lf)&&(!b.bD)&&decide (b.fx>0))else
 bif a.bP==4 then some (!b.bD)else
 some (b.lf&&(!b.bD)))
theorem alz:de 200 (b8 [Ea,xn] [.b] (u2 qW)):=b7 [(16,mc (jV [(4,xB)]))] (tC alA tN)
def yM(c:Int):LT (Int×Int) Int:=fun(b,a)=>
 bif decide (a<c)then some (.inl (wr .i64 (b*2),wr .i64 (a+1)))else
 some (.inr b)
def w6(b:Int):Option Int:=
 (aJ (yM b) (1,0)).bind fun a=>
 some a
theorem aly:de 201 (b8 [I6] [I6] w6):=b7 [(7,gV (jV [(3,xI),(4,xI)]) [(.exit 0,jV [(3,xI)])])] tN
def nf(a:ay)(b:ba):Option (ay×Int):=
 (qW a b).bind fun c=>
 bif(!c)then some (a,5)else
 ((bif b.bP==1 then some (.inr (0,(⟨b.U,a.lh,true,b.A,b.B,0,false,false,0⟩:ay)))else
 (bif b.bP==2 then some (.inl (⟨a.U,a.lh,a.hZ,a.dF,a.At,wr .i64 (a.fx+1),a.lf,a.bD,a.ik⟩:ay))else
 bif b.bP==3 then some (.inl (⟨a.U,a.lh,a.hZ,a.dF,a.At,a.fx,true,a.bD,a.ik⟩:ay))else
 bif b.bP==4 then some (.inl (⟨a.U,a.lh,a.hZ,a.dF,a.At,a.fx,a.lf,true,a.ik⟩:ay))else
 bif b.bP==5 then some (.inr (0,(⟨a.U,a.dF,false,0,0,0,false,false,a.ik⟩:ay)))else
 bif b.bP==6 then some (.inr (0,(⟨a.U,a.lh,false,0,0,0,false,false,b.A⟩:ay)))else
 bif b.bP==7 then(w6 b.A).bind fun f=>
 some (.inl (⟨a.U,a.lh,a.hZ,a.dF,a.At,a.fx,a.lf,a.bD,wr .i64 (a.ik-f)⟩:ay))else
 some (.inl a)):Option (ay⊕(Int×ay))).bind fun
 |.inl e=>some (e,0)
 |.inr (g,d)=>some (d,g))
theorem alx:de 142 (b8 [Ea,xn] [Ea,I6] (u2 nf)):=b7 [(7,ot [(.normal,jO [(2,.op 0 Ea [])] [.bx Ea (.x Ea)] [0]),(.ret,jO [(4,.op 0 Ea []),(5,xI)] [.bx Ea (.x Ea)] [2])])] (tC alz (tC aly tN))
def eY(a:ah)(e:Int)(b:Int)(d:Int)(c:Int):Option ah:=
 (fA (a.L.l++[(⟨e,b,d,c⟩:ba)])).bind fun f=>
 (nf a.At (⟨e,b,d,c⟩:ba)).bind fun(g,_)=>
 some (ah.aeW a (Sl.mk f) g)
theorem L4:de 82 (l6 ou h2 [I6,I6,I6,I6] [] (u5 eY)):=b7 [] (tC alx tN)
def lN(a:ah)(e:Int)(c:Int)(g:Int)(d:Int)(b:Int):Option ah:=
 (fA (a.l5.l++[(⟨c,e,a.At.U,g,d,b⟩:dE)])).bind fun f=>
 some (ah.Us a (Sl.mk f))
theorem Ti:de 83 (l6 ou h2 [I6,I6,I6,I6,I6] [] (u6 lN)):=b7 [] tN
def nc(b:ah)(d:Int)(a:Sl ac):Option ah:=
 (fA ([]++a.l)).bind fun e=>
 (fA (b.ik.l++a.l)).bind fun c=>
 some (ah.Dx b (AZ Sl.nil a.l e) d (AZ b.ik a.l c))
theorem Th:de 84 (l6 ou h2 [I6,.sl y5] [] (u3 nc)):=b7 [] tN
end Go.Proofs.YtoekkpmeeclpeaaGreat.S
