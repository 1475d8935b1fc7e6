/- What functions of the program compute, and that the model's run computes it. Conditions: as stated. -/
import Derived.Test.YtoekkpmeeclpeaaGreatKz
import Derived.Test.YtoekkpmeeclpeaaGreatChecked
import Derived.KernelRfl
open Go.Ev Go
noncomputable section
namespace Go.Proofs.YtoekkpmeeclpeaaGreat.S
abbrev prog:Program:=Tryz.prog
theorem mixed:prog.follows .mixedOrders=true:=by kernel_rfl
theorem bR:mG:=S7 fun _=>rfl
def bM:xp:=fun f=>if f=6 then(true,[])else if f=8 then(true,[])else if f=9 then(true,[])else if f=11 then(false,[true])else if f=12 then(true,[])else if f=15 then(true,[])else if f=24 then(false,[true,false,false])else if f=25 then(false,[true])else if f=26 then(false,[true,false,false])else if f=27 then(false,[true,false,false,false])else if f=28 then(false,[true,false,false,false])else if f=29 then(true,[])else if f=47 then(true,[])else if f=48 then(true,[])else if f=49 then(true,[])else if f=50 then(true,[])else if f=51 then(true,[])else if f=54 then(true,[])else if f=55 then(true,[])else if f=99 then(true,[])else if f=101 then(true,[])else if f=102 then(true,[])else if f=104 then(true,[])else if f=105 then(true,[])else if f=107 then(true,[])else if f=158 then(true,[])else if f=161 then(true,[])else if f=165 then(true,[])else if f=167 then(true,[])else if f=171 then(true,[])else if f=211 then(true,[])else if f=212 then(true,[true,false])else if f=213 then(true,[])else if f=214 then(true,[])else if f=215 then(true,[])else if f=216 then(true,[])else if f=217 then(true,[])else if f=219 then(true,[])else if f=220 then(true,[true,false])else if f=221 then(true,[])else if f=222 then(true,[])else if f=223 then(true,[])else if f=224 then(true,[])else if f=225 then(true,[])else if f=226 then(true,[])else if f=227 then(true,[])else if f=228 then(true,[])else if f=229 then(true,[])else if f=230 then(true,[])else if f=231 then(true,[])else if f=258 then(true,[])else if f=259 then(true,[true,false,false,false,false])else if f=260 then(true,[])else if f=261 then(true,[])else if f=262 then(true,[])else if f=263 then(true,[true,false,false])else if f=264 then(true,[])else if f=265 then(true,[])else if f=266 then(true,[])else if f=267 then(true,[])else if f=269 then(true,[])else if f=286 then(true,[true,false,false,false])else if f=295 then(true,[])else if f=296 then(true,[true,false,false,false])else if f=297 then(true,[true,false,false,false,false])else if f=298 then(true,[])else if f=331 then(true,[true,false,false,false,false])else if f=332 then(true,[])else if f=342 then(true,[true,false,false,false,false])else(false,[])
def Xn:xp:=fun f=>if f=1000000000 then(true,[])else bM f
@[reducible] def aS:Type:=Int×Int×Int×Int×Int×Int
@[reducible] def aS.A (x:aS):Int:=x.1
@[reducible] def aS.iB (x:aS):Int:=x.2.1
@[reducible] def aS.B (x:aS):Int:=x.2.2.1
@[reducible] def aS.iA (x:aS):Int:=x.2.2.2.1
@[reducible] def aS.pz (x:aS):Int:=x.2.2.2.2.1
@[reducible] def aS.vj (x:aS):Int:=x.2.2.2.2.2
@[reducible] def eX:Type:=Int×Int
@[reducible] def eX.At (x:eX):Int:=x.1
@[reducible] def eX.fB (x:eX):Int:=x.2
@[reducible] def ai:Type:=Int×Sl aS×Sl eX
@[reducible] def ai.ah (x:ai):Int:=x.1
@[reducible] def ai.aE (x:ai):Sl aS:=x.2.1
@[reducible] def ai.bc (x:ai):Sl eX:=x.2.2
@[reducible] def aA:Type:=ai×Sl (Sl Int)×Sl Int×Int×Int×Int×Int×Int×Int
@[reducible] def aA.T (x:aA):ai:=x.1
@[reducible] def aA.cT (x:aA):Sl (Sl Int):=x.2.1
@[reducible] def aA.gP (x:aA):Sl Int:=x.2.2.1
@[reducible] def aA.Gw (x:aA):Int:=x.2.2.2.1
@[reducible] def aA.LJ (x:aA):Int:=x.2.2.2.2.1
@[reducible] def aA.It (x:aA):Int:=x.2.2.2.2.2.1
@[reducible] def aA.LK (x:aA):Int:=x.2.2.2.2.2.2.1
@[reducible] def aA.yr (x:aA):Int:=x.2.2.2.2.2.2.2.1
@[reducible] def aA.CI (x:aA):Int:=x.2.2.2.2.2.2.2.2
@[reducible] def u5:Type:=Int×Arr 4 Int×Arr 4 Int
@[reducible] def u5.fB (x:u5):Int:=x.1
@[reducible] def u6:Type:=Int×Int×Int
@[reducible] def u6.F (x:u6):Int:=x.2.1
@[reducible] def u6.V (x:u6):Int:=x.2.2
@[reducible] def qs:Type:=Int×u5×Sl u6
@[reducible] def qs.M (x:qs):u5:=x.2.1
@[reducible] def qs.YU (x:qs):Sl u6:=x.2.2
@[reducible] def xm:Type:=Int×qs×Bool
@[reducible] def xm.R (x:xm):qs:=x.2.1
@[reducible] def fm:Type:=Int×Int×Int×Int×Int×Int×Int×Int×Int×Sl xm
@[reducible] def fm.U (x:fm):Int:=x.2.2.1
@[reducible] def fm.Code (x:fm):Int:=x.2.2.2.2.2.2.2.2.1
@[reducible] def fm.Q3 (x:fm):Sl xm:=x.2.2.2.2.2.2.2.2.2
@[reducible] def fE:Type:=Int×Int×Int×Int×fm
@[reducible] def fE.YS (x:fE):Int:=x.2.1
@[reducible] def fE.N (x:fE):Int:=x.2.2.1
@[reducible] def fE.M (x:fE):fm:=x.2.2.2.2
@[reducible] def y2:Ty:=.st (.pr (.i .i64) (.pr (.i .i64) (.pr (.i .i64) (.pr (.i .i64) (.pr (.i .i64) (.i .i64))))))
@[reducible] def y3:Ty:=.st (.pr (.i .i64) (.i .i64))
@[reducible] def y1:Ty:=.st (.pr (.i .i64) (.pr (.sl y2) (.sl y3)))
@[reducible] def y0:Ty:=.st (.pr y1 (.pr (.sl (.sl (.i .u64))) (.pr (.sl (.i .i64)) (.pr (.i .i64) (.pr (.i .i64) (.pr (.i .i64) (.pr (.i .i64) (.pr (.i .i64) (.i .i64)))))))))
@[reducible] def y8:Ty:=.st (.pr (.i .i64) (.pr (.ar 4 (.i .i64)) (.ar 4 (.i .i64))))
@[reducible] def y9:Ty:=.st (.pr (.i .i64) (.pr (.i .i64) (.i .i64)))
@[reducible] def y7:Ty:=.st (.pr (.i .i64) (.pr y8 (.sl y9)))
@[reducible] def y6:Ty:=.st (.pr (.i .i64) (.pr y7 .b))
@[reducible] def y5:Ty:=.st (.pr (.i .i64) (.pr (.i .i64) (.pr (.i .i64) (.pr (.i .i64) (.pr (.i .i64) (.pr (.i .i64) (.pr (.i .i64) (.pr (.i .i64) (.pr (.i .i64) (.sl y6))))))))))
@[reducible] def y4:Ty:=.st (.pr (.i .i64) (.pr (.i .i64) (.pr (.i .i64) (.pr (.i .i64) y5))))
@[reducible] def bd:Type:=Int×Int
@[reducible] def bd.sw (x:bd):Int:=x.1
@[reducible] def bd.Bt (x:bd):Int:=x.2
@[reducible] def aw:Type:=Int×Int×Int
@[reducible] def aw.fB (x:aw):Int:=x.1
@[reducible] def aw.To (x:aw):Int:=x.2.1
@[reducible] def aw.hZ (x:aw):Int:=x.2.2
@[reducible] def bJ:Type:=Int×Int×Int
@[reducible] def bJ.fB (x:bJ):Int:=x.1
@[reducible] def bJ.To (x:bJ):Int:=x.2.1
@[reducible] def bJ.hZ (x:bJ):Int:=x.2.2
@[reducible] def oI:Type:=Int×Int×Int×Int×Int×Int
@[reducible] def oI.U (x:oI):Int:=x.2.2.1
@[reducible] def oI.X (x:oI):Int:=x.2.2.2.2.1
@[reducible] def oI.Y (x:oI):Int:=x.2.2.2.2.2
@[reducible] def lL:Type:=Int×Int×Int×Int
@[reducible] def lL.U (x:lL):Int:=x.2.1
@[reducible] def lL.A (x:lL):Int:=x.2.2.1
@[reducible] def lL.B (x:lL):Int:=x.2.2.2
@[reducible] def YV:Ty:=.st (.pr (.i .i64) (.pr (.i .i64) (.pr (.i .i64) (.i .i64))))
@[reducible] def BS:Type:=Int×Int
@[reducible] def gS:Type:=Bool×BS×Int
@[reducible] def gS.Vu (x:gS):Bool:=x.1
@[reducible] def gS.S (x:gS):BS:=x.2.1
@[reducible] def gS.At (x:gS):Int:=x.2.2
@[reducible] def Zc:Ty:=.st (.pr .b (.pr y3 (.i .i64)))
@[reducible] def fN:Type:=Int×Int×Bool×Int×Int×Int×Bool×Bool×Int
@[reducible] def fN.U (x:fN):Int:=x.1
@[reducible] def fN.YS (x:fN):Int:=x.2.1
@[reducible] def fN.At (x:fN):Int:=x.2.2.2.2.1
@[reducible] def fN.rD (x:fN):Int:=x.2.2.2.2.2.2.2.2
@[reducible] def Zb:Ty:=.st (.pr (.i .i64) (.pr (.i .i64) (.pr .b (.pr (.i .i64) (.pr (.i .i64) (.pr (.i .i64) (.pr .b (.pr .b (.i .i64)))))))))
@[reducible] def vS:Type:=Int×Int×Int×Int
@[reducible] def vS.fB (x:vS):Int:=x.2.2.1
@[reducible] def sK:Type:=Int×Int×Sl Int
@[reducible] def sK.At (x:sK):Int:=x.2.1
@[reducible] def oC:Type:=Sl vS×Sl sK×Int×Int×Int×Int
@[reducible] def oC.TY (x:oC):Sl sK:=x.2.1
@[reducible] def oC.To (x:oC):Int:=x.2.2.2.2.2
@[reducible] def Y_:Ty:=.st (.pr (.i .i64) (.pr (.i .i64) (.sl (.i .i64))))
@[reducible] def Za:Ty:=.st (.pr (.sl YV) (.pr (.sl Y_) (.pr (.i .i64) (.pr (.i .i64) (.pr (.i .i64) (.i .i64))))))
def nN(c_0:aA):Int->Option (Int⊕(Bool⊕Unit)):=fun i2=>
 bif decide (i2<(((aA.cT c_0).l).length:Int))then((cC i2 ((aA.cT c_0).l).length).bind fun n3=>
 bif decide ((((gt ((aA.cT c_0).l) n3).l).length:Int)>30)then(some (.inr (.inl false)))else
 (some (.inl (wr .i64 (i2+1)))))else
 (some (.inr (.inr ())))
def Az(l_1:Sl fE)(i6:Int):Int->Option (Int⊕(Bool⊕Unit)):=fun i12=>
 (cC i6 l_1.l.length).bind fun n13=>
 bif decide (i12<(((fm.Q3 (fE.M (gt l_1.l n13))).l).length:Int))then((cC i6 l_1.l.length).bind fun n14=>
 (cC i12 ((fm.Q3 (fE.M (gt l_1.l n14))).l).length).bind fun n15=>
 bif decide ((((qs.YU (xm.R (gt ((fm.Q3 (fE.M (gt l_1.l n14))).l) n15))).l).length:Int)>16)then(some (.inr (.inl false)))else
 (some (.inl (wr .i64 (i12+1)))))else
 (some (.inr (.inr ())))
def ug(l_1:Sl fE):Int->Option (Int⊕(Bool⊕Unit)):=fun i6=>
 bif decide (i6<(l_1.l.length:Int))then((bif decide (i6>79)then(some true)else
 ((cC i6 l_1.l.length).bind fun n7=>
 bif decide ((fE.YS (gt l_1.l n7))<0)then(some true)else
 ((cC i6 l_1.l.length).bind fun n8=>
 bif decide ((fE.YS (gt l_1.l n8))>1099511627776)then(some true)else
 ((cC i6 l_1.l.length).bind fun n9=>
 some (decide ((((fm.Q3 (fE.M (gt l_1.l n9))).l).length:Int)>20))))):Option Bool).bind fun b10=>
 bif b10 then(some (.inr (.inl false)))else
 ((aP (Az l_1 i6) 0).bind fun
 |.inl b16=>(some (.inr (.inl b16)))
 |.inr _=>(some (.inl (wr .i64 (i6+1))))))else
 (some (.inr (.inr ())))
def qQ(c_0:aA)(l_1:Sl fE):Option Bool:=
 (aP (nN c_0) 0).bind fun
 |.inl b4=>(some b4)
 |.inr _=>((aP (ug l_1) 0).bind fun
 |.inl b17=>(some b17)
 |.inr _=>(some ((((decide ((((ai.aE (aA.T c_0)).l).length:Int)<=30))&&(decide ((((ai.bc (aA.T c_0)).l).length:Int)<=12)))&&(decide ((((aA.cT c_0).l).length:Int)<=6)))&&(decide ((((aA.gP c_0).l).length:Int)<=12)))))
def ZG:iz:=⟨[(false,.x y0),(false,.x (.sl y4))],[([.x .b],[])],true,[],fun p=>match p with|(c_0,l_1)=>qQ c_0 l_1⟩
theorem ZN:bw prog 8 ZG:=bh mixed bR (bM:=bM) (np:=2) (an:=[(5,{j:=some {vs:=[(5,.x (.i .i64))]},e:=[(.ret,{vs:=[(4,.x .b)]}),(.exit 0,{})]}),(18,{j:=some {vs:=[(6,.x (.i .i64))]},e:=[(.ret,{vs:=[(4,.x .b)]}),(.exit 2,{})]}),(25,{j:=some {vs:=[(55,.x .b)]}}),(30,{j:=some {vs:=[(7,.x (.i .i64))]},e:=[(.ret,{vs:=[(4,.x .b)]}),(.exit 4,{})]})]) .nil (by kernel_rfl) (by kernel_rfl)
def ZF:iz:=⟨[],[([.x .b],[])],true,[],fun _=>some true⟩
theorem ZM:bw prog 9 ZF:=OK
def nv(t_0:ai):(Int×Sl bd)->Option ((Int×Sl bd)⊕(Sl bd)):=fun(i4,s5)=>
 bif decide (i4<(((ai.aE t_0).l).length:Int))then((cC i4 ((ai.aE t_0).l).length).bind fun n6=>
 (kc (s5.l++[(⟨aS.A (gt ((ai.aE t_0).l) n6),aS.iB (gt ((ai.aE t_0).l) n6)⟩:bd),(⟨aS.B (gt ((ai.aE t_0).l) n6),aS.iA (gt ((ai.aE t_0).l) n6)⟩:bd)])).bind fun l7=>
 some (.inl (wr .i64 (i4+1),(Sl.mk l7))))else
 (some (.inr s5))
def nu(t_0:ai):(Int×Sl bd)->Option ((Int×Sl bd)⊕(Sl bd)):=fun(i11,s12)=>
 bif decide (i11<(((ai.bc t_0).l).length:Int))then((cC i11 ((ai.bc t_0).l).length).bind fun n13=>
 (kc (s12.l++[gt ((ai.bc t_0).l) n13])).bind fun l14=>
 some (.inl (wr .i64 (i11+1),(Sl.mk l14))))else
 (some (.inr s12))
def qG(t_0:ai):Option (Sl bd):=
 (aP (nv t_0) (0,Sl.nil)).bind fun s8=>
 (aP (nu t_0) (0,s8)).bind fun s15=>
 some s15
def ZE:iz:=⟨[(false,.x y1)],[([.x (.sl y3)],[])],false,[],fun p=>match p with|t_0=>qG t_0⟩
theorem ZL:bw prog 98 ZE:=bh mixed bR (bM:=bM) (np:=1) (an:=[(7,{j:=some {vs:=[(3,.so 0),(11,.x (.i .i64))],os:=[.ar y3]},e:=[(.exit 0,{vs:=[(3,.so 0)],os:=[.ar y3]})]}),(19,{j:=some {vs:=[(3,.so 0),(32,.x (.i .i64))],os:=[.ar y3],kl:=[1]},e:=[(.exit 2,{vs:=[(3,.so 0)],os:=[.ar y3],kl:=[1]})]})]) .nil (by kernel_rfl) (by kernel_rfl)
def oL(t_0:ai):Int->Option (Int⊕(Bool⊕Unit)):=fun i2=>
 bif decide (i2<(((ai.aE t_0).l).length:Int))then((cC i2 ((ai.aE t_0).l).length).bind fun n3=>
 bif(((((aS.A (gt ((ai.aE t_0).l) n3))==(aS.B (gt ((ai.aE t_0).l) n3)))||(decide ((aS.pz (gt ((ai.aE t_0).l) n3))<1)))||(decide ((aS.pz (gt ((ai.aE t_0).l) n3))>(aS.vj (gt ((ai.aE t_0).l) n3)))))||(decide ((aS.vj (gt ((ai.aE t_0).l) n3))>1000)))then(some (.inr (.inl false)))else
 (some (.inl (wr .i64 (i2+1)))))else
 (some (.inr (.inr ())))
def jF(t_0:ai)(r5:Sl bd):(Int×Mp bd Int)->Option ((Int×Mp bd Int)⊕(Bool⊕Unit)):=fun(i9,m10)=>
 bif decide (i9<(r5.l.length:Int))then((cC i9 r5.l.length).bind fun n11=>
 (yF ((mB m10 0 (gt r5.l n11)).1) ((mB m10 0 (gt r5.l n11)).2.2) (wr .i64 ((pu m10 0 (gt r5.l n11))+1))).bind fun m12=>
 bif(((((decide ((bd.sw (gt r5.l n11))<0))||(decide ((bd.sw (gt r5.l n11))>=(ai.ah t_0))))||(decide ((bd.Bt (gt r5.l n11))<0)))||(decide ((bd.Bt (gt r5.l n11))>=8)))||(decide ((pu m12 0 (gt r5.l n11))>1)))then(some (.inr (.inl false)))else
 (some (.inl (wr .i64 (i9+1),m12))))else
 (some (.inr (.inr ())))
def mT(t_0:ai):Option Bool:=
 bif((((decide ((ai.ah t_0)<1))||(decide ((ai.ah t_0)>8)))||(decide ((((ai.aE t_0).l).length:Int)>24)))||(decide ((((ai.bc t_0).l).length:Int)>8)))then(some false)else
 ((aP (oL t_0) 0).bind fun
 |.inl b4=>(some b4)
 |.inr _=>((qG t_0).bind fun r5=>
 (aP (jF t_0 r5) (0,(Mp.none:Mp bd Int))).bind fun
 |.inl b13=>(some b13)
 |.inr _=>(some true)))
def ZD:iz:=⟨[(false,.x y1)],[([.x .b],[])],true,[],fun p=>match p with|t_0=>mT t_0⟩
theorem Y4:bw prog 47 ZD:=bh mixed bR (bM:=bM) (np:=1) (an:=[(10,{j:=some {vs:=[(31,.x (.i .i64))]},e:=[(.ret,{vs:=[(2,.x .b)]}),(.exit 0,{})]}),(27,{j:=some {vs:=[(5,.om 0),(62,.x (.i .i64))],os:=[.mp y3 (.i .i64)],kl:=[1]},e:=[(.ret,{vs:=[(2,.x .b)],kl:=[1]}),(.exit 2,{kl:=[1]})]})]) (.cons ZL .nil) (by kernel_rfl) (by kernel_rfl)
def pg(x_0:Int)(y_1:Int):Option (Int×Int):=some (wr .u64 ((wr .u64 ((wr .u64 ((fV .u64 x_0 32)*(fV .u64 y_1 32)))+(fV .u64 (wr .u64 ((wr .u64 ((fV .u64 x_0 32)*(A9 .u64 y_1 4294967295)))+(fV .u64 (wr .u64 ((A9 .u64 x_0 4294967295)*(A9 .u64 y_1 4294967295))) 32))) 32)))+(fV .u64 (wr .u64 ((A9 .u64 (wr .u64 ((wr .u64 ((fV .u64 x_0 32)*(A9 .u64 y_1 4294967295)))+(fV .u64 (wr .u64 ((A9 .u64 x_0 4294967295)*(A9 .u64 y_1 4294967295))) 32))) 4294967295)+(wr .u64 ((A9 .u64 x_0 4294967295)*(fV .u64 y_1 32))))) 32)),wr .u64 (x_0*y_1))
def ZC:iz:=⟨[(false,.x (.i .u64)),(false,.x (.i .u64))],[([.x (.i .u64),.x (.i .u64)],[])],true,[],fun p=>match p with|(x_0,y_1)=>pg x_0 y_1⟩
theorem ZK:bw prog 258 ZC:=bh mixed bR (bM:=bM) (np:=2) (an:=[]) .nil (by kernel_rfl) (by kernel_rfl)
def kL(x_0:Int)(y_1:Int):Option (Int×Int):=
 (pg x_0 y_1).bind fun(r1,r2)=>
 some (r1,r2)
def ZB:iz:=⟨[(false,.x (.i .u64)),(false,.x (.i .u64))],[([.x (.i .u64),.x (.i .u64)],[])],true,[],fun p=>match p with|(x_0,y_1)=>kL x_0 y_1⟩
theorem Y3:bw prog 211 ZB:=bh mixed bR (bM:=bM) (np:=2) (an:=[]) (.cons ZK .nil) (by kernel_rfl) (by kernel_rfl)
def rm:(Int×Sl Int)->Option ((Int×Sl Int)⊕(Sl Int)):=fun(i7,s8)=>
 bif decide (i7<(s8.l.length:Int))then((nR s8.l i7 s8.l.length).bind fun l9=>
 (nR s8.l 0 i7).bind fun l10=>
 some (.inl (wr .i64 (i7+((min ((s8.to l10).l).length ((s8.to l9).l).length:Nat):Int)),(s8.to (Cw s8.l i7.toNat ((s8.to l9).l).length ((s8.to l10).l))))))else
 (some (.inr s8))
def eQ(x_0:Sl Int)(count_1:Int):Option (Sl Int):=
 bif decide (count_1<0)then(none)else
 ((kL (wr .u64 (x_0.l.length:Int)) (wr .u64 count_1)).bind fun(r1,r2)=>
 bif((decide (r1>0))||(decide (r2>9223372036854775807)))then(none)else
 ((D2 0 (wr .i64 r2) (wr .i64 r2)).bind fun l3=>
 (aP (rm) (((min x_0.l.length l3.length:Nat):Int),(Sl.mk (Cw l3 0 l3.length x_0.l)))).bind fun s11=>
 some s11))
def ZA:iz:=⟨[(false,.x (.sl (.i .i64))),(false,.x (.i .i64))],[([.os (.i .i64)],[])],false,[],fun p=>match p with|(x_0,count_1)=>eQ x_0 count_1⟩
theorem XR:bw prog 159 ZA:=bh mixed bR (bM:=bM) (np:=2) (an:=[(17,{j:=some {vs:=[(7,.so 0),(8,.x (.i .i64))],os:=[.ar (.i .i64)],kl:=[2]},e:=[(.exit 0,{vs:=[(7,.so 0)],os:=[.ar (.i .i64)],kl:=[2]})]})]) (.cons Y3 .nil) (by kernel_rfl) (by kernel_rfl)
def tq(x_0:Int):Option Int:=
 (bif decide (x_0>=4294967296)then(some (fV .u64 x_0 32,32))else
 (some (x_0,0)):Option (Int×Int)).bind fun(i1,i2)=>
 (bif decide (i1>=65536)then(some (fV .u64 i1 16,wr .i64 (i2+16)))else
 (some (i1,i2)):Option (Int×Int)).bind fun(i3,i4)=>
 (bif decide (i3>=256)then(some (fV .u64 i3 8,wr .i64 (i4+8)))else
 (some (i3,i4)):Option (Int×Int)).bind fun(i5,i6)=>
 (VH (⟨#[0,1,2,2,3,3,3,3,4,4,4,4,4,4,4,4,5,5,5,5,5,5,5,5,5,5,5,5,5,5,5,5,6,6,6,6,6,6,6,6,6,6,6,6,6,6,6,6,6,6,6,6,6,6,6,6,6,6,6,6,6,6,6,6,7,7,7,7,7,7,7,7,7,7,7,7,7,7,7,7,7,7,7,7,7,7,7,7,7,7,7,7,7,7,7,7,7,7,7,7,7,7,7,7,7,7,7,7,7,7,7,7,7,7,7,7,7,7,7,7,7,7,7,7,7,7,7,7,8,8,8,8,8,8,8,8,8,8,8,8,8,8,8,8,8,8,8,8,8,8,8,8,8,8,8,8,8,8,8,8,8,8,8,8,8,8,8,8,8,8,8,8,8,8,8,8,8,8,8,8,8,8,8,8,8,8,8,8,8,8,8,8,8,8,8,8,8,8,8,8,8,8,8,8,8,8,8,8,8,8,8,8,8,8,8,8,8,8,8,8,8,8,8,8,8,8,8,8,8,8,8,8,8,8,8,8,8,8,8,8,8,8,8,8,8,8,8,8,8,8,8,8,8,8,8,8]⟩:ByteArray) (wr .u8 i5)).bind fun b7=>
 some (wr .i64 (i6+(wr .i64 b7)))
def Zz:iz:=⟨[(false,.x (.i .u64))],[([.x (.i .i64)],[])],true,[],fun p=>match p with|x_0=>tq x_0⟩
theorem ZJ:bw prog 295 Zz:=bh mixed bR (bM:=bM) (np:=1) (an:=[(2,{e:=[(.normal,{vs:=[(0,.x (.i .u64)),(2,.x (.i .i64))]})]}),(8,{e:=[(.normal,{vs:=[(0,.x (.i .u64)),(2,.x (.i .i64))]})]}),(14,{e:=[(.normal,{vs:=[(0,.x (.i .u64)),(2,.x (.i .i64))]})]})]) .nil (by kernel_rfl) (by kernel_rfl)
def oO(x_0:Int):Option Int:=
 (tq x_0).bind fun r1=>
 some r1
def Zy:iz:=⟨[(false,.x (.i .u64))],[([.x (.i .i64)],[])],true,[],fun p=>match p with|x_0=>oO x_0⟩
theorem ZI:bw prog 260 Zy:=bh mixed bR (bM:=bM) (np:=1) (an:=[]) (.cons ZJ .nil) (by kernel_rfl) (by kernel_rfl)
def oR(x_0:Int):Option Bool:=some (x_0 !=x_0)
def Zx:iz:=⟨[(false,.x (.i .i64))],[([.x .b],[])],true,[],fun p=>match p with|x_0=>oR x_0⟩
theorem ZH:bw prog 261 Zx:=bh mixed bR (bM:=bM) (np:=1) (an:=[]) .nil (by kernel_rfl) (by kernel_rfl)
def kG(x_0:Int)(y_1:Int):Option Int:=
 (oR x_0).bind fun r1=>
 (oR y_1).bind fun r2=>
 bif r1 then(bif r2 then(some 0)else
 (some (-1)))else
 (bif r2 then(some 1)else
 (bif decide (x_0<y_1)then(some (-1))else
 (bif decide (x_0>y_1)then(some 1)else
 (some 0))))
def Xl:iz:=⟨[(false,.x (.i .i64)),(false,.x (.i .i64))],[([.x (.i .i64)],[])],true,[],fun p=>match p with|(x_0,y_1)=>kG x_0 y_1⟩
theorem UI:bw prog 214 Xl:=bh mixed bR (bM:=bM) (np:=2) (an:=[]) (.cons ZH .nil) (by kernel_rfl) (by kernel_rfl)
def qH(a_0:aw)(b_1:aw):Option Int:=
 (kG (aw.fB a_0) (aw.fB b_1)).bind fun r1=>
 some r1
def Xk:iz:=⟨[(false,.x y9),(false,.x y9)],[([.x (.i .i64)],[])],true,[],fun p=>match p with|(a_0,b_1)=>qH a_0 b_1⟩
theorem Yq:bw prog 213 Xk:=bh mixed bR (bM:=bM) (np:=2) (an:=[]) (.cons UI .nil) (by kernel_rfl) (by kernel_rfl)
def iF(a_1:Int):(Int×Sl aw)->Option ((Int×Sl aw)⊕(Sl aw)):=fun(i9,s10)=>
 (bif decide (i9>a_1)then((cC i9 s10.l.length).bind fun n11=>
 (cC (wr .i64 (i9-1)) s10.l.length).bind fun n12=>
 (qH (gt s10.l n11) (gt s10.l n12)).bind fun r13=>
 some (decide (r13<0)))else
 (some false):Option Bool).bind fun b14=>
 bif b14 then((cC (wr .i64 (i9-1)) s10.l.length).bind fun n15=>
 (cC i9 s10.l.length).bind fun n16=>
 (cC i9 s10.l.length).bind fun n17=>
 (cC (wr .i64 (i9-1)) (s10.l.set n17 (gt s10.l n15)).length).bind fun n18=>
 some (.inl (wr .i64 (i9-1),(Sl.mk ((s10.l.set n17 (gt s10.l n15)).set n18 (gt s10.l n16))))))else
 (some (.inr s10))
def iE(a_1:Int)(b_2:Int):(Int×Sl aw)->Option ((Int×Sl aw)⊕(Sl aw)):=fun(i4,s5)=>
 bif decide (i4<b_2)then((aP (iF a_1) (i4,s5)).bind fun s19=>
 some (.inl (wr .i64 (i4+1),s19)))else
 (some (.inr s5))
def cn(data_0:Sl aw)(a_1:Int)(b_2:Int):Option (Sl aw):=
 (aP (iE a_1 b_2) (wr .i64 (a_1+1),data_0)).bind fun s20=>
 some s20
def Xj:iz:=⟨[(true,.os y9),(false,.x (.i .i64)),(false,.x (.i .i64)),(false,.fn 213 .ni)],[([],[.os y9])],true,[true,false,false,false],fun p=>match p with|(data_0,a_1,b_2)=>cn data_0 a_1 b_2⟩
theorem Yp:bw prog 286 Xj:=bh mixed bR (bM:=bM) (np:=4) (an:=[(2,{j:=some {vs:=[(0,.so 0),(8,.x (.i .i64))],gs:=(.co (.so 0) .ni),os:=[.ar y9],kl:=[0]},e:=[(.exit 0,{gs:=(.co (.so 0) .ni),os:=[.ar y9],kl:=[0]})]}),(9,{j:=some {vs:=[(0,.so 0),(9,.x (.i .i64))],gs:=(.co (.so 0) .ni),os:=[.ar y9],kl:=[1]},e:=[(.exit 2,{vs:=[(0,.so 0)],gs:=(.co (.so 0) .ni),os:=[.ar y9],kl:=[1]})]}),(12,{j:=some {vs:=[(34,.x .b)]}})]) (.cons Yq .nil) (by kernel_rfl) (by kernel_rfl)
def dw:(Int×Int×Int×Bool×Bool×Sl aw)->Option ((Int×Int×Int×Bool×Bool×Sl aw)⊕(Sl aw)):=fun(i12,i13,i14,b15,b16,s17)=>
 bif decide ((wr .i64 (i13-i12))<=12)then((cn s17 i12 i13).bind fun s18=>
 (kE s18 s17).bind fun _=>
 some (.inr s18))else
 (bif(i14==0)then(none)else
 (bif(!b15)then(none)else
 (none)))
def dU(data_0:Sl aw)(a_1:Int)(b_2:Int)(limit_3:Int):Option (Sl aw):=
 (aP (dw) (a_1,b_2,limit_3,true,true,data_0)).bind fun s19=>
 some s19
def Xi:iz:=⟨[(true,.os y9),(false,.x (.i .i64)),(false,.x (.i .i64)),(false,.x (.i .i64)),(false,.fn 213 .ni)],[([],[.os y9])],true,[true,false,false,false,false],fun p=>match p with|(data_0,a_1,b_2,limit_3)=>dU data_0 a_1 b_2 limit_3⟩
theorem Yo:bw prog 259 Xi:=bh mixed bR (bM:=bM) (np:=5) (an:=[(4,{j:=some {vs:=[(0,.so 0),(1,.x (.i .i64)),(2,.x (.i .i64)),(3,.x (.i .i64)),(10,.x .b),(11,.x .b)],gs:=(.co (.so 0) .ni),os:=[.ar y9],kl:=[0]},e:=[(.ret,{gs:=(.co (.so 0) .ni),os:=[.ar y9],kl:=[0]})]})]) (.cons Yp .nil) (by kernel_rfl) (by kernel_rfl)
def dq(x_0:Sl aw):Option (Sl aw):=
 (oO (wr .u64 (x_0.l.length:Int))).bind fun r1=>
 (dU x_0 0 (x_0.l.length:Int) r1).bind fun s2=>
 (kE s2 x_0).bind fun _=>
 some s2
def Xh:iz:=⟨[(true,.os y9),(false,.fn 213 .ni)],[([],[.os y9])],true,[true,false],fun p=>match p with|x_0=>dq x_0⟩
theorem Yn:bw prog 212 Xh:=bh mixed bR (bM:=bM) (np:=2) (an:=[]) (.cons ZI (.cons Yo .nil)) (by kernel_rfl) (by kernel_rfl)
def jm(t_0:ai)(sw_1:Int):(Int×Sl aw)->Option ((Int×Sl aw)⊕(Sl aw)):=fun(i4,s5)=>
 bif decide (i4<(((ai.aE t_0).l).length:Int))then(((cC i4 ((ai.aE t_0).l).length).bind fun n6=>
 (bif((aS.A (gt ((ai.aE t_0).l) n6))==sw_1)then((kc (s5.l++[(⟨aS.iB (gt ((ai.aE t_0).l) n6),aS.B (gt ((ai.aE t_0).l) n6),i4⟩:aw)])).bind fun l7=>
 some (Sl.mk l7))else
 (some s5):Option (Sl aw)).bind fun s8=>
 bif((aS.B (gt ((ai.aE t_0).l) n6))==sw_1)then((kc (s8.l++[(⟨aS.iA (gt ((ai.aE t_0).l) n6),aS.A (gt ((ai.aE t_0).l) n6),i4⟩:aw)])).bind fun l9=>
 some (Sl.mk l9))else
 (some s8):Option (Sl aw)).bind fun s10=>
 some (.inl (wr .i64 (i4+1),s10)))else
 (some (.inr s5))
def ot(t_0:ai)(sw_1:Int):Option (Sl aw):=
 (aP (jm t_0 sw_1) (0,Sl.nil)).bind fun s11=>
 (dq s11).bind fun s12=>
 (kE s12 s11).bind fun _=>
 some s12
def Xg:iz:=⟨[(false,.x y1),(false,.x (.i .i64))],[([.x (.sl y9)],[])],false,[],fun p=>match p with|(t_0,sw_1)=>ot t_0 sw_1⟩
theorem SH:bw prog 160 Xg:=bh mixed bR (bM:=bM) (np:=2) (an:=[(7,{j:=some {vs:=[(5,.so 0),(11,.x (.i .i64))],os:=[.ar y9]},e:=[(.exit 0,{vs:=[(5,.so 0)],os:=[.ar y9]})]}),(11,{e:=[(.normal,{vs:=[(5,.so 0)],os:=[.ar y9],kl:=[1]})]}),(14,{e:=[(.normal,{vs:=[(5,.so 0)],os:=[.ar y9],kl:=[1]})]})]) (.cons Yn .nil) (by kernel_rfl) (by kernel_rfl)
def nw(r9:Sl aw):(Int×Sl Int×Sl Int)->Option ((Int×Sl Int×Sl Int)⊕(Sl Int×Sl Int)):=fun(i15,s16,s17)=>
 bif decide (i15<(r9.l.length:Int))then(((cC i15 r9.l.length).bind fun n18=>
 (cC (aw.To (gt r9.l n18)) s16.l.length).bind fun n19=>
 bif decide ((gt s16.l n19)<0)then((cC 0 s17.l.length).bind fun n20=>
 (cC (gt s17.l n20) s16.l.length).bind fun n21=>
 (cC (aw.To (gt r9.l n18)) s16.l.length).bind fun n22=>
 (kc (s17.l++[aw.To (gt r9.l n18)])).bind fun l23=>
 some ((Sl.mk (s16.l.set n22 (wr .i64 ((gt s16.l n21)+1)))),(Sl.mk l23)))else
 (some (s16,s17)):Option (Sl Int×Sl Int)).bind fun(s24,s25)=>
 some (.inl (wr .i64 (i15+1),s24,s25)))else
 (some (.inr (s16,s17)))
def pF(t_0:ai):(Sl Int×Sl Int)->Option ((Sl Int×Sl Int)⊕(Sl Int)):=fun(s6,s7)=>
 bif decide ((s7.l.length:Int)>0)then((cC 0 s7.l.length).bind fun n8=>
 (ot t_0 (gt s7.l n8)).bind fun r9=>
 (aP (nw r9) (0,s6,s7)).bind fun(s26,s27)=>
 (nR s27.l 1 s27.l.length).bind fun l28=>
 some (.inl (s26,(s27.to l28))))else
 (some (.inr s6))
def pV(t_0:ai)(sw_1:Int):Option (Sl Int):=
 (eQ (Sl.mk [(-1)]) (if 0>(ai.ah t_0)then 0 else(ai.ah t_0))).bind fun s1=>
 bif((decide (sw_1<0))||(decide (sw_1>=(ai.ah t_0))))then(some s1)else
 ((cC sw_1 s1.l.length).bind fun n2=>
 (aP (pF t_0) ((Sl.mk (s1.l.set n2 0)),(Sl.mk [sw_1]))).bind fun s29=>
 some s29)
def Xf:iz:=⟨[(false,.x y1),(false,.x (.i .i64))],[([.x (.sl (.i .i64))],[])],false,[],fun p=>match p with|(t_0,sw_1)=>pV t_0 sw_1⟩
theorem Ym:bw prog 100 Xf:=bh mixed bR (bM:=bM) (np:=2) (an:=[(14,{j:=some {vs:=[(5,.so 0),(6,.so 1)],os:=[.ar (.i .i64),.ar (.i .i64)],kl:=[2,3]},e:=[(.exit 0,{vs:=[(5,.so 0)],os:=[.ar (.i .i64)],kl:=[2,3]})]}),(21,{j:=some {vs:=[(5,.so 0),(6,.so 1),(39,.x (.i .i64))],os:=[.ar (.i .i64),.ar (.i .i64)],kl:=[4,5]},e:=[(.exit 2,{vs:=[(5,.so 0),(6,.so 1)],os:=[.ar (.i .i64),.ar (.i .i64)],kl:=[4,5]})]}),(25,{e:=[(.normal,{vs:=[(5,.so 0),(6,.so 1)],os:=[.ar (.i .i64),.ar (.i .i64)],kl:=[7000006,7000007]})]})]) (.cons XR (.cons SH .nil)) (by kernel_rfl) (by kernel_rfl)
def dK(s_0:Sl Int)(v_1:Int):Int->Option (Int⊕(Int⊕Unit)):=fun i2=>
 bif decide (i2<(s_0.l.length:Int))then((cC i2 s_0.l.length).bind fun n3=>
 bif(v_1==(gt s_0.l n3))then(some (.inr (.inl i2)))else
 (some (.inl (wr .i64 (i2+1)))))else
 (some (.inr (.inr ())))
def jo(s_0:Sl Int)(v_1:Int):Option Int:=
 (aP (dK s_0 v_1) 0).bind fun
 |.inl i4=>(some i4)
 |.inr _=>(some (-1))
def Xe:iz:=⟨[(false,.x (.sl (.i .i64))),(false,.x (.i .i64))],[([.x (.i .i64)],[])],true,[],fun p=>match p with|(s_0,v_1)=>jo s_0 v_1⟩
theorem Yl:bw prog 158 Xe:=bh mixed bR (bM:=bM) (np:=2) (an:=[(5,{j:=some {vs:=[(8,.x (.i .i64))]},e:=[(.ret,{vs:=[(4,.x (.i .i64))]}),(.exit 0,{})]})]) .nil (by kernel_rfl) (by kernel_rfl)
def dL(s_0:Sl Int)(v_1:Int):Option Bool:=
 (jo s_0 v_1).bind fun r1=>
 some (decide (r1>=0))
def Xd:iz:=⟨[(false,.x (.sl (.i .i64))),(false,.x (.i .i64))],[([.x .b],[])],true,[],fun p=>match p with|(s_0,v_1)=>dL s_0 v_1⟩
theorem SG:bw prog 99 Xd:=bh mixed bR (bM:=bM) (np:=2) (an:=[]) (.cons Yl .nil) (by kernel_rfl) (by kernel_rfl)
def oq(t_0:ai):Option Bool:=
 (pV t_0 0).bind fun r1=>
 (dL r1 (-1)).bind fun r2=>
 some (!r2)
def Xc:iz:=⟨[(false,.x y1)],[([.x .b],[])],true,[],fun p=>match p with|t_0=>oq t_0⟩
theorem Yk:bw prog 48 Xc:=bh mixed bR (bM:=bM) (np:=1) (an:=[]) (.cons Ym (.cons SG .nil)) (by kernel_rfl) (by kernel_rfl)
def rB(n_0:Int)(from_1:Int)(to_2:Int):Option Bool:=some ((decide (n_0>=from_1))&&(decide (n_0<=to_2)))
def Xb:iz:=⟨[(false,.x (.i .i64)),(false,.x (.i .i64)),(false,.x (.i .i64))],[([.x .b],[])],true,[],fun p=>match p with|(n_0,from_1,to_2)=>rB n_0 from_1 to_2⟩
theorem UH:bw prog 49 Xb:=bh mixed bR (bM:=bM) (np:=3) (an:=[]) .nil (by kernel_rfl) (by kernel_rfl)
def uq(s_0:Int):Option Bool:=
 (rB s_0 (-1048576) 1048576).bind fun r1=>
 some (!r1)
def Xa:iz:=⟨[(false,.x (.i .i64))],[([.x .b],[])],true,[],fun p=>match p with|s_0=>uq s_0⟩
theorem Yj:bw prog 51 Xa:=bh mixed bR (bM:=bM) (np:=1) (an:=[]) (.cons UH .nil) (by kernel_rfl) (by kernel_rfl)
def dk(s_0:Sl Int):Int->Option (Int⊕(Int⊕Unit)):=fun i2=>
 bif decide (i2<(s_0.l.length:Int))then((cC i2 s_0.l.length).bind fun n3=>
 (uq (gt s_0.l n3)).bind fun r4=>
 bif r4 then(some (.inr (.inl i2)))else
 (some (.inl (wr .i64 (i2+1)))))else
 (some (.inr (.inr ())))
def fD(s_0:Sl Int):Option Int:=
 (aP (dk s_0) 0).bind fun
 |.inl i5=>(some i5)
 |.inr _=>(some (-1))
def W_:iz:=⟨[(false,.x (.sl (.i .i64))),(false,.fn 51 .ni)],[([.x (.i .i64)],[])],true,[],fun p=>match p with|s_0=>fD s_0⟩
theorem Yi:bw prog 101 W_:=bh mixed bR (bM:=bM) (np:=2) (an:=[(5,{j:=some {vs:=[(8,.x (.i .i64))]},e:=[(.ret,{vs:=[(4,.x (.i .i64))]}),(.exit 0,{})]})]) (.cons Yj .nil) (by kernel_rfl) (by kernel_rfl)
def dl(s_0:Sl Int):Option Bool:=
 (fD s_0).bind fun r1=>
 some (decide (r1>=0))
def W9:iz:=⟨[(false,.x (.sl (.i .i64))),(false,.fn 51 .ni)],[([.x .b],[])],true,[],fun p=>match p with|s_0=>dl s_0⟩
theorem Yh:bw prog 50 W9:=bh mixed bR (bM:=bM) (np:=2) (an:=[]) (.cons Yi .nil) (by kernel_rfl) (by kernel_rfl)
theorem MZ:bw prog 166 (AJ true):=HX (by kernel_rfl) (by kernel_rfl)
def o8(x_0:Nat):Option Nat:=
 bif(!(GB .f64 x_0 x_0))then((qV 9221120237041090561).bind fun r1=>
 some r1)else
 (some x_0)
def W8:iz:=⟨[(false,.x (.f .f64))],[([.x (.f .f64)],[])],true,[],fun p=>match p with|x_0=>o8 x_0⟩
theorem UG:bw prog 165 W8:=bh mixed bR (bM:=bM) (np:=1) (an:=[]) (.cons MZ .nil) (by kernel_rfl) (by kernel_rfl)
def AG(n_0:Int):Option Nat:=
 (qV n_0).bind fun r1=>
 (o8 r1).bind fun r2=>
 some r2
def W7:iz:=⟨[(false,.x (.i .u64))],[([.x (.f .f64)],[])],true,[],fun p=>match p with|n_0=>AG n_0⟩
theorem Yg:bw prog 104 W7:=bh mixed bR (bM:=bM) (np:=1) (an:=[]) (.cons MZ (.cons UG .nil)) (by kernel_rfl) (by kernel_rfl)
def qC(bits_0:Sl Int):(Int×Sl Nat)->Option ((Int×Sl Nat)⊕(Sl Nat)):=fun(i4,s5)=>
 bif decide (i4<(bits_0.l.length:Int))then((cC i4 bits_0.l.length).bind fun n6=>
 (AG (gt bits_0.l n6)).bind fun r7=>
 (kc (s5.l++[r7])).bind fun l8=>
 some (.inl (wr .i64 (i4+1),(Sl.mk l8))))else
 (some (.inr s5))
def wi(bits_0:Sl Int):Option (Sl Nat):=
 (aP (qC bits_0) (0,Sl.nil)).bind fun s9=>
 some s9
def W6:iz:=⟨[(false,.x (.sl (.i .u64)))],[([.x (.sl (.f .f64))],[])],false,[],fun p=>match p with|bits_0=>wi bits_0⟩
theorem Yf:bw prog 53 W6:=bh mixed bR (bM:=bM) (np:=1) (an:=[(7,{j:=some {vs:=[(3,.so 0),(8,.x (.i .i64))],os:=[.ar (.f .f64)]},e:=[(.exit 0,{vs:=[(3,.so 0)],os:=[.ar (.f .f64)]})]})]) (.cons Yg .nil) (by kernel_rfl) (by kernel_rfl)
def sV(x_0:Nat):Option Bool:=some (N3 .f64 x_0 0||GB .f64 x_0 0)
def W5:iz:=⟨[(false,.x (.f .f64))],[([.x .b],[])],true,[],fun p=>match p with|x_0=>sV x_0⟩
theorem Ye:bw prog 217 W5:=bh mixed bR (bM:=bM) (np:=1) (an:=[]) .nil (by kernel_rfl) (by kernel_rfl)
def rf(x_0:Nat):Option Bool:=
 (sV x_0).bind fun r1=>
 some (!r1)
def W4:iz:=⟨[(false,.x (.f .f64))],[([.x .b],[])],true,[],fun p=>match p with|x_0=>rf x_0⟩
theorem Yd:bw prog 216 W4:=bh mixed bR (bM:=bM) (np:=1) (an:=[]) (.cons Ye .nil) (by kernel_rfl) (by kernel_rfl)
def cq(s_0:Sl Nat):Int->Option (Int⊕(Int⊕Unit)):=fun i2=>
 bif decide (i2<(s_0.l.length:Int))then((cC i2 s_0.l.length).bind fun n3=>
 (rf (gt s_0.l n3)).bind fun r4=>
 bif r4 then(some (.inr (.inl i2)))else
 (some (.inl (wr .i64 (i2+1)))))else
 (some (.inr (.inr ())))
def cG(s_0:Sl Nat):Option Int:=
 (aP (cq s_0) 0).bind fun
 |.inl i5=>(some i5)
 |.inr _=>(some (-1))
def W3:iz:=⟨[(false,.x (.sl (.f .f64))),(false,.fn 216 .ni)],[([.x (.i .i64)],[])],true,[],fun p=>match p with|s_0=>cG s_0⟩
theorem Yc:bw prog 262 W3:=bh mixed bR (bM:=bM) (np:=2) (an:=[(5,{j:=some {vs:=[(8,.x (.i .i64))]},e:=[(.ret,{vs:=[(4,.x (.i .i64))]}),(.exit 0,{})]})]) (.cons Yd .nil) (by kernel_rfl) (by kernel_rfl)
def ct(s_0:Sl Nat):Option Bool:=
 (cG s_0).bind fun r1=>
 some (decide (r1>=0))
def W0:iz:=⟨[(false,.x (.sl (.f .f64))),(false,.fn 216 .ni)],[([.x .b],[])],true,[],fun p=>match p with|s_0=>ct s_0⟩
theorem Yb:bw prog 215 W0:=bh mixed bR (bM:=bM) (np:=2) (an:=[]) (.cons Yc .nil) (by kernel_rfl) (by kernel_rfl)
def tM(w_0:Sl Nat)(links_1:Int):Option Bool:=
 (bif((w_0.l.length:Int)==links_1)then((ct w_0).bind fun r1=>
 some (!r1))else
 (some false):Option Bool).bind fun b2=>
 some b2
def WZ:iz:=⟨[(false,.x (.sl (.f .f64))),(false,.x (.i .i64))],[([.x .b],[])],true,[],fun p=>match p with|(w_0,links_1)=>tM w_0 links_1⟩
theorem Ya:bw prog 161 WZ:=bh mixed bR (bM:=bM) (np:=2) (an:=[(3,{j:=some {vs:=[(4,.x .b)]}})]) (.cons Yb .nil) (by kernel_rfl) (by kernel_rfl)
def lf(t_0:ai)(w_1:Sl Nat):Option Bool:=
 ((mT t_0).bind fun r1=>
 bif r1 then((tM w_1 (((ai.aE t_0).l).length:Int)).bind fun r2=>
 some r2)else
 (some false):Option Bool).bind fun b3=>
 some b3
def WY:iz:=⟨[(false,.x y1),(false,.x (.sl (.f .f64)))],[([.x .b],[])],true,[],fun p=>match p with|(t_0,w_1)=>lf t_0 w_1⟩
theorem SF:bw prog 102 WY:=bh mixed bR (bM:=bM) (np:=2) (an:=[(3,{j:=some {vs:=[(4,.x .b)]}})]) (.cons Y4 (.cons Ya .nil)) (by kernel_rfl) (by kernel_rfl)
def ub(sign_0:Int):Option Nat:=
 (bif decide (sign_0>=0)then(some 9218868437227405312)else
 (some 18442240474082181120):Option Int).bind fun i1=>
 (qV i1).bind fun r2=>
 some r2
def WX:iz:=⟨[(false,.x (.i .i64))],[([.x (.f .f64)],[])],true,[],fun p=>match p with|sign_0=>ub sign_0⟩
theorem UF:bw prog 219 WX:=bh mixed bR (bM:=bM) (np:=1) (an:=[(4,{e:=[(.normal,{vs:=[(3,.x (.i .u64))]})]})]) (.cons MZ .nil) (by kernel_rfl) (by kernel_rfl)
def nz:(Int×Sl Nat)->Option ((Int×Sl Nat)⊕(Sl Nat)):=fun(i7,s8)=>
 bif decide (i7<(s8.l.length:Int))then((nR s8.l i7 s8.l.length).bind fun l9=>
 (nR s8.l 0 i7).bind fun l10=>
 some (.inl (wr .i64 (i7+((min ((s8.to l10).l).length ((s8.to l9).l).length:Nat):Int)),(s8.to (Cw s8.l i7.toNat ((s8.to l9).l).length ((s8.to l10).l))))))else
 (some (.inr s8))
def fG(x_0:Sl Nat)(count_1:Int):Option (Sl Nat):=
 bif decide (count_1<0)then(none)else
 ((kL (wr .u64 (x_0.l.length:Int)) (wr .u64 count_1)).bind fun(r1,r2)=>
 bif((decide (r1>0))||(decide (r2>9223372036854775807)))then(none)else
 ((D2 0 (wr .i64 r2) (wr .i64 r2)).bind fun l3=>
 (aP (nz) (((min x_0.l.length l3.length:Nat):Int),(Sl.mk (Cw l3 0 l3.length x_0.l)))).bind fun s11=>
 some s11))
def WW:iz:=⟨[(false,.x (.sl (.f .f64))),(false,.x (.i .i64))],[([.os (.f .f64)],[])],false,[],fun p=>match p with|(x_0,count_1)=>fG x_0 count_1⟩
theorem X_:bw prog 218 WW:=bh mixed bR (bM:=bM) (np:=2) (an:=[(17,{j:=some {vs:=[(7,.so 0),(8,.x (.i .i64))],os:=[.ar (.f .f64)],kl:=[2]},e:=[(.exit 0,{vs:=[(7,.so 0)],os:=[.ar (.f .f64)],kl:=[2]})]})]) (.cons Y3 .nil) (by kernel_rfl) (by kernel_rfl)
theorem SE:bw prog 268 (AK true):=HY (by kernel_rfl) (by kernel_rfl)
def Fu(x_0:Nat):Option Nat:=
 (pN x_0).bind fun r1=>
 (qV (zx .u64 r1 9223372036854775808)).bind fun r2=>
 some r2
def WV:iz:=⟨[(false,.x (.f .f64))],[([.x (.f .f64)],[])],true,[],fun p=>match p with|x_0=>Fu x_0⟩
theorem X9:bw prog 266 WV:=bh mixed bR (bM:=bM) (np:=1) (an:=[]) (.cons SE (.cons MZ .nil)) (by kernel_rfl) (by kernel_rfl)
def lJ(f_0:Nat)(sign_1:Int):Option Bool:=
 (bif(sign_1==0)then((Fu f_0).bind fun r1=>
 some r1)else
 (bif decide (sign_1<0)then(some (Op.negFloat .f64 f_0))else
 (some f_0)):Option Nat).bind fun f2=>
 some (N3 .f64 f2 9218868437227405311)
def WU:iz:=⟨[(false,.x (.f .f64)),(false,.x (.i .i64))],[([.x .b],[])],true,[],fun p=>match p with|(f_0,sign_1)=>lJ f_0 sign_1⟩
theorem UE:bw prog 226 WU:=bh mixed bR (bM:=bM) (np:=2) (an:=[(2,{e:=[(.normal,{vs:=[(0,.x (.f .f64))]})]})]) (.cons X9 .nil) (by kernel_rfl) (by kernel_rfl)
def sP(x_0:Nat):Option Bool:=
 (pN x_0).bind fun r1=>
 some (decide ((wr .i64 r1)<0))
def WT:iz:=⟨[(false,.x (.f .f64))],[([.x .b],[])],true,[],fun p=>match p with|x_0=>sP x_0⟩
theorem X8:bw prog 332 WT:=bh mixed bR (bM:=bM) (np:=1) (an:=[]) (.cons SE .nil) (by kernel_rfl) (by kernel_rfl)
def qT(x_0:Nat):Option Int:=
 bif(!(GB .f64 x_0 x_0))then(some 0)else
 ((lJ x_0 (-1)).bind fun r1=>
 bif r1 then(some 1)else
 ((lJ x_0 1).bind fun r2=>
 bif r2 then(some 6)else
 (bif Qs .f64 x_0 0 then(some 2)else
 (bif N3 .f64 x_0 0 then(some 5)else
 ((sP x_0).bind fun r3=>
 bif r3 then(some 3)else
 (some 4))))))
def WS:iz:=⟨[(false,.x (.f .f64))],[([.x (.i .i64)],[])],true,[],fun p=>match p with|x_0=>qT x_0⟩
theorem X7:bw prog 298 WS:=bh mixed bR (bM:=bM) (np:=1) (an:=[]) (.cons UE (.cons X8 .nil)) (by kernel_rfl) (by kernel_rfl)
def mX(x_0:Nat):Option Int:=
 (qT x_0).bind fun r1=>
 bif(r1==0)then(some 2)else
 (bif(r1==3)then(some (-1))else
 (some 0))
def WR:iz:=⟨[(false,.x (.f .f64))],[([.x (.i .i64)],[])],true,[],fun p=>match p with|x_0=>mX x_0⟩
theorem X6:bw prog 264 WR:=bh mixed bR (bM:=bM) (np:=1) (an:=[]) (.cons X7 .nil) (by kernel_rfl) (by kernel_rfl)
def oQ(a_0:Nat)(b_1:Nat):Option Int:=
 bif Qs .f64 a_0 b_1 then(some (-1))else
 (bif N3 .f64 a_0 b_1 then(some 1)else
 ((mX a_0).bind fun r1=>
 (mX b_1).bind fun r2=>
 (kG r1 r2).bind fun r3=>
 some r3))
def WQ:iz:=⟨[(false,.x (.f .f64)),(false,.x (.f .f64))],[([.x (.i .i64)],[])],true,[],fun p=>match p with|(a_0,b_1)=>oQ a_0 b_1⟩
theorem X5:bw prog 222 WQ:=bh mixed bR (bM:=bM) (np:=2) (an:=[]) (.cons X6 (.cons UI .nil)) (by kernel_rfl) (by kernel_rfl)
def dz(a_0:Int)(b_1:Int)(c_2:Sl Nat):Option Int:=
 (cC a_0 c_2.l.length).bind fun n1=>
 (cC b_1 c_2.l.length).bind fun n2=>
 (oQ (gt c_2.l n1) (gt c_2.l n2)).bind fun r3=>
 some r3
def WP:iz:=⟨[(false,.x (.i .i64)),(false,.x (.i .i64)),(false,.pt (.sl (.f .f64)))],[([.x (.i .i64)],[])],true,[],fun p=>match p with|(a_0,b_1,c_2)=>dz a_0 b_1 c_2⟩
theorem UD:bw prog 221 WP:=bh mixed bR (bM:=bM) (np:=3) (an:=[]) (.cons X5 .nil) (by kernel_rfl) (by kernel_rfl)
def jg(a_1:Int)(cmp_3_c0:Sl Nat):(Int×Sl Int)->Option ((Int×Sl Int)⊕(Sl Int)):=fun(i9,s10)=>
 (bif decide (i9>a_1)then((cC i9 s10.l.length).bind fun n11=>
 (cC (wr .i64 (i9-1)) s10.l.length).bind fun n12=>
 (dz (gt s10.l n11) (gt s10.l n12) cmp_3_c0).bind fun r13=>
 some (decide (r13<0)))else
 (some false):Option Bool).bind fun b14=>
 bif b14 then((cC (wr .i64 (i9-1)) s10.l.length).bind fun n15=>
 (cC i9 s10.l.length).bind fun n16=>
 (cC i9 s10.l.length).bind fun n17=>
 (cC (wr .i64 (i9-1)) (s10.l.set n17 (gt s10.l n15)).length).bind fun n18=>
 some (.inl (wr .i64 (i9-1),(Sl.mk ((s10.l.set n17 (gt s10.l n15)).set n18 (gt s10.l n16))))))else
 (some (.inr s10))
def jf(a_1:Int)(b_2:Int)(cmp_3_c0:Sl Nat):(Int×Sl Int)->Option ((Int×Sl Int)⊕(Sl Int)):=fun(i4,s5)=>
 bif decide (i4<b_2)then((aP (jg a_1 cmp_3_c0) (i4,s5)).bind fun s19=>
 some (.inl (wr .i64 (i4+1),s19)))else
 (some (.inr s5))
def dG(data_0:Sl Int)(a_1:Int)(b_2:Int)(cmp_3_c0:Sl Nat):Option (Sl Int):=
 (aP (jf a_1 b_2 cmp_3_c0) (wr .i64 (a_1+1),data_0)).bind fun s20=>
 some s20
def WN:iz:=⟨[(true,.os (.i .i64)),(false,.x (.i .i64)),(false,.x (.i .i64)),(false,.fn 221 (.pr (.pt (.sl (.f .f64))) .ni))],[([],[.os (.i .i64)])],true,[true,false,false,false],fun p=>match p with|(data_0,a_1,b_2,cmp_3_c0)=>dG data_0 a_1 b_2 cmp_3_c0⟩
theorem X4:bw prog 296 WN:=bh mixed bR (bM:=bM) (np:=4) (an:=[(2,{j:=some {vs:=[(0,.so 0),(8,.x (.i .i64))],gs:=(.co (.so 0) .ni),os:=[.ar (.i .i64)],kl:=[0]},e:=[(.exit 0,{gs:=(.co (.so 0) .ni),os:=[.ar (.i .i64)],kl:=[0]})]}),(9,{j:=some {vs:=[(0,.so 0),(9,.x (.i .i64))],gs:=(.co (.so 0) .ni),os:=[.ar (.i .i64)],kl:=[1]},e:=[(.exit 2,{vs:=[(0,.so 0)],gs:=(.co (.so 0) .ni),os:=[.ar (.i .i64)],kl:=[1]})]}),(12,{j:=some {vs:=[(34,.x .b)]}})]) (.cons UD .nil) (by kernel_rfl) (by kernel_rfl)
def jN(a_1:Int)(b_2:Int)(n_3:Int):(Int×Sl Int)->Option ((Int×Sl Int)⊕(Sl Int)):=fun(i4,s5)=>
 bif decide (i4<n_3)then((cC (wr .i64 (b_2+i4)) s5.l.length).bind fun n6=>
 (cC (wr .i64 (a_1+i4)) s5.l.length).bind fun n7=>
 (cC (wr .i64 (a_1+i4)) s5.l.length).bind fun n8=>
 (cC (wr .i64 (b_2+i4)) (s5.l.set n8 (gt s5.l n6)).length).bind fun n9=>
 some (.inl (wr .i64 (i4+1),(Sl.mk ((s5.l.set n8 (gt s5.l n6)).set n9 (gt s5.l n7))))))else
 (some (.inr s5))
def c_(data_0:Sl Int)(a_1:Int)(b_2:Int)(n_3:Int)(cmp_4_c0:Sl Nat):Option (Sl Int):=
 (aP (jN a_1 b_2 n_3) (0,data_0)).bind fun s10=>
 some s10
def WM:iz:=⟨[(true,.os (.i .i64)),(false,.x (.i .i64)),(false,.x (.i .i64)),(false,.x (.i .i64)),(false,.fn 221 (.pr (.pt (.sl (.f .f64))) .ni))],[([],[.os (.i .i64)])],true,[true,false,false,false,false],fun p=>match p with|(data_0,a_1,b_2,n_3,cmp_4_c0)=>c_ data_0 a_1 b_2 n_3 cmp_4_c0⟩
theorem X3:bw prog 342 WM:=bh mixed bR (bM:=bM) (np:=5) (an:=[(2,{j:=some {vs:=[(0,.so 0),(10,.x (.i .i64))],gs:=(.co (.so 0) .ni),os:=[.ar (.i .i64)],kl:=[0]},e:=[(.exit 0,{gs:=(.co (.so 0) .ni),os:=[.ar (.i .i64)],kl:=[0]})]})]) .nil (by kernel_rfl) (by kernel_rfl)
def kC(m_2:Int)(cmp_4_c0:Sl Nat):(Int×Int×Sl Int)->Option ((Int×Int×Sl Int)⊕(Int×Sl Int)):=fun(i6,i7,s8)=>
 bif(i6 !=i7)then(bif decide (i6>i7)then((c_ s8 (wr .i64 (m_2-i6)) m_2 i7 cmp_4_c0).bind fun s9=>
 (kE s9 s8).bind fun _=>
 some (.inl (wr .i64 (i6-i7),i7,s9)))else
 ((c_ s8 (wr .i64 (m_2-i6)) (wr .i64 ((wr .i64 (m_2+i7))-i6)) i6 cmp_4_c0).bind fun s10=>
 (kE s10 s8).bind fun _=>
 some (.inl (i6,wr .i64 (i7-i6),s10))))else
 (some (.inr (i6,s8)))
def gY(data_0:Sl Int)(a_1:Int)(m_2:Int)(b_3:Int)(cmp_4_c0:Sl Nat):Option (Sl Int):=
 (aP (kC m_2 cmp_4_c0) (wr .i64 (m_2-a_1),wr .i64 (b_3-m_2),data_0)).bind fun(i11,s12)=>
 (c_ s12 (wr .i64 (m_2-i11)) m_2 i11 cmp_4_c0).bind fun s13=>
 (kE s13 s12).bind fun _=>
 some s13
def WL:iz:=⟨[(true,.os (.i .i64)),(false,.x (.i .i64)),(false,.x (.i .i64)),(false,.x (.i .i64)),(false,.fn 221 (.pr (.pt (.sl (.f .f64))) .ni))],[([],[.os (.i .i64)])],true,[true,false,false,false,false],fun p=>match p with|(data_0,a_1,m_2,b_3,cmp_4_c0)=>gY data_0 a_1 m_2 b_3 cmp_4_c0⟩
theorem X2:bw prog 331 WL:=bh mixed bR (bM:=bM) (np:=5) (an:=[(5,{j:=some {vs:=[(0,.so 0),(10,.x (.i .i64)),(11,.x (.i .i64))],gs:=(.co (.so 0) .ni),os:=[.ar (.i .i64)],kl:=[0]},e:=[(.exit 0,{vs:=[(0,.so 0),(10,.x (.i .i64))],gs:=(.co (.so 0) .ni),os:=[.ar (.i .i64)],kl:=[0]})]})]) (.cons X3 .nil) (by kernel_rfl) (by kernel_rfl)
def j8(data_0:Sl Int)(a_1:Int)(cmp_4_c0:Sl Nat):(Int×Int)->Option ((Int×Int)⊕Int):=fun(i3,i4)=>
 bif decide (i3<i4)then((cC (wr .i64 (fV .u64 (wr .u64 (wr .i64 (i3+i4))) 1)) data_0.l.length).bind fun n5=>
 (cC a_1 data_0.l.length).bind fun n6=>
 (dz (gt data_0.l n5) (gt data_0.l n6) cmp_4_c0).bind fun r7=>
 bif decide (r7<0)then(some (.inl (wr .i64 ((wr .i64 (fV .u64 (wr .u64 (wr .i64 (i3+i4))) 1))+1),i4)))else
 (some (.inl (i3,wr .i64 (fV .u64 (wr .u64 (wr .i64 (i3+i4))) 1)))))else
 (some (.inr i3))
def j7(i8:Int):(Int×Sl Int)->Option ((Int×Sl Int)⊕(Sl Int)):=fun(i12,s13)=>
 bif decide (i12<(wr .i64 (i8-1)))then((cC (wr .i64 (i12+1)) s13.l.length).bind fun n14=>
 (cC i12 s13.l.length).bind fun n15=>
 (cC i12 s13.l.length).bind fun n16=>
 (cC (wr .i64 (i12+1)) (s13.l.set n16 (gt s13.l n14)).length).bind fun n17=>
 some (.inl (wr .i64 (i12+1),(Sl.mk ((s13.l.set n16 (gt s13.l n14)).set n17 (gt s13.l n15))))))else
 (some (.inr s13))
def j6(data_0:Sl Int)(m_2:Int)(cmp_4_c0:Sl Nat):(Int×Int)->Option ((Int×Int)⊕Int):=fun(i21,i22)=>
 bif decide (i21<i22)then((cC m_2 data_0.l.length).bind fun n23=>
 (cC (wr .i64 (fV .u64 (wr .u64 (wr .i64 (i21+i22))) 1)) data_0.l.length).bind fun n24=>
 (dz (gt data_0.l n23) (gt data_0.l n24) cmp_4_c0).bind fun r25=>
 bif(!(decide (r25<0)))then(some (.inl (wr .i64 ((wr .i64 (fV .u64 (wr .u64 (wr .i64 (i21+i22))) 1))+1),i22)))else
 (some (.inl (i21,wr .i64 (fV .u64 (wr .u64 (wr .i64 (i21+i22))) 1)))))else
 (some (.inr i21))
def j5(i26:Int):(Int×Sl Int)->Option ((Int×Sl Int)⊕(Sl Int)):=fun(i30,s31)=>
 bif decide (i30>i26)then((cC (wr .i64 (i30-1)) s31.l.length).bind fun n32=>
 (cC i30 s31.l.length).bind fun n33=>
 (cC i30 s31.l.length).bind fun n34=>
 (cC (wr .i64 (i30-1)) (s31.l.set n34 (gt s31.l n32)).length).bind fun n35=>
 some (.inl (wr .i64 (i30-1),(Sl.mk ((s31.l.set n34 (gt s31.l n32)).set n35 (gt s31.l n33))))))else
 (some (.inr s31))
def jZ(data_0:Sl Int)(a_1:Int)(m_2:Int)(b_3:Int)(cmp_4_c0:Sl Nat):(Int×Int)->Option ((Int×Int)⊕Int):=fun(i41,i42)=>
 bif decide (i41<i42)then((cC (wr .i64 ((wr .i64 ((wr .i64 ((wr .i64 (fV .u64 (wr .u64 (wr .i64 (a_1+b_3))) 1))+m_2))-1))-(wr .i64 (fV .u64 (wr .u64 (wr .i64 (i41+i42))) 1)))) data_0.l.length).bind fun n43=>
 (cC (wr .i64 (fV .u64 (wr .u64 (wr .i64 (i41+i42))) 1)) data_0.l.length).bind fun n44=>
 (dz (gt data_0.l n43) (gt data_0.l n44) cmp_4_c0).bind fun r45=>
 bif(!(decide (r45<0)))then(some (.inl (wr .i64 ((wr .i64 (fV .u64 (wr .u64 (wr .i64 (i41+i42))) 1))+1),i42)))else
 (some (.inl (i41,wr .i64 (fV .u64 (wr .u64 (wr .i64 (i41+i42))) 1)))))else
 (some (.inr i41))
def dZ(rc:Sl Int->Int->Int->Int->Sl Nat->Option (Sl Int))(data_0:Sl Int)(a_1:Int)(m_2:Int)(b_3:Int)(cmp_4_c0:Sl Nat):Option (Sl Int):=
 bif((wr .i64 (m_2-a_1))==1)then((aP (j8 data_0 a_1 cmp_4_c0) (m_2,b_3)).bind fun i8=>
 (aP (j7 i8) (a_1,data_0)).bind fun s18=>
 some s18)else
 (bif((wr .i64 (b_3-m_2))==1)then((aP (j6 data_0 m_2 cmp_4_c0) (a_1,m_2)).bind fun i26=>
 (aP (j5 i26) (m_2,data_0)).bind fun s36=>
 some s36)else
 ((bif decide (m_2>(wr .i64 (fV .u64 (wr .u64 (wr .i64 (a_1+b_3))) 1)))then(some (wr .i64 ((wr .i64 ((wr .i64 (fV .u64 (wr .u64 (wr .i64 (a_1+b_3))) 1))+m_2))-b_3),wr .i64 (fV .u64 (wr .u64 (wr .i64 (a_1+b_3))) 1)))else
 (some (a_1,m_2)):Option (Int×Int)).bind fun(i37,i38)=>
 (aP (jZ data_0 a_1 m_2 b_3 cmp_4_c0) (i37,i38)).bind fun i46=>
 (bif((decide (i46<m_2))&&(decide (m_2<(wr .i64 ((wr .i64 ((wr .i64 (fV .u64 (wr .u64 (wr .i64 (a_1+b_3))) 1))+m_2))-i46)))))then((gY data_0 i46 m_2 (wr .i64 ((wr .i64 ((wr .i64 (fV .u64 (wr .u64 (wr .i64 (a_1+b_3))) 1))+m_2))-i46)) cmp_4_c0).bind fun s47=>
 (kE s47 data_0).bind fun _=>
 some s47)else
 (some data_0):Option (Sl Int)).bind fun s48=>
 (bif((decide (a_1<i46))&&(decide (i46<(wr .i64 (fV .u64 (wr .u64 (wr .i64 (a_1+b_3))) 1)))))then((rc s48 a_1 i46 (wr .i64 (fV .u64 (wr .u64 (wr .i64 (a_1+b_3))) 1)) cmp_4_c0).bind fun s49=>
 (kE s49 s48).bind fun _=>
 some s49)else
 (some s48):Option (Sl Int)).bind fun s50=>
 bif((decide ((wr .i64 (fV .u64 (wr .u64 (wr .i64 (a_1+b_3))) 1))<(wr .i64 ((wr .i64 ((wr .i64 (fV .u64 (wr .u64 (wr .i64 (a_1+b_3))) 1))+m_2))-i46))))&&(decide ((wr .i64 ((wr .i64 ((wr .i64 (fV .u64 (wr .u64 (wr .i64 (a_1+b_3))) 1))+m_2))-i46))<b_3)))then((rc s50 (wr .i64 (fV .u64 (wr .u64 (wr .i64 (a_1+b_3))) 1)) (wr .i64 ((wr .i64 ((wr .i64 (fV .u64 (wr .u64 (wr .i64 (a_1+b_3))) 1))+m_2))-i46)) b_3 cmp_4_c0).bind fun s51=>
 (kE s51 s50).bind fun _=>
 some s51)else
 (some s50)))
def bi:Nat->Sl Int->Int->Int->Int->Sl Nat->Option (Sl Int)
 |0=>fun _ _ _ _ _=>none
 |n+1=>dZ (bi n)
def IG(rc:Sl Int->Int->Int->Int->Sl Nat->Option (Sl Int)):iz:=⟨[(true,.os (.i .i64)),(false,.x (.i .i64)),(false,.x (.i .i64)),(false,.x (.i .i64)),(false,.fn 221 (.pr (.pt (.sl (.f .f64))) .ni))],[([],[.os (.i .i64)])],true,[true,false,false,false,false],fun p=>match p with|(data_0,a_1,m_2,b_3,cmp_4_c0)=>rc data_0 a_1 m_2 b_3 cmp_4_c0⟩
theorem UC(rc:Sl Int->Int->Int->Int->Sl Nat->Option (Sl Int))(h:bw prog 297 (IG rc)):bw prog 297 (IG (dZ rc)):=bh mixed bR (bM:=bM) (np:=5) (an:=[(8,{j:=some {vs:=[(10,.x (.i .i64)),(11,.x (.i .i64))]},e:=[(.exit 0,{vs:=[(10,.x (.i .i64))]})]}),(21,{j:=some {vs:=[(0,.so 0),(13,.x (.i .i64))],gs:=(.co (.so 0) .ni),os:=[.ar (.i .i64)],kl:=[0]},e:=[(.exit 2,{gs:=(.co (.so 0) .ni),os:=[.ar (.i .i64)],kl:=[0]})]}),(36,{j:=some {vs:=[(14,.x (.i .i64)),(15,.x (.i .i64))]},e:=[(.exit 4,{vs:=[(14,.x (.i .i64))]})]}),(49,{j:=some {vs:=[(0,.so 0),(17,.x (.i .i64))],gs:=(.co (.so 0) .ni),os:=[.ar (.i .i64)],kl:=[0]},e:=[(.exit 6,{gs:=(.co (.so 0) .ni),os:=[.ar (.i .i64)],kl:=[0]})]}),(62,{e:=[(.normal,{vs:=[(20,.x (.i .i64)),(21,.x (.i .i64))]})]}),(74,{j:=some {vs:=[(20,.x (.i .i64)),(21,.x (.i .i64))]},e:=[(.exit 8,{vs:=[(20,.x (.i .i64))]})]}),(86,{e:=[(.normal,{vs:=[(0,.so 0)],gs:=(.co (.so 0) .ni),os:=[.ar (.i .i64)],kl:=[0]})]}),(90,{e:=[(.normal,{vs:=[(0,.so 0)],gs:=(.co (.so 0) .ni),os:=[.ar (.i .i64)],kl:=[1]})]})]) (.cons UD (.cons X2 (.cons h .nil))) (by kernel_rfl) (by kernel_rfl)
theorem Rf:∀n,bw prog 297 (IG (bi n))
 |0=>⟨rfl,fun p r h=>by cases h⟩
 |n+1=>UC _ (Rf n)
def WK:iz:=IG (bi 8)
theorem X1:bw prog 297 WK:=Rf 8
def kA(n_1:Int)(cmp_2_c0:Sl Nat):(Int×Int×Sl Int)->Option ((Int×Int×Sl Int)⊕(Int×Sl Int)):=fun(i6,i7,s8)=>
 bif decide (i7<=n_1)then((dG s8 i6 i7 cmp_2_c0).bind fun s9=>
 (kE s9 s8).bind fun _=>
 some (.inl (i7,wr .i64 (i7+20),s9)))else
 (some (.inr (i6,s8)))
def ew(n_1:Int)(cmp_2_c0:Sl Nat)(i16:Int):(Int×Int×Sl Int)->Option ((Int×Int×Sl Int)⊕(Int×Sl Int)):=fun(i23,i24,s25)=>
 bif decide (i24<=n_1)then((bi 8 s25 i23 (wr .i64 (i23+i16)) i24 cmp_2_c0).bind fun s26=>
 (kE s26 s25).bind fun _=>
 some (.inl (i24,wr .i64 (i24+(wr .i64 (2*i16))),s26)))else
 (some (.inr (i23,s25)))
def eu(n_1:Int)(cmp_2_c0:Sl Nat):(Int×Sl Int)->Option ((Int×Sl Int)⊕(Sl Int)):=fun(i16,s17)=>
 bif decide (i16<n_1)then((aP (ew n_1 cmp_2_c0 i16) (0,wr .i64 (2*i16),s17)).bind fun(i27,s28)=>
 (bif decide ((wr .i64 (i27+i16))<n_1)then((bi 8 s28 i27 (wr .i64 (i27+i16)) n_1 cmp_2_c0).bind fun s29=>
 (kE s29 s28).bind fun _=>
 some s29)else
 (some s28):Option (Sl Int)).bind fun s30=>
 some (.inl (wr .i64 (i16*2),s30)))else
 (some (.inr s17))
def fh(data_0:Sl Int)(n_1:Int)(cmp_2_c0:Sl Nat):Option (Sl Int):=
 (aP (kA n_1 cmp_2_c0) (0,20,data_0)).bind fun(i10,s11)=>
 (dG s11 i10 n_1 cmp_2_c0).bind fun s12=>
 (kE s12 s11).bind fun _=>
 (aP (eu n_1 cmp_2_c0) (20,s12)).bind fun s31=>
 some s31
def WJ:iz:=⟨[(true,.os (.i .i64)),(false,.x (.i .i64)),(false,.fn 221 (.pr (.pt (.sl (.f .f64))) .ni))],[([],[.os (.i .i64)])],true,[true,false,false],fun p=>match p with|(data_0,n_1,cmp_2_c0)=>fh data_0 n_1 cmp_2_c0⟩
theorem X0:bw prog 263 WJ:=bh mixed bR (bM:=bM) (np:=3) (an:=[(5,{j:=some {vs:=[(0,.so 0),(7,.x (.i .i64)),(8,.x (.i .i64))],gs:=(.co (.so 0) .ni),os:=[.ar (.i .i64)],kl:=[0]},e:=[(.exit 0,{vs:=[(0,.so 0),(7,.x (.i .i64))],gs:=(.co (.so 0) .ni),os:=[.ar (.i .i64)],kl:=[0]})]}),(16,{j:=some {vs:=[(0,.so 0),(6,.x (.i .i64))],gs:=(.co (.so 0) .ni),os:=[.ar (.i .i64)],kl:=[1]},e:=[(.exit 2,{gs:=(.co (.so 0) .ni),os:=[.ar (.i .i64)],kl:=[1]})]}),(23,{j:=some {vs:=[(0,.so 0),(7,.x (.i .i64)),(8,.x (.i .i64))],gs:=(.co (.so 0) .ni),os:=[.ar (.i .i64)],kl:=[2]},e:=[(.exit 4,{vs:=[(0,.so 0),(7,.x (.i .i64))],gs:=(.co (.so 0) .ni),os:=[.ar (.i .i64)],kl:=[2]})]}),(32,{e:=[(.normal,{vs:=[(0,.so 0)],gs:=(.co (.so 0) .ni),os:=[.ar (.i .i64)],kl:=[3]})]})]) (.cons X4 (.cons X1 .nil)) (by kernel_rfl) (by kernel_rfl)
def cR(x_0:Sl Int)(cmp_1_c0:Sl Nat):Option (Sl Int):=
 (fh x_0 (x_0.l.length:Int) cmp_1_c0).bind fun s1=>
 (kE s1 x_0).bind fun _=>
 some s1
def WI:iz:=⟨[(true,.os (.i .i64)),(false,.fn 221 (.pr (.pt (.sl (.f .f64))) .ni))],[([],[.os (.i .i64)])],true,[true,false],fun p=>match p with|(x_0,cmp_1_c0)=>cR x_0 cmp_1_c0⟩
theorem XZ:bw prog 220 WI:=bh mixed bR (bM:=bM) (np:=2) (an:=[]) (.cons X0 .nil) (by kernel_rfl) (by kernel_rfl)
def oE(a_0:Nat)(b_1:Nat):Option Nat:=
 (o8 (yg .f64 a_0 b_1)).bind fun r1=>
 bif GB .f64 r1 0 then(some 0)else
 (some r1)
def WH:iz:=⟨[(false,.x (.f .f64)),(false,.x (.f .f64))],[([.x (.f .f64)],[])],true,[],fun p=>match p with|(a_0,b_1)=>oE a_0 b_1⟩
theorem UB:bw prog 223 WH:=bh mixed bR (bM:=bM) (np:=2) (an:=[]) (.cons UG .nil) (by kernel_rfl) (by kernel_rfl)
def li(l5:List Int):(Int×Sl Int)->Option ((Int×Sl Int)⊕(Sl Int)):=fun(i9,s10)=>
 bif decide (i9<(l5.length:Int))then((cC i9 s10.l.length).bind fun n11=>
 some (.inl (wr .i64 (i9+1),(Sl.mk (s10.l.set n11 i9)))))else
 (some (.inr s10))
def lh(w_1:Sl Nat)(n19:Nat)(s18:Sl Int)(r21:Sl aw):(Int×Sl Nat)->Option ((Int×Sl Nat)⊕(Sl Nat)):=fun(i25,s26)=>
 bif decide (i25<(r21.l.length:Int))then((cC i25 r21.l.length).bind fun n27=>
 (cC (aw.To (gt r21.l n27)) s26.l.length).bind fun n28=>
 (cC (aw.hZ (gt r21.l n27)) w_1.l.length).bind fun n29=>
 (cC (gt s18.l n19) s26.l.length).bind fun n30=>
 (oE (gt w_1.l n29) (gt s26.l n30)).bind fun r31=>
 (cC (aw.To (gt r21.l n27)) s26.l.length).bind fun n32=>
 some (.inl (wr .i64 (i25+1),(Sl.mk (s26.l.set n32 (Lb .f64 (gt s26.l n28) r31))))))else
 (some (.inr s26))
def nC(t_0:ai)(w_1:Sl Nat):(Sl Int×Sl Nat)->Option ((Sl Int×Sl Nat)⊕(Sl Nat)):=fun(s16,s17)=>
 bif decide ((s16.l.length:Int)>0)then((cR s16 s17).bind fun s18=>
 (kE s18 s16).bind fun _=>
 (cC 0 s18.l.length).bind fun n19=>
 (nR s18.l 1 s18.l.length).bind fun l20=>
 (ot t_0 (gt s18.l n19)).bind fun r21=>
 (aP (lh w_1 n19 s18 r21) (0,s17)).bind fun s33=>
 some (.inl ((s18.to l20),s33)))else
 (some (.inr s17))
def lj(t_0:ai)(w_1:Sl Nat)(sw_2:Int):Option (Sl Nat):=
 (lf t_0 w_1).bind fun r1=>
 bif(((!r1)||(decide (sw_2<0)))||(decide (sw_2>=(ai.ah t_0))))then(some Sl.nil)else
 ((ub 1).bind fun r2=>
 (fG (Sl.mk [r2]) (ai.ah t_0)).bind fun s3=>
 (cC sw_2 s3.l.length).bind fun n4=>
 (D2 0 (ai.ah t_0) (ai.ah t_0)).bind fun l5=>
 (aP (li l5) (0,(Sl.mk l5))).bind fun s12=>
 (aP (nC t_0 w_1) (s12,(Sl.mk (s3.l.set n4 0)))).bind fun s34=>
 some s34)
def WG:iz:=⟨[(false,.x y1),(false,.x (.sl (.f .f64))),(false,.x (.i .i64))],[([.x (.sl (.f .f64))],[])],false,[],fun p=>match p with|(t_0,w_1,sw_2)=>lj t_0 w_1 sw_2⟩
theorem UA:bw prog 162 WG:=bh mixed bR (bM:=bM) (np:=3) (an:=[(16,{j:=some {vs:=[(8,.so 0),(40,.x (.i .i64))],os:=[.ar (.i .i64)],kl:=[7000002]},e:=[(.exit 0,{vs:=[(8,.so 0)],os:=[.ar (.i .i64)],kl:=[7000002]})]}),(26,{j:=some {vs:=[(7,.op 0 (.sl (.f .f64)) []),(8,.so 1)],os:=[.bx (.sl (.f .f64)) (.so 2),.ar (.i .i64),.ar (.f .f64)],kl:=[4000002,5000002,7000003]},e:=[(.exit 2,{vs:=[(7,.op 0 (.sl (.f .f64)) [])],os:=[.bx (.sl (.f .f64)) (.so 1),.ar (.f .f64)],kl:=[4000002,5000002,7000003]})]}),(38,{j:=some {vs:=[(7,.op 0 (.sl (.f .f64)) []),(63,.x (.i .i64))],os:=[.bx (.sl (.f .f64)) (.so 1),.ar (.f .f64)],kl:=[7000004,7000006]},e:=[(.exit 4,{vs:=[(7,.op 0 (.sl (.f .f64)) [])],os:=[.bx (.sl (.f .f64)) (.so 1),.ar (.f .f64)],kl:=[7000004,7000006]})]})]) (.cons SF (.cons UF (.cons X_ (.cons XZ (.cons SH (.cons UB .nil)))))) (by kernel_rfl) (by kernel_rfl)
def tL(w_0:Sl Nat)(link_1:Int):Option Bool:=
 (bif((decide (link_1>=0))&&(decide (link_1<(w_0.l.length:Int))))then((cC link_1 w_0.l.length).bind fun n1=>
 (ub 1).bind fun r2=>
 some (Qs .f64 (gt w_0.l n1) r2))else
 (some false):Option Bool).bind fun b3=>
 some b3
def WF:iz:=⟨[(false,.x (.sl (.f .f64))),(false,.x (.i .i64))],[([.x .b],[])],true,[],fun p=>match p with|(w_0,link_1)=>tL w_0 link_1⟩
theorem XY:bw prog 227 WF:=bh mixed bR (bM:=bM) (np:=2) (an:=[(3,{j:=some {vs:=[(4,.x .b)]}})]) (.cons UF .nil) (by kernel_rfl) (by kernel_rfl)
def nB(w_1:Sl Nat)(costs_2:Sl Nat)(at_3:Int)(r3:Sl aw):(Int×Sl aw)->Option ((Int×Sl aw)⊕(Sl aw)):=fun(i7,s8)=>
 bif decide (i7<(r3.l.length:Int))then(((cC i7 r3.l.length).bind fun n9=>
 ((tL w_1 (aw.hZ (gt r3.l n9))).bind fun r10=>
 bif r10 then((cC (aw.hZ (gt r3.l n9)) w_1.l.length).bind fun n11=>
 (cC (aw.To (gt r3.l n9)) costs_2.l.length).bind fun n12=>
 (oE (gt w_1.l n11) (gt costs_2.l n12)).bind fun r13=>
 (cC at_3 costs_2.l.length).bind fun n14=>
 some (GB .f64 r13 (gt costs_2.l n14)))else
 (some false):Option Bool).bind fun b15=>
 bif b15 then((kc (s8.l++[gt r3.l n9])).bind fun l16=>
 some (Sl.mk l16))else
 (some s8):Option (Sl aw)).bind fun s17=>
 some (.inl (wr .i64 (i7+1),s17)))else
 (some (.inr s8))
def oT(t_0:ai)(w_1:Sl Nat)(costs_2:Sl Nat)(at_3:Int):Option (Sl aw):=
 (cC at_3 costs_2.l.length).bind fun n1=>
 (lJ (gt costs_2.l n1) 1).bind fun r2=>
 bif r2 then(some Sl.nil)else
 ((ot t_0 at_3).bind fun r3=>
 (aP (nB w_1 costs_2 at_3 r3) (0,Sl.nil)).bind fun s18=>
 some s18)
def WE:iz:=⟨[(false,.x y1),(false,.x (.sl (.f .f64))),(false,.x (.sl (.f .f64))),(false,.x (.i .i64))],[([.x (.sl y9)],[])],false,[],fun p=>match p with|(t_0,w_1,costs_2,at_3)=>oT t_0 w_1 costs_2 at_3⟩
theorem Uz:bw prog 164 WE:=bh mixed bR (bM:=bM) (np:=4) (an:=[(12,{j:=some {vs:=[(9,.so 0),(21,.x (.i .i64))],os:=[.ar y9]},e:=[(.exit 0,{vs:=[(9,.so 0)],os:=[.ar y9]})]}),(16,{e:=[(.normal,{vs:=[(9,.so 0)],os:=[.ar y9],kl:=[3]})]}),(20,{j:=some {vs:=[(46,.x .b)]}})]) (.cons UE (.cons SH (.cons XY (.cons UB .nil)))) (by kernel_rfl) (by kernel_rfl)
def rp(s_0:aw)(c_1:Sl Int)(c_2:Int):Option Bool:=
 (cC (aw.To s_0) c_1.l.length).bind fun n1=>
 some ((gt c_1.l n1)==c_2)
def WC:iz:=⟨[(false,.x y9),(false,.pt (.sl (.i .i64))),(false,.pt (.i .i64))],[([.x .b],[])],true,[],fun p=>match p with|(s_0,c_1,c_2)=>rp s_0 c_1 c_2⟩
theorem XX:bw prog 225 WC:=bh mixed bR (bM:=bM) (np:=3) (an:=[]) .nil (by kernel_rfl) (by kernel_rfl)
def bY(s_0:Sl aw)(f_1_c0:Sl Int)(f_1_c1:Int):Int->Option (Int⊕(Int⊕Unit)):=fun i2=>
 bif decide (i2<(s_0.l.length:Int))then((cC i2 s_0.l.length).bind fun n3=>
 (rp (gt s_0.l n3) f_1_c0 f_1_c1).bind fun r4=>
 bif r4 then(some (.inr (.inl i2)))else
 (some (.inl (wr .i64 (i2+1)))))else
 (some (.inr (.inr ())))
def db(s_0:Sl aw)(f_1_c0:Sl Int)(f_1_c1:Int):Option Int:=
 (aP (bY s_0 f_1_c0 f_1_c1) 0).bind fun
 |.inl i5=>(some i5)
 |.inr _=>(some (-1))
def WB:iz:=⟨[(false,.x (.sl y9)),(false,.fn 225 (.pr (.pt (.sl (.i .i64))) (.pr (.pt (.i .i64)) .ni)))],[([.x (.i .i64)],[])],true,[],fun p=>match p with|(s_0,f_1_c0,f_1_c1)=>db s_0 f_1_c0 f_1_c1⟩
theorem XW:bw prog 265 WB:=bh mixed bR (bM:=bM) (np:=2) (an:=[(5,{j:=some {vs:=[(8,.x (.i .i64))]},e:=[(.ret,{vs:=[(4,.x (.i .i64))]}),(.exit 0,{})]})]) (.cons XX .nil) (by kernel_rfl) (by kernel_rfl)
def bZ(s_0:Sl aw)(f_1_c0:Sl Int)(f_1_c1:Int):Option Bool:=
 (db s_0 f_1_c0 f_1_c1).bind fun r1=>
 some (decide (r1>=0))
def WA:iz:=⟨[(false,.x (.sl y9)),(false,.fn 225 (.pr (.pt (.sl (.i .i64))) (.pr (.pt (.i .i64)) .ni)))],[([.x .b],[])],true,[],fun p=>match p with|(s_0,f_1_c0,f_1_c1)=>bZ s_0 f_1_c0 f_1_c1⟩
theorem XV:bw prog 224 WA:=bh mixed bR (bM:=bM) (np:=2) (an:=[]) (.cons XW .nil) (by kernel_rfl) (by kernel_rfl)
def lg(t_0:ai)(w_1:Sl Nat)(r1:Sl Nat)(i7:Int)(s8:Sl Int):(Int×Sl Int)->Option ((Int×Sl Int)⊕(Sl Int)):=fun(i13,s14)=>
 bif decide (i13<(s8.l.length:Int))then((((cC i13 s14.l.length).bind fun n15=>
 bif decide ((gt s14.l n15)<0)then((oT t_0 w_1 r1 i13).bind fun r16=>
 (bZ r16 s14 i7).bind fun r17=>
 some r17)else
 (some false):Option Bool).bind fun b18=>
 bif b18 then((cC i13 s14.l.length).bind fun n19=>
 some (Sl.mk (s14.l.set n19 (wr .i64 (i7+1)))))else
 (some s14):Option (Sl Int)).bind fun s20=>
 some (.inl (wr .i64 (i13+1),s20)))else
 (some (.inr s14))
def jO(t_0:ai)(w_1:Sl Nat)(r1:Sl Nat):(Int×Sl Int)->Option ((Int×Sl Int)⊕(Sl Int)):=fun(i7,s8)=>
 (dL s8 i7).bind fun r9=>
 bif r9 then((aP (lg t_0 w_1 r1 i7 s8) (0,s8)).bind fun s21=>
 some (.inl (wr .i64 (i7+1),s21)))else
 (some (.inr s8))
def qK(t_0:ai)(w_1:Sl Nat)(sw_2:Int):Option (Sl Int):=
 (lj t_0 w_1 sw_2).bind fun r1=>
 bif r1.fA then(some Sl.nil)else
 ((eQ (Sl.mk [(-1)]) (ai.ah t_0)).bind fun s2=>
 (cC sw_2 s2.l.length).bind fun n3=>
 (aP (jO t_0 w_1 r1) (0,(Sl.mk (s2.l.set n3 0)))).bind fun s22=>
 some s22)
def Wz:iz:=⟨[(false,.x y1),(false,.x (.sl (.f .f64))),(false,.x (.i .i64))],[([.x (.sl (.i .i64))],[])],false,[],fun p=>match p with|(t_0,w_1,sw_2)=>qK t_0 w_1 sw_2⟩
theorem XU:bw prog 163 Wz:=bh mixed bR (bM:=bM) (np:=3) (an:=[(16,{j:=some {vs:=[(8,.op 0 (.sl (.i .i64)) []),(9,.op 1 (.i .i64) [])],os:=[.bx (.sl (.i .i64)) (.so 2),.bx (.i .i64) (.x (.i .i64)),.ar (.i .i64)],kl:=[3,4,5]},e:=[(.exit 0,{vs:=[(8,.op 0 (.sl (.i .i64)) [])],os:=[.bx (.sl (.i .i64)) (.so 1),.ar (.i .i64)],kl:=[3,4,5]})]}),(23,{j:=some {vs:=[(8,.op 0 (.sl (.i .i64)) []),(31,.x (.i .i64))],os:=[.bx (.sl (.i .i64)) (.so 1),.ar (.i .i64)],kl:=[6,8]},e:=[(.exit 2,{vs:=[(8,.op 0 (.sl (.i .i64)) [])],os:=[.bx (.sl (.i .i64)) (.so 1),.ar (.i .i64)],kl:=[6,8]})]}),(27,{e:=[(.normal,{vs:=[(8,.op 0 (.sl (.i .i64)) [])],os:=[.bx (.sl (.i .i64)) (.so 1),.ar (.i .i64)],kl:=[10,11]})]}),(31,{j:=some {vs:=[(47,.x .b)]}})]) (.cons UA (.cons XR (.cons SG (.cons Uz (.cons XV .nil))))) (by kernel_rfl) (by kernel_rfl)
def jH(r4:Sl Int)(i9:Int)(r11:Sl aw):(Int×Sl Int)->Option ((Int×Sl Int)⊕(Sl Int)):=fun(i15,s16)=>
 bif decide (i15<(r11.l.length:Int))then((cC i15 r11.l.length).bind fun n17=>
 (cC (aw.To (gt r11.l n17)) r4.l.length).bind fun n18=>
 (cC i9 r4.l.length).bind fun n19=>
 bif((gt r4.l n18)==(wr .i64 ((gt r4.l n19)-1)))then((cC i9 s16.l.length).bind fun n20=>
 some (.inr (Sl.mk (s16.l.set n20 (aw.fB (gt r11.l n17))))))else
 (some (.inl (wr .i64 (i15+1),s16))))else
 (some (.inr s16))
def mo(t_0:ai)(w_1:Sl Nat)(r3:Sl Nat)(r4:Sl Int)(s5:Sl Int):(Int×Sl Int)->Option ((Int×Sl Int)⊕(Sl Int)):=fun(i9,s10)=>
 bif decide (i9<(s5.l.length:Int))then((oT t_0 w_1 r3 i9).bind fun r11=>
 (aP (jH r4 i9 r11) (0,s10)).bind fun s21=>
 some (.inl (wr .i64 (i9+1),s21)))else
 (some (.inr s10))
def sn(t_0:ai)(w_1:Sl Nat)(h_2:Int):Option (Sl Int×Int):=
 (lf t_0 w_1).bind fun r1=>
 bif(!r1)then(some (Sl.nil,2))else
 (bif((decide (h_2<0))||(decide (h_2>=(((ai.bc t_0).l).length:Int))))then(some (Sl.nil,7))else
 ((cC h_2 ((ai.bc t_0).l).length).bind fun n2=>
 (lj t_0 w_1 (eX.At (gt ((ai.bc t_0).l) n2))).bind fun r3=>
 (qK t_0 w_1 (eX.At (gt ((ai.bc t_0).l) n2))).bind fun r4=>
 (eQ (Sl.mk [(-1)]) (ai.ah t_0)).bind fun s5=>
 (aP (mo t_0 w_1 r3 r4 s5) (0,s5)).bind fun s22=>
 (cC h_2 ((ai.bc t_0).l).length).bind fun n23=>
 (cC (eX.At (gt ((ai.bc t_0).l) n2)) s22.l.length).bind fun n24=>
 some ((Sl.mk (s22.l.set n24 (eX.fB (gt ((ai.bc t_0).l) n23)))),0)))
def Wx:iz:=⟨[(false,.x y1),(false,.x (.sl (.f .f64))),(false,.x (.i .i64))],[([.x (.sl (.i .i64)),.x (.i .i64)],[])],false,[],fun p=>match p with|(t_0,w_1,h_2)=>sn t_0 w_1 h_2⟩
theorem XT:bw prog 103 Wx:=bh mixed bR (bM:=bM) (np:=3) (an:=[(20,{j:=some {vs:=[(11,.so 0),(50,.x (.i .i64))],os:=[.ar (.i .i64)],kl:=[10000003]},e:=[(.exit 1,{vs:=[(11,.so 0)],os:=[.ar (.i .i64)],kl:=[10000003]})]}),(29,{j:=some {vs:=[(11,.so 0),(59,.x (.i .i64))],os:=[.ar (.i .i64)],kl:=[10000004]},e:=[(.exit 3,{vs:=[(11,.so 0)],os:=[.ar (.i .i64)],kl:=[10000004]})]})]) (.cons SF (.cons UA (.cons XU (.cons XR (.cons Uz .nil))))) (by kernel_rfl) (by kernel_rfl)
def kD(r8:Sl Int):(Int×Sl (Sl Int))->Option ((Int×Sl (Sl Int))⊕(Sl (Sl Int))):=fun(i14,s15)=>
 bif decide (i14<(r8.l.length:Int))then((cC i14 r8.l.length).bind fun n16=>
 (cC i14 s15.l.length).bind fun n17=>
 (kc (((gt s15.l n17).l)++[gt r8.l n16])).bind fun l18=>
 (cC i14 s15.l.length).bind fun n19=>
 bif Nat.beq n17 n19 then(some (.inl (wr .i64 (i14+1),(Sl.mk (s15.l.set n19 (Sl.mk l18))))))else(none))else
 (some (.inr s15))
def gE(t_0:ai)(w_1:Sl Nat):(Int×Sl (Sl Int))->Option ((Int×Sl (Sl Int))⊕(Int⊕(Sl (Sl Int)))):=fun(i6,s7)=>
 bif decide (i6<(((ai.bc t_0).l).length:Int))then((sn t_0 w_1 i6).bind fun(r8,r9)=>
 (dL r8 (-1)).bind fun r10=>
 bif r10 then(some (.inr (.inl 7)))else
 ((aP (kD r8) (0,s7)).bind fun s20=>
 some (.inl (wr .i64 (i6+1),s20))))else
 (some (.inr (.inr s7)))
def kj(t_0:ai)(w_1:Sl Nat):Option (Sl (Sl Int)×Int):=
 (lf t_0 w_1).bind fun r1=>
 bif(!r1)then(some (Sl.nil,2))else
 ((D2 (Sl.nil:Sl Int) (ai.ah t_0) (ai.ah t_0)).bind fun l2=>
 (aP (gE t_0 w_1) (0,(Sl.mk l2))).bind fun
 |.inl i21=>(some (Sl.nil,i21))
 |.inr s22=>(some (s22,0)))
def Ww:iz:=⟨[(false,.x y1),(false,.x (.sl (.f .f64)))],[([.x (.sl (.sl (.i .i64))),.x (.i .i64)],[])],false,[],fun p=>match p with|(t_0,w_1)=>kj t_0 w_1⟩
theorem XS:bw prog 52 Ww:=bh mixed bR (bM:=Xn) (np:=2) (an:=[(12,{j:=some {vs:=[(6,.sr 0),(22,.x (.i .i64))],os:=[.rw (.i .i64)],kl:=[2]},e:=[(.ret,{vs:=[(4,.nl 0),(5,.x (.i .i64))],kl:=[2]}),(.exit 0,{vs:=[(6,.sr 0)],os:=[.rw (.i .i64)],kl:=[2]})]}),(28,{j:=some {vs:=[(6,.sr 0),(36,.x (.i .i64))],os:=[.rw (.i .i64)],kl:=[3]},e:=[(.exit 2,{vs:=[(6,.sr 0)],os:=[.rw (.i .i64)],kl:=[3]})]})]) (.cons SF (.cons XT (.cons SG .nil))) (by kernel_rfl) (by kernel_rfl)
def gT(c_0:aA):(Int×Sl (Sl (Sl Int)))->Option ((Int×Sl (Sl (Sl Int)))⊕(Int⊕(Sl (Sl (Sl Int))))):=fun(i16,s17)=>
 bif decide (i16<(((aA.cT c_0).l).length:Int))then((cC i16 ((aA.cT c_0).l).length).bind fun n18=>
 (wi (gt ((aA.cT c_0).l) n18)).bind fun r19=>
 (kj (aA.T c_0) r19).bind fun(r20,r21)=>
 bif(r21 !=0)then(some (.inr (.inl 2)))else
 ((kc (s17.l++[r20])).bind fun l22=>
 some (.inl (wr .i64 (i16+1),(Sl.mk l22)))))else
 (some (.inr (.inr s17)))
def oG(c_0:aA):Option (Sl (Sl (Sl Int))×Int):=
 ((mT (aA.T c_0)).bind fun r1=>
 bif r1 then((oq (aA.T c_0)).bind fun r2=>
 some (((r2&&(decide ((((aA.cT c_0).l).length:Int)>=1)))&&(decide ((((aA.cT c_0).l).length:Int)<=16)))&&((((aA.gP c_0).l).length:Int)==(ai.ah (aA.T c_0)))))else
 (some false):Option Bool).bind fun b3=>
 (bif b3 then((rB (aA.Gw c_0) 0 500).bind fun r4=>
 bif r4 then((rB (aA.LJ c_0) (((ai.bc (aA.T c_0)).l).length:Int) 64).bind fun r5=>
 bif r5 then((rB (aA.It c_0) 0 65536).bind fun r6=>
 bif r6 then((rB (aA.LK c_0) 0 65536).bind fun r7=>
 bif r7 then((rB (aA.yr c_0) 0 65536).bind fun r8=>
 bif r8 then((rB (aA.CI c_0) 1 65536).bind fun r9=>
 some r9)else
 (some false))else
 (some false))else
 (some false))else
 (some false))else
 (some false))else
 (some false):Option Bool).bind fun b10=>
 (bif(!b10)then(some true)else
 ((dl (aA.gP c_0)).bind fun r11=>
 some r11):Option Bool).bind fun b12=>
 bif b12 then(some (Sl.nil,2))else
 ((aP (gT c_0) (0,Sl.nil)).bind fun
 |.inl i23=>(some (Sl.nil,i23))
 |.inr s24=>(some (s24,0)))
def Wv:iz:=⟨[(false,.x y0)],[([.x (.sl (.sl (.sl (.i .i64)))),.x (.i .i64)],[])],false,[],fun p=>match p with|c_0=>oG c_0⟩
theorem XQ:bw prog 22 Wv:=bh mixed bR (bM:=bM) (np:=1) (an:=[(3,{j:=some {vs:=[(4,.x .b)]}}),(5,{j:=some {vs:=[(4,.x .b)]}}),(8,{j:=some {vs:=[(80,.x .b)]}}),(16,{j:=some {vs:=[(5,.so 0),(84,.x (.i .i64))],os:=[.ar (.sl (.sl (.i .i64)))]},e:=[(.ret,{vs:=[(2,.nl 0),(3,.x (.i .i64))]}),(.exit 0,{vs:=[(5,.so 0)],os:=[.ar (.sl (.sl (.i .i64)))]})]})]) (.cons Y4 (.cons Yk (.cons UH (.cons Yh (.cons Yf (.cons XS .nil)))))) (by kernel_rfl) (by kernel_rfl)
def mu(t_0:ai)(sw_1:Int)(p_2:Int):(Int×Int)->Option ((Int×Int)⊕Int):=fun(i3,i4)=>
 bif decide (i4<(((ai.aE t_0).l).length:Int))then(((cC i4 ((ai.aE t_0).l).length).bind fun n5=>
 (bif(((aS.A (gt ((ai.aE t_0).l) n5))==sw_1)&&((aS.iB (gt ((ai.aE t_0).l) n5))==p_2))then(some (wr .i64 (i3+1)))else
 (some i3):Option Int).bind fun i6=>
 bif(((aS.B (gt ((ai.aE t_0).l) n5))==sw_1)&&((aS.iA (gt ((ai.aE t_0).l) n5))==p_2))then(some (wr .i64 (i6+1)))else
 (some i6):Option Int).bind fun i7=>
 some (.inl (i7,wr .i64 (i4+1))))else
 (some (.inr i3))
def mr(t_0:ai)(sw_1:Int)(p_2:Int):(Int×Int)->Option ((Int×Int)⊕Int):=fun(i11,i12)=>
 bif decide (i12<(((ai.bc t_0).l).length:Int))then((((cC i12 ((ai.bc t_0).l).length).bind fun n13=>
 bif((eX.At (gt ((ai.bc t_0).l) n13))==sw_1)then((cC i12 ((ai.bc t_0).l).length).bind fun n14=>
 some ((eX.fB (gt ((ai.bc t_0).l) n14))==p_2))else
 (some false):Option Bool).bind fun b15=>
 bif b15 then(some (wr .i64 (i11+1)))else
 (some i11):Option Int).bind fun i16=>
 some (.inl (i16,wr .i64 (i12+1))))else
 (some (.inr i11))
def oz(t_0:ai)(sw_1:Int)(p_2:Int):Option Bool:=
 (aP (mu t_0 sw_1 p_2) (0,0)).bind fun i8=>
 (aP (mr t_0 sw_1 p_2) (i8,0)).bind fun i17=>
 some (((((decide (sw_1>=0))&&(decide (sw_1<(ai.ah t_0))))&&(decide (p_2>=0)))&&(decide (p_2<=7)))&&(i17==1))
def Wu:iz:=⟨[(false,.x y1),(false,.x (.i .i64)),(false,.x (.i .i64))],[([.x .b],[])],true,[],fun p=>match p with|(t_0,sw_1,p_2)=>oz t_0 sw_1 p_2⟩
theorem XP:bw prog 105 Wu:=bh mixed bR (bM:=bM) (np:=3) (an:=[(7,{j:=some {vs:=[(7,.x (.i .i64)),(8,.x (.i .i64))]},e:=[(.exit 0,{vs:=[(7,.x (.i .i64))]})]}),(11,{e:=[(.normal,{vs:=[(7,.x (.i .i64))]})]}),(14,{e:=[(.normal,{vs:=[(7,.x (.i .i64))]})]}),(25,{j:=some {vs:=[(7,.x (.i .i64)),(10,.x (.i .i64))]},e:=[(.exit 2,{vs:=[(7,.x (.i .i64))]})]}),(29,{e:=[(.normal,{vs:=[(7,.x (.i .i64))]})]}),(31,{j:=some {vs:=[(71,.x .b)]}})]) .nil (by kernel_rfl) (by kernel_rfl)
def nH(t_0:ai):Int->Option (Int⊕(Bool⊕Unit)):=fun i2=>
 bif decide (i2<(((ai.aE t_0).l).length:Int))then((cC i2 ((ai.aE t_0).l).length).bind fun n3=>
 (bif(((((aS.A (gt ((ai.aE t_0).l) n3))==(aS.B (gt ((ai.aE t_0).l) n3)))||(decide ((aS.pz (gt ((ai.aE t_0).l) n3))<1)))||(decide ((aS.pz (gt ((ai.aE t_0).l) n3))>(aS.vj (gt ((ai.aE t_0).l) n3)))))||(decide ((aS.vj (gt ((ai.aE t_0).l) n3))>1000)))then(some true)else
 ((oz t_0 (aS.A (gt ((ai.aE t_0).l) n3)) (aS.iB (gt ((ai.aE t_0).l) n3))).bind fun r4=>
 bif(!r4)then(some true)else
 ((oz t_0 (aS.B (gt ((ai.aE t_0).l) n3)) (aS.iA (gt ((ai.aE t_0).l) n3))).bind fun r5=>
 some (!r5))):Option Bool).bind fun b6=>
 bif b6 then(some (.inr (.inl false)))else
 (some (.inl (wr .i64 (i2+1)))))else
 (some (.inr (.inr ())))
def nG(t_0:ai):Int->Option (Int⊕(Bool⊕Unit)):=fun i9=>
 bif decide (i9<(((ai.bc t_0).l).length:Int))then((cC i9 ((ai.bc t_0).l).length).bind fun n10=>
 (cC i9 ((ai.bc t_0).l).length).bind fun n11=>
 (oz t_0 (eX.At (gt ((ai.bc t_0).l) n10)) (eX.fB (gt ((ai.bc t_0).l) n11))).bind fun r12=>
 bif(!r12)then(some (.inr (.inl false)))else
 (some (.inl (wr .i64 (i9+1)))))else
 (some (.inr (.inr ())))
def lG(t_0:ai):Option Bool:=
 bif((((decide ((ai.ah t_0)<1))||(decide ((ai.ah t_0)>8)))||(decide ((((ai.aE t_0).l).length:Int)>24)))||(decide ((((ai.bc t_0).l).length:Int)>8)))then(some false)else
 ((aP (nH t_0) 0).bind fun
 |.inl b7=>(some b7)
 |.inr _=>((aP (nG t_0) 0).bind fun
 |.inl b13=>(some b13)
 |.inr _=>(some true)))
def Wt:iz:=⟨[(false,.x y1)],[([.x .b],[])],true,[],fun p=>match p with|t_0=>lG t_0⟩
theorem Uy:bw prog 54 Wt:=bh mixed bR (bM:=bM) (np:=1) (an:=[(10,{j:=some {vs:=[(3,.x (.i .i64))]},e:=[(.ret,{vs:=[(2,.x .b)]}),(.exit 0,{})]}),(18,{j:=some {vs:=[(77,.x .b)]}}),(25,{j:=some {vs:=[(5,.x (.i .i64))]},e:=[(.ret,{vs:=[(2,.x .b)]}),(.exit 2,{})]})]) (.cons XP .nil) (by kernel_rfl) (by kernel_rfl)
def kK(t_0:ai)(sw_1:Int):(Int×Sl Int)->Option ((Int×Sl Int)⊕(Sl Int)):=fun(i4,s5)=>
 bif decide (i4<(ai.ah t_0))then((bif(i4==sw_1)then((kc (s5.l++[0])).bind fun l6=>
 some (Sl.mk l6))else
 ((kc (s5.l++[(-1)])).bind fun l7=>
 some (Sl.mk l7)):Option (Sl Int)).bind fun s8=>
 some (.inl (wr .i64 (i4+1),s8)))else
 (some (.inr s5))
def mA(t_0:ai)(i13:Int):(Int×Sl Int)->Option ((Int×Sl Int)⊕(Sl Int)):=fun(i18,s19)=>
 bif decide (i18<(((ai.aE t_0).l).length:Int))then(((cC i18 ((ai.aE t_0).l).length).bind fun n20=>
 (cC i18 ((ai.aE t_0).l).length).bind fun n21=>
 (((cC (aS.A (gt ((ai.aE t_0).l) n20)) s19.l.length).bind fun n22=>
 bif((gt s19.l n22)==i13)then((cC (aS.B (gt ((ai.aE t_0).l) n21)) s19.l.length).bind fun n23=>
 some ((gt s19.l n23)==(-1)))else
 (some false):Option Bool).bind fun b24=>
 bif b24 then((cC (aS.B (gt ((ai.aE t_0).l) n21)) s19.l.length).bind fun n25=>
 some (Sl.mk (s19.l.set n25 (wr .i64 (i13+1)))))else
 (some s19):Option (Sl Int)).bind fun s26=>
 ((cC (aS.B (gt ((ai.aE t_0).l) n21)) s26.l.length).bind fun n27=>
 bif((gt s26.l n27)==i13)then((cC (aS.A (gt ((ai.aE t_0).l) n20)) s26.l.length).bind fun n28=>
 some ((gt s26.l n28)==(-1)))else
 (some false):Option Bool).bind fun b29=>
 bif b29 then((cC (aS.A (gt ((ai.aE t_0).l) n20)) s26.l.length).bind fun n30=>
 some (Sl.mk (s26.l.set n30 (wr .i64 (i13+1)))))else
 (some s26):Option (Sl Int)).bind fun s31=>
 some (.inl (wr .i64 (i18+1),s31)))else
 (some (.inr s19))
def mz(t_0:ai):(Int×Sl Int)->Option ((Int×Sl Int)⊕(Sl Int)):=fun(i13,s14)=>
 bif decide (i13<(ai.ah t_0))then((aP (mA t_0 i13) (0,s14)).bind fun s32=>
 some (.inl (wr .i64 (i13+1),s32)))else
 (some (.inr s14))
def sI(t_0:ai)(sw_1:Int):Option (Sl Int):=
 (aP (kK t_0 sw_1) (0,Sl.nil)).bind fun s9=>
 (aP (mz t_0) (0,s9)).bind fun s33=>
 some s33
def Ws:iz:=⟨[(false,.x y1),(false,.x (.i .i64))],[([.x (.sl (.i .i64))],[])],false,[],fun p=>match p with|(t_0,sw_1)=>sI t_0 sw_1⟩
theorem XO:bw prog 106 Ws:=bh mixed bR (bM:=bM) (np:=2) (an:=[(7,{j:=some {vs:=[(5,.so 0),(6,.x (.i .i64))],os:=[.ar (.i .i64)]},e:=[(.exit 0,{vs:=[(5,.so 0)],os:=[.ar (.i .i64)]})]}),(11,{e:=[(.normal,{vs:=[(5,.so 0)],os:=[.ar (.i .i64)],kl:=[1]})]}),(20,{j:=some {vs:=[(5,.so 0),(7,.x (.i .i64))],os:=[.ar (.i .i64)],kl:=[1]},e:=[(.exit 2,{vs:=[(5,.so 0)],os:=[.ar (.i .i64)],kl:=[1]})]}),(27,{j:=some {vs:=[(5,.so 0),(8,.x (.i .i64))],os:=[.ar (.i .i64)],kl:=[2]},e:=[(.exit 4,{vs:=[(5,.so 0)],os:=[.ar (.i .i64)],kl:=[2]})]}),(31,{e:=[(.normal,{vs:=[(5,.so 0)],os:=[.ar (.i .i64)],kl:=[3]})]}),(34,{e:=[(.normal,{vs:=[(5,.so 0)],os:=[.ar (.i .i64)],kl:=[3]})]}),(36,{j:=some {vs:=[(63,.x .b)]}}),(39,{j:=some {vs:=[(81,.x .b)]}})]) .nil (by kernel_rfl) (by kernel_rfl)
def nD(r1:Sl Int):Int->Option (Int⊕(Bool⊕Unit)):=fun i3=>
 bif decide (i3<(r1.l.length:Int))then((cC i3 r1.l.length).bind fun n4=>
 bif decide ((gt r1.l n4)<0)then(some (.inr (.inl false)))else
 (some (.inl (wr .i64 (i3+1)))))else
 (some (.inr (.inr ())))
def oV(t_0:ai):Option Bool:=
 (sI t_0 0).bind fun r1=>
 (aP (nD r1) 0).bind fun
 |.inl b5=>(some b5)
 |.inr _=>(some true)
def Wr:iz:=⟨[(false,.x y1)],[([.x .b],[])],true,[],fun p=>match p with|t_0=>oV t_0⟩
theorem XN:bw prog 55 Wr:=bh mixed bR (bM:=bM) (np:=1) (an:=[(7,{j:=some {vs:=[(4,.x (.i .i64))]},e:=[(.ret,{vs:=[(2,.x .b)]}),(.exit 0,{})]})]) (.cons XO .nil) (by kernel_rfl) (by kernel_rfl)
def sJ(n_0:Int):Option Bool:=some ((decide (n_0<=9218868437227405312))||(n_0==9223372036854775808))
def Wq:iz:=⟨[(false,.x (.i .u64))],[([.x .b],[])],true,[],fun p=>match p with|n_0=>sJ n_0⟩
theorem XM:bw prog 228 Wq:=bh mixed bR (bM:=bM) (np:=1) (an:=[]) .nil (by kernel_rfl) (by kernel_rfl)
def nE(w_0:Sl Int):Int->Option (Int⊕(Bool⊕Unit)):=fun i2=>
 bif decide (i2<(w_0.l.length:Int))then((cC i2 w_0.l.length).bind fun n3=>
 (sJ (gt w_0.l n3)).bind fun r4=>
 bif(!r4)then(some (.inr (.inl false)))else
 (some (.inl (wr .i64 (i2+1)))))else
 (some (.inr (.inr ())))
def tV(w_0:Sl Int)(links_1:Int):Option Bool:=
 (aP (nE w_0) 0).bind fun
 |.inl b5=>(some b5)
 |.inr _=>(some ((w_0.l.length:Int)==links_1))
def Wp:iz:=⟨[(false,.x (.sl (.i .u64))),(false,.x (.i .i64))],[([.x .b],[])],true,[],fun p=>match p with|(w_0,links_1)=>tV w_0 links_1⟩
theorem XL:bw prog 167 Wp:=bh mixed bR (bM:=bM) (np:=2) (an:=[(5,{j:=some {vs:=[(5,.x (.i .i64))]},e:=[(.ret,{vs:=[(4,.x .b)]}),(.exit 0,{})]})]) (.cons XM .nil) (by kernel_rfl) (by kernel_rfl)
def lw(t_0:ai)(w_1:Sl Int):Option Bool:=
 ((lG t_0).bind fun r1=>
 bif r1 then((tV w_1 (((ai.aE t_0).l).length:Int)).bind fun r2=>
 some r2)else
 (some false):Option Bool).bind fun b3=>
 some b3
def Wo:iz:=⟨[(false,.x y1),(false,.x (.sl (.i .u64)))],[([.x .b],[])],true,[],fun p=>match p with|(t_0,w_1)=>lw t_0 w_1⟩
theorem SD:bw prog 107 Wo:=bh mixed bR (bM:=bM) (np:=2) (an:=[(3,{j:=some {vs:=[(4,.x .b)]}})]) (.cons Uy (.cons XL .nil)) (by kernel_rfl) (by kernel_rfl)
def oN(t_0:ai)(sw_1:Int)(p_2:Int):Int->Option (Int⊕((Int×Int×Int×Bool)⊕Unit)):=fun i2=>
 bif decide (i2<(((ai.aE t_0).l).length:Int))then((cC i2 ((ai.aE t_0).l).length).bind fun n3=>
 bif(((aS.A (gt ((ai.aE t_0).l) n3))==sw_1)&&((aS.iB (gt ((ai.aE t_0).l) n3))==p_2))then(some (.inr (.inl (aS.B (gt ((ai.aE t_0).l) n3),aS.iA (gt ((ai.aE t_0).l) n3),i2,true))))else
 (bif(((aS.B (gt ((ai.aE t_0).l) n3))==sw_1)&&((aS.iA (gt ((ai.aE t_0).l) n3))==p_2))then(some (.inr (.inl (aS.A (gt ((ai.aE t_0).l) n3),aS.iB (gt ((ai.aE t_0).l) n3),i2,true))))else
 (some (.inl (wr .i64 (i2+1))))))else
 (some (.inr (.inr ())))
def sH(t_0:ai)(sw_1:Int)(p_2:Int):Option (Int×Int×Int×Bool):=
 (aP (oN t_0 sw_1 p_2) 0).bind fun
 |.inl (i4,i5,i6,b7)=>(some (i4,i5,i6,b7))
 |.inr _=>(some (0,0,0,false))
def Wn:iz:=⟨[(false,.x y1),(false,.x (.i .i64)),(false,.x (.i .i64))],[([.x (.i .i64),.x (.i .i64),.x (.i .i64),.x .b],[])],true,[],fun p=>match p with|(t_0,sw_1,p_2)=>sH t_0 sw_1 p_2⟩
theorem XK:bw prog 230 Wn:=bh mixed bR (bM:=bM) (np:=3) (an:=[(5,{j:=some {vs:=[(10,.x (.i .i64))]},e:=[(.ret,{vs:=[(6,.x (.i .i64)),(7,.x (.i .i64)),(8,.x (.i .i64)),(9,.x .b)]}),(.exit 0,{})]})]) .nil (by kernel_rfl) (by kernel_rfl)
def mw(t_0:ai)(sw_1:Int):(Int×Sl bJ)->Option ((Int×Sl bJ)⊕(Sl bJ)):=fun(i4,s5)=>
 bif decide (i4<8)then(((sH t_0 sw_1 i4).bind fun(r6,r7,r8,r9)=>
 bif r9 then((kc (s5.l++[(⟨i4,r6,r8⟩:bJ)])).bind fun l10=>
 some (Sl.mk l10))else
 (some s5):Option (Sl bJ)).bind fun s11=>
 some (.inl (wr .i64 (i4+1),s11)))else
 (some (.inr s5))
def oA(t_0:ai)(sw_1:Int):Option (Sl bJ):=
 (aP (mw t_0 sw_1) (0,Sl.nil)).bind fun s12=>
 some s12
def Wm:iz:=⟨[(false,.x y1),(false,.x (.i .i64))],[([.x (.sl y9)],[])],false,[],fun p=>match p with|(t_0,sw_1)=>oA t_0 sw_1⟩
theorem SC:bw prog 170 Wm:=bh mixed bR (bM:=bM) (np:=2) (an:=[(7,{j:=some {vs:=[(5,.so 0),(6,.x (.i .i64))],os:=[.ar y9]},e:=[(.exit 0,{vs:=[(5,.so 0)],os:=[.ar y9]})]}),(11,{e:=[(.normal,{vs:=[(5,.so 0)],os:=[.ar y9],kl:=[1]})]})]) (.cons XK .nil) (by kernel_rfl) (by kernel_rfl)
def oW(n_0:Int):Option Int:=
 bif decide ((n_0.tmod 9223372036854775808)>9218868437227405312)then(some 9221120237041090561)else
 (some n_0)
def Wl:iz:=⟨[(false,.x (.i .u64))],[([.x (.i .u64)],[])],true,[],fun p=>match p with|n_0=>oW n_0⟩
theorem Ux:bw prog 267 Wl:=bh mixed bR (bM:=bM) (np:=1) (an:=[]) .nil (by kernel_rfl) (by kernel_rfl)
def qd(a_0:Int)(b_1:Int):Option Int:=
 (qV a_0).bind fun r1=>
 (qV b_1).bind fun r2=>
 (pN (yg .f64 r1 r2)).bind fun r3=>
 (oW r3).bind fun r4=>
 bif(r4==9223372036854775808)then(some 0)else
 (some r4)
def Wk:iz:=⟨[(false,.x (.i .u64)),(false,.x (.i .u64))],[([.x (.i .u64)],[])],true,[],fun p=>match p with|(a_0,b_1)=>qd a_0 b_1⟩
theorem Uw:bw prog 229 Wk:=bh mixed bR (bM:=bM) (np:=2) (an:=[]) (.cons MZ (.cons SE (.cons Ux .nil))) (by kernel_rfl) (by kernel_rfl)
def lE(t_0:ai):(Int×Sl Int)->Option ((Int×Sl Int)⊕(Sl Int)):=fun(i5,s6)=>
 bif decide (i5<(ai.ah t_0))then((kc (s6.l++[9218868437227405312])).bind fun l7=>
 some (.inl (wr .i64 (i5+1),(Sl.mk l7))))else
 (some (.inr s6))
def lC(w_1:Sl Int)(s13:Sl Int)(r20:Sl bJ):(Int×Int)->Option ((Int×Int)⊕Int):=fun(i23,i24)=>
 bif decide (i24<(r20.l.length:Int))then(((cC i24 r20.l.length).bind fun n25=>
 (cC (bJ.hZ (gt r20.l n25)) w_1.l.length).bind fun n26=>
 (cC i24 r20.l.length).bind fun n27=>
 (cC (bJ.To (gt r20.l n27)) s13.l.length).bind fun n28=>
 (qd (gt w_1.l n26) (gt s13.l n28)).bind fun r29=>
 bif decide (r29<i23)then(some r29)else
 (some i23):Option Int).bind fun i30=>
 some (.inl (i30,wr .i64 (i24+1))))else
 (some (.inr i23))
def ly(t_0:ai)(w_1:Sl Int)(s13:Sl Int):(Int×Sl Int)->Option ((Int×Sl Int)⊕(Sl Int)):=fun(i17,s18)=>
 bif decide (i17<(ai.ah t_0))then((cC i17 s13.l.length).bind fun n19=>
 (oA t_0 i17).bind fun r20=>
 (aP (lC w_1 s13 r20) (gt s13.l n19,0)).bind fun i31=>
 (kc (s18.l++[i31])).bind fun l32=>
 some (.inl (wr .i64 (i17+1),(Sl.mk l32))))else
 (some (.inr s18))
def lx(t_0:ai)(w_1:Sl Int):(Int×Sl Int)->Option ((Int×Sl Int)⊕(Sl Int)):=fun(i12,s13)=>
 bif decide (i12<(ai.ah t_0))then((aP (ly t_0 w_1 s13) (0,Sl.nil)).bind fun s33=>
 some (.inl (wr .i64 (i12+1),s33)))else
 (some (.inr s13))
def lF(t_0:ai)(w_1:Sl Int)(sw_2:Int):Option (Sl Int):=
 (lw t_0 w_1).bind fun r1=>
 bif(((!r1)||(decide (sw_2<0)))||(decide (sw_2>=(ai.ah t_0))))then(some Sl.nil)else
 ((aP (lE t_0) (0,Sl.nil)).bind fun s8=>
 (cC sw_2 s8.l.length).bind fun n9=>
 (aP (lx t_0 w_1) (0,(Sl.mk (s8.l.set n9 0)))).bind fun s34=>
 some s34)
def Wj:iz:=⟨[(false,.x y1),(false,.x (.sl (.i .u64))),(false,.x (.i .i64))],[([.x (.sl (.i .u64))],[])],false,[],fun p=>match p with|(t_0,w_1,sw_2)=>lF t_0 w_1 sw_2⟩
theorem Uv:bw prog 168 Wj:=bh mixed bR (bM:=bM) (np:=3) (an:=[(12,{j:=some {vs:=[(7,.so 0),(8,.x (.i .i64))],os:=[.ar (.i .u64)]},e:=[(.exit 0,{vs:=[(7,.so 0)],os:=[.ar (.i .u64)]})]}),(24,{j:=some {vs:=[(7,.so 0),(9,.x (.i .i64))],os:=[.ar (.i .u64)],kl:=[2]},e:=[(.exit 2,{vs:=[(7,.so 0)],os:=[.ar (.i .u64)],kl:=[2]})]}),(34,{j:=some {vs:=[(10,.so 0),(11,.x (.i .i64))],os:=[.ar (.i .u64)]},e:=[(.exit 4,{vs:=[(10,.so 0)],os:=[.ar (.i .u64)]})]}),(46,{j:=some {vs:=[(12,.x (.i .u64)),(14,.x (.i .i64))]},e:=[(.exit 6,{vs:=[(12,.x (.i .u64))]})]}),(50,{e:=[(.normal,{vs:=[(12,.x (.i .u64))]})]})]) (.cons SD (.cons SC (.cons Uw .nil))) (by kernel_rfl) (by kernel_rfl)
def qO(n_0:Int):Option Int:=
 (oW n_0).bind fun r1=>
 bif(r1==9221120237041090561)then(some 0)else
 (bif(r1==18442240474082181120)then(some 1)else
 (bif decide (r1>9223372036854775808)then(some 2)else
 (bif(r1==9223372036854775808)then(some 3)else
 (bif(r1==0)then(some 4)else
 (bif decide (r1<9218868437227405312)then(some 5)else
 (some 6))))))
def Wi:iz:=⟨[(false,.x (.i .u64))],[([.x (.i .i64)],[])],true,[],fun p=>match p with|n_0=>qO n_0⟩
theorem XJ:bw prog 269 Wi:=bh mixed bR (bM:=bM) (np:=1) (an:=[]) (.cons Ux .nil) (by kernel_rfl) (by kernel_rfl)
def wC(w_0:Sl Int)(link_1:Int):Option Bool:=
 bif((decide (link_1<0))||(decide (link_1>=(w_0.l.length:Int))))then(some false)else
 ((cC link_1 w_0.l.length).bind fun n1=>
 (qO (gt w_0.l n1)).bind fun r2=>
 some ((decide (r2>0))&&(decide (r2<6))))
def Wh:iz:=⟨[(false,.x (.sl (.i .u64))),(false,.x (.i .i64))],[([.x .b],[])],true,[],fun p=>match p with|(w_0,link_1)=>wC w_0 link_1⟩
theorem XI:bw prog 231 Wh:=bh mixed bR (bM:=bM) (np:=2) (an:=[]) (.cons XJ .nil) (by kernel_rfl) (by kernel_rfl)
def qc(w_0:Sl Int)(costs_1:Sl Int)(at_2:Int)(s_3:bJ):Option Bool:=
 ((cC at_2 costs_1.l.length).bind fun n1=>
 bif((gt costs_1.l n1) !=9218868437227405312)then((wC w_0 (bJ.hZ s_3)).bind fun r2=>
 bif r2 then((cC (bJ.hZ s_3) w_0.l.length).bind fun n3=>
 (cC (bJ.To s_3) costs_1.l.length).bind fun n4=>
 (qd (gt w_0.l n3) (gt costs_1.l n4)).bind fun r5=>
 (cC at_2 costs_1.l.length).bind fun n6=>
 some (r5==(gt costs_1.l n6)))else
 (some false))else
 (some false):Option Bool).bind fun b7=>
 some b7
def Wg:iz:=⟨[(false,.x (.sl (.i .u64))),(false,.x (.sl (.i .u64))),(false,.x (.i .i64)),(false,.x y9)],[([.x .b],[])],true,[],fun p=>match p with|(w_0,costs_1,at_2,s_3)=>qc w_0 costs_1 at_2 s_3⟩
theorem Uu:bw prog 171 Wg:=bh mixed bR (bM:=bM) (np:=4) (an:=[(3,{j:=some {vs:=[(8,.x .b)]}})]) (.cons XI (.cons Uw .nil)) (by kernel_rfl) (by kernel_rfl)
def lr(r1:Sl Int):(Int×Sl Int)->Option ((Int×Sl Int)⊕(Sl Int)):=fun(i5,s6)=>
 bif decide (i5<(r1.l.length:Int))then((kc (s6.l++[(-1)])).bind fun l7=>
 some (.inl (wr .i64 (i5+1),(Sl.mk l7))))else
 (some (.inr s6))
def lq(w_1:Sl Int)(r1:Sl Int)(i14:Int)(r21:Sl bJ)(i19:Int):(Int×Sl Int)->Option ((Int×Sl Int)⊕(Sl Int)):=fun(i25,s26)=>
 bif decide (i25<(r21.l.length:Int))then((((cC i19 s26.l.length).bind fun n27=>
 bif((gt s26.l n27)==(-1))then((cC i25 r21.l.length).bind fun n28=>
 (cC (bJ.To (gt r21.l n28)) s26.l.length).bind fun n29=>
 bif((gt s26.l n29)==(wr .i64 (i14-1)))then((cC i25 r21.l.length).bind fun n30=>
 (qc w_1 r1 i19 (gt r21.l n30)).bind fun r31=>
 some r31)else
 (some false))else
 (some false):Option Bool).bind fun b32=>
 bif b32 then((cC i19 s26.l.length).bind fun n33=>
 some (Sl.mk (s26.l.set n33 i14)))else
 (some s26):Option (Sl Int)).bind fun s34=>
 some (.inl (wr .i64 (i25+1),s34)))else
 (some (.inr s26))
def lp(t_0:ai)(w_1:Sl Int)(r1:Sl Int)(i14:Int):(Int×Sl Int)->Option ((Int×Sl Int)⊕(Sl Int)):=fun(i19,s20)=>
 bif decide (i19<(r1.l.length:Int))then((oA t_0 i19).bind fun r21=>
 (aP (lq w_1 r1 i14 r21 i19) (0,s20)).bind fun s35=>
 some (.inl (wr .i64 (i19+1),s35)))else
 (some (.inr s20))
def lm(t_0:ai)(w_1:Sl Int)(r1:Sl Int):(Int×Sl Int)->Option ((Int×Sl Int)⊕(Sl Int)):=fun(i14,s15)=>
 bif decide (i14<(r1.l.length:Int))then((aP (lp t_0 w_1 r1 i14) (0,s15)).bind fun s36=>
 some (.inl (wr .i64 (i14+1),s36)))else
 (some (.inr s15))
def qN(t_0:ai)(w_1:Sl Int)(sw_2:Int):Option (Sl Int):=
 (lF t_0 w_1 sw_2).bind fun r1=>
 (aP (lr r1) (0,Sl.nil)).bind fun s8=>
 (bif decide ((r1.l.length:Int)>0)then((cC sw_2 s8.l.length).bind fun n9=>
 some (Sl.mk (s8.l.set n9 0)))else
 (some s8):Option (Sl Int)).bind fun s10=>
 (aP (lm t_0 w_1 r1) (1,s10)).bind fun s37=>
 some s37
def Wf:iz:=⟨[(false,.x y1),(false,.x (.sl (.i .u64))),(false,.x (.i .i64))],[([.x (.sl (.i .i64))],[])],false,[],fun p=>match p with|(t_0,w_1,sw_2)=>qN t_0 w_1 sw_2⟩
theorem XH:bw prog 169 Wf:=bh mixed bR (bM:=bM) (np:=3) (an:=[(9,{j:=some {vs:=[(8,.so 0),(9,.x (.i .i64))],os:=[.ar (.i .i64)]},e:=[(.exit 0,{vs:=[(8,.so 0)],os:=[.ar (.i .i64)]})]}),(16,{e:=[(.normal,{vs:=[(8,.so 0)],os:=[.ar (.i .i64)],kl:=[2]})]}),(23,{j:=some {vs:=[(8,.so 0),(10,.x (.i .i64))],os:=[.ar (.i .i64)],kl:=[3]},e:=[(.exit 2,{vs:=[(8,.so 0)],os:=[.ar (.i .i64)],kl:=[3]})]}),(30,{j:=some {vs:=[(8,.so 0),(11,.x (.i .i64))],os:=[.ar (.i .i64)],kl:=[4]},e:=[(.exit 4,{vs:=[(8,.so 0)],os:=[.ar (.i .i64)],kl:=[4]})]}),(39,{j:=some {vs:=[(8,.so 0),(13,.x (.i .i64))],os:=[.ar (.i .i64)],kl:=[5]},e:=[(.exit 6,{vs:=[(8,.so 0)],os:=[.ar (.i .i64)],kl:=[5]})]}),(43,{e:=[(.normal,{vs:=[(8,.so 0)],os:=[.ar (.i .i64)],kl:=[7]})]}),(45,{j:=some {vs:=[(81,.x .b)]}})]) (.cons Uv (.cons SC (.cons Uu .nil))) (by kernel_rfl) (by kernel_rfl)
def mq(w_1:Sl Int)(r3:Sl Int)(r4:Sl Int)(i8:Int)(r10:Sl bJ):(Int×Int)->Option ((Int×Int)⊕Int):=fun(i13,i14)=>
 bif decide (i14>=0)then((((cC i14 r10.l.length).bind fun n15=>
 (qc w_1 r3 i8 (gt r10.l n15)).bind fun r16=>
 bif r16 then((cC i14 r10.l.length).bind fun n17=>
 (cC (bJ.To (gt r10.l n17)) r4.l.length).bind fun n18=>
 (cC i8 r4.l.length).bind fun n19=>
 some ((wr .i64 ((gt r4.l n18)+1))==(gt r4.l n19)))else
 (some false):Option Bool).bind fun b20=>
 bif b20 then((cC i14 r10.l.length).bind fun n21=>
 some (bJ.fB (gt r10.l n21)))else
 (some i13):Option Int).bind fun i22=>
 some (.inl (i22,wr .i64 (i14-1))))else
 (some (.inr i13))
def oM(t_0:ai)(w_1:Sl Int)(h_2:Int)(n2:Nat)(r3:Sl Int)(r4:Sl Int):(Int×Sl Int)->Option ((Int×Sl Int)⊕(Sl Int)):=fun(i8,s9)=>
 bif decide (i8<(ai.ah t_0))then((oA t_0 i8).bind fun r10=>
 (aP (mq w_1 r3 r4 i8 r10) ((-1),wr .i64 ((r10.l.length:Int)-1))).bind fun i23=>
 (bif(i8==(eX.At (gt ((ai.bc t_0).l) n2)))then((cC h_2 ((ai.bc t_0).l).length).bind fun n24=>
 some (eX.fB (gt ((ai.bc t_0).l) n24)))else
 (some i23):Option Int).bind fun i25=>
 (kc (s9.l++[i25])).bind fun l26=>
 some (.inl (wr .i64 (i8+1),(Sl.mk l26))))else
 (some (.inr s9))
def sG(t_0:ai)(w_1:Sl Int)(h_2:Int):Option (Sl Int×Int):=
 (lw t_0 w_1).bind fun r1=>
 bif(!r1)then(some (Sl.nil,2))else
 (bif((decide (h_2<0))||(decide (h_2>=(((ai.bc t_0).l).length:Int))))then(some (Sl.nil,7))else
 ((cC h_2 ((ai.bc t_0).l).length).bind fun n2=>
 (lF t_0 w_1 (eX.At (gt ((ai.bc t_0).l) n2))).bind fun r3=>
 (qN t_0 w_1 (eX.At (gt ((ai.bc t_0).l) n2))).bind fun r4=>
 (aP (oM t_0 w_1 h_2 n2 r3 r4) (0,Sl.nil)).bind fun s27=>
 some (s27,0)))
def We:iz:=⟨[(false,.x y1),(false,.x (.sl (.i .u64))),(false,.x (.i .i64))],[([.x (.sl (.i .i64)),.x (.i .i64)],[])],false,[],fun p=>match p with|(t_0,w_1,h_2)=>sG t_0 w_1 h_2⟩
theorem XG:bw prog 108 We:=bh mixed bR (bM:=bM) (np:=3) (an:=[(21,{j:=some {vs:=[(11,.so 0),(12,.x (.i .i64))],os:=[.ar (.i .i64)]},e:=[(.exit 0,{vs:=[(11,.so 0)],os:=[.ar (.i .i64)]})]}),(33,{j:=some {vs:=[(13,.x (.i .i64)),(15,.x (.i .i64))]},e:=[(.exit 2,{vs:=[(13,.x (.i .i64))]})]}),(37,{e:=[(.normal,{vs:=[(13,.x (.i .i64))]})]}),(39,{j:=some {vs:=[(82,.x .b)]}}),(42,{e:=[(.normal,{vs:=[(13,.x (.i .i64))]})]})]) (.cons SD (.cons Uv (.cons XH (.cons SC (.cons Uu .nil))))) (by kernel_rfl) (by kernel_rfl)
def fT(t_0:ai)(w_1:Sl Int)(i5:Int):(Int×Sl Int)->Option ((Int×Sl Int)⊕(Int⊕(Sl Int))):=fun(i10,s11)=>
 bif decide (i10<(((ai.bc t_0).l).length:Int))then((sG t_0 w_1 i10).bind fun(r12,r13)=>
 (cC i5 r12.l.length).bind fun n14=>
 bif((gt r12.l n14)==(-1))then(some (.inr (.inl 7)))else
 ((cC i5 r12.l.length).bind fun n15=>
 (kc (s11.l++[gt r12.l n15])).bind fun l16=>
 some (.inl (wr .i64 (i10+1),(Sl.mk l16)))))else
 (some (.inr (.inr s11)))
def fS(t_0:ai)(w_1:Sl Int):(Int×Sl (Sl Int))->Option ((Int×Sl (Sl Int))⊕(Int⊕(Sl (Sl Int)))):=fun(i5,s6)=>
 bif decide (i5<(ai.ah t_0))then((aP (fT t_0 w_1 i5) (0,Sl.nil)).bind fun
 |.inl i17=>(some (.inr (.inl i17)))
 |.inr s18=>((kc (s6.l++[s18])).bind fun l19=>
 some (.inl (wr .i64 (i5+1),(Sl.mk l19)))))else
 (some (.inr (.inr s6)))
def ko(t_0:ai)(w_1:Sl Int):Option (Sl (Sl Int)×Int):=
 (lw t_0 w_1).bind fun r1=>
 bif(!r1)then(some (Sl.nil,2))else
 ((aP (fS t_0 w_1) (0,Sl.nil)).bind fun
 |.inl i20=>(some (Sl.nil,i20))
 |.inr s21=>(some (s21,0)))
def Wd:iz:=⟨[(false,.x y1),(false,.x (.sl (.i .u64)))],[([.x (.sl (.sl (.i .i64))),.x (.i .i64)],[])],false,[],fun p=>match p with|(t_0,w_1)=>ko t_0 w_1⟩
theorem XF:bw prog 56 Wd:=bh mixed bR (bM:=bM) (np:=2) (an:=[(12,{j:=some {vs:=[(6,.so 0),(7,.x (.i .i64))],os:=[.ar (.sl (.i .i64))]},e:=[(.ret,{vs:=[(4,.nl 0),(5,.x (.i .i64))]}),(.exit 0,{vs:=[(6,.so 0)],os:=[.ar (.sl (.i .i64))]})]}),(22,{j:=some {vs:=[(8,.so 0),(9,.x (.i .i64))],os:=[.ar (.i .i64)]},e:=[(.ret,{vs:=[(4,.nl 0),(5,.x (.i .i64))]}),(.exit 2,{vs:=[(8,.so 0)],os:=[.ar (.i .i64)]})]})]) (.cons SD (.cons XG .nil)) (by kernel_rfl) (by kernel_rfl)
def lk(c_0:aA):Int->Option (Int⊕(Bool⊕Unit)):=fun i5=>
 bif decide (i5<(((aA.gP c_0).l).length:Int))then(((cC i5 ((aA.gP c_0).l).length).bind fun n6=>
 bif decide ((gt ((aA.gP c_0).l) n6)<(-1048576))then(some true)else
 ((cC i5 ((aA.gP c_0).l).length).bind fun n7=>
 some (decide ((gt ((aA.gP c_0).l) n7)>1048576))):Option Bool).bind fun b8=>
 bif b8 then(some (.inr (.inl false)))else
 (some (.inl (wr .i64 (i5+1)))))else
 (some (.inr (.inr ())))
def fM(c_0:aA):(Int×Sl (Sl (Sl Int)))->Option ((Int×Sl (Sl (Sl Int)))⊕(Bool⊕(Sl (Sl (Sl Int))))):=fun(i13,s14)=>
 bif decide (i13<(((aA.cT c_0).l).length:Int))then((cC i13 ((aA.cT c_0).l).length).bind fun n15=>
 (ko (aA.T c_0) (gt ((aA.cT c_0).l) n15)).bind fun(r16,r17)=>
 bif(r17 !=0)then(some (.inr (.inl false)))else
 ((kc (s14.l++[r16])).bind fun l18=>
 some (.inl (wr .i64 (i13+1),(Sl.mk l18)))))else
 (some (.inr (.inr s14)))
def ll(c_0:aA):Option (Sl (Sl (Sl Int))×Bool):=
 ((lG (aA.T c_0)).bind fun r1=>
 bif(!r1)then(some true)else
 ((oV (aA.T c_0)).bind fun r2=>
 some ((((((((!r2)||(decide ((((aA.cT c_0).l).length:Int)<1)))||(decide ((((aA.cT c_0).l).length:Int)>16)))||((((aA.gP c_0).l).length:Int) !=(ai.ah (aA.T c_0))))||(decide ((aA.Gw c_0)<0)))||(decide ((aA.Gw c_0)>500)))||(decide ((aA.LJ c_0)<(((ai.bc (aA.T c_0)).l).length:Int))))||(decide ((aA.LJ c_0)>64)))):Option Bool).bind fun b3=>
 bif b3 then(some (Sl.nil,false))else
 (bif((((((((decide ((aA.It c_0)<0))||(decide ((aA.It c_0)>65536)))||(decide ((aA.LK c_0)<0)))||(decide ((aA.LK c_0)>65536)))||(decide ((aA.yr c_0)<0)))||(decide ((aA.yr c_0)>65536)))||(decide ((aA.CI c_0)<1)))||(decide ((aA.CI c_0)>65536)))then(some (Sl.nil,false))else
 ((aP (lk c_0) 0).bind fun
 |.inl b9=>(some (Sl.nil,b9))
 |.inr _=>((aP (fM c_0) (0,Sl.nil)).bind fun
 |.inl b19=>(some (Sl.nil,b19))
 |.inr s20=>(some (s20,true)))))
def Wc:iz:=⟨[(false,.x y0)],[([.x (.sl (.sl (.sl (.i .i64)))),.x .b],[])],false,[],fun p=>match p with|c_0=>ll c_0⟩
theorem XE:bw prog 23 Wc:=bh mixed bR (bM:=bM) (np:=1) (an:=[(4,{j:=some {vs:=[(63,.x .b)]}}),(15,{j:=some {vs:=[(4,.x (.i .i64))]},e:=[(.ret,{vs:=[(2,.nl 0),(3,.x .b)]}),(.exit 0,{})]}),(21,{j:=some {vs:=[(122,.x .b)]}}),(30,{j:=some {vs:=[(5,.so 0),(6,.x (.i .i64))],os:=[.ar (.sl (.sl (.i .i64)))]},e:=[(.ret,{vs:=[(2,.nl 0),(3,.x .b)]}),(.exit 2,{vs:=[(5,.so 0)],os:=[.ar (.sl (.sl (.i .i64)))]})]})]) (.cons Uy (.cons XN (.cons XF .nil))) (by kernel_rfl) (by kernel_rfl)
def h_:Option Int:=some 6
def Wb:iz:=⟨[(false,.nl 1)],[([.x (.i .i64)],[])],true,[],fun p=>match p with|_=>h_⟩
theorem MY:bw prog 15 Wb:=bh mixed bR (bM:=bM) (np:=1) (an:=[]) .nil (by kernel_rfl) (by kernel_rfl)
def qY(now_1:Int)(up_2:Int):Option Unit:=
 (h_).bind fun r1=>
 bif(r1==6)then(some ())else
 (none)
def Wa:iz:=⟨[(true,.nl 1),(false,.x (.i .i64)),(false,.x (.i .i64))],[([],[.nl 1])],false,[true,false,false],fun p=>match p with|(now_1,up_2)=>qY now_1 up_2⟩
theorem XD:bw prog 24 Wa:=bh mixed bR (bM:=bM) (np:=3) (an:=[]) (.cons MY .nil) (by kernel_rfl) (by kernel_rfl)
def q_:Option Unit:=some ()
def V_:iz:=⟨[(true,.nl 1)],[([],[.nl 1])],false,[true],fun p=>match p with|_=>q_⟩
theorem XC:bw prog 25 V_:=bh mixed bR (bM:=bM) (np:=1) (an:=[]) .nil (by kernel_rfl) (by kernel_rfl)
def q8(now_1:Int)(up_2:Int):Option Unit:=some ()
def V9:iz:=⟨[(true,.nl 1),(false,.x (.i .i64)),(false,.x (.i .i64))],[([],[.nl 1])],false,[true,false,false],fun p=>match p with|(now_1,up_2)=>q8 now_1 up_2⟩
theorem XB:bw prog 26 V9:=bh mixed bR (bM:=bM) (np:=3) (an:=[]) .nil (by kernel_rfl) (by kernel_rfl)
def rY(now_1:Int)(m_2:fm)(up_3:Int):Option Unit:=
 (h_).bind fun r1=>
 bif(r1==6)then(some ())else
 (none)
def V8:iz:=⟨[(true,.nl 1),(false,.x (.i .i64)),(false,.x y5),(false,.x (.i .i64))],[([],[.nl 1])],false,[true,false,false,false],fun p=>match p with|(now_1,m_2,up_3)=>rY now_1 m_2 up_3⟩
theorem XA:bw prog 27 V8:=bh mixed bR (bM:=bM) (np:=4) (an:=[]) (.cons MY .nil) (by kernel_rfl) (by kernel_rfl)
def q9:Option (Sl fm×Sl oI):=some (Sl.nil,Sl.nil)
def V7:iz:=⟨[(true,.nl 1)],[([.x (.sl y5),.x (.sl y2)],[.nl 1])],false,[true],fun p=>match p with|_=>q9⟩
theorem Xz:bw prog 11 V7:=bh mixed bR (bM:=bM) (np:=1) (an:=[]) .nil (by kernel_rfl) (by kernel_rfl)
def qp(now_1:Int)(k_2:Int)(up_3:Int):Option Int:=
 (h_).bind fun r1=>
 bif(r1 !=0)then(some 16)else
 (none)
def V6:iz:=⟨[(true,.nl 1),(false,.x (.i .i64)),(false,.x (.i .i64)),(false,.x (.i .i64))],[([.x (.i .i64)],[.nl 1])],false,[true,false,false,false],fun p=>match p with|(now_1,k_2,up_3)=>qp now_1 k_2 up_3⟩
theorem Xy:bw prog 28 V6:=bh mixed bR (bM:=bM) (np:=4) (an:=[]) (.cons MY .nil) (by kernel_rfl) (by kernel_rfl)
def py:Option (Sl lL):=some Sl.nil
def V5:iz:=⟨[(false,.nl 1)],[([.x (.sl YV)],[])],false,[],fun p=>match p with|_=>py⟩
theorem Xx:bw prog 13 V5:=bh mixed bR (bM:=bM) (np:=1) (an:=[]) .nil (by kernel_rfl) (by kernel_rfl)
def o_(sw_1:Int):Option gS:=some (⟨false,(⟨0,0⟩:eX),0⟩:gS)
def V4:iz:=⟨[(false,.nl 1),(false,.x (.i .i64))],[([.x Zc],[])],true,[],fun p=>match p with|sw_1=>o_ sw_1⟩
theorem Xw:bw prog 29 V4:=bh mixed bR (bM:=bM) (np:=2) (an:=[]) .nil (by kernel_rfl) (by kernel_rfl)
def qZ:Option fN:=some (⟨0,0,false,0,0,0,false,false,0⟩:fN)
def V3:iz:=⟨[(false,.nl 1)],[([.x Zb],[])],true,[],fun p=>match p with|_=>qZ⟩
theorem Xv:bw prog 12 V3:=bh mixed bR (bM:=bM) (np:=1) (an:=[]) .nil (by kernel_rfl) (by kernel_rfl)
def rX:Option oC:=
 (h_).bind fun r1=>
 bif(r1==6)then(some (⟨Sl.nil,Sl.nil,0,0,0,0⟩:oC))else
 (none)
def V0:iz:=⟨[(false,.nl 1)],[([.x Za],[])],false,[],fun p=>match p with|_=>rX⟩
theorem Xu:bw prog 30 V0:=bh mixed bR (bM:=bM) (np:=1) (an:=[]) (.cons MY .nil) (by kernel_rfl) (by kernel_rfl)
def js(r3:Sl (Sl (Sl Int)))(r5:Sl (Sl (Sl Int)))(i9:Int)(i13:Int):Int->Option (Int⊕(Bool⊕Unit)):=fun i20=>
 (cC i9 r5.l.length).bind fun n21=>
 (cC i13 ((gt r5.l n21).l).length).bind fun n22=>
 bif decide (i20<(((gt ((gt r5.l n21).l) n22).l).length:Int))then((cC i9 r3.l.length).bind fun n23=>
 (cC i13 ((gt r3.l n23).l).length).bind fun n24=>
 (cC i20 ((gt ((gt r3.l n23).l) n24).l).length).bind fun n25=>
 (cC i9 r5.l.length).bind fun n26=>
 (cC i13 ((gt r5.l n26).l).length).bind fun n27=>
 (cC i20 ((gt ((gt r5.l n26).l) n27).l).length).bind fun n28=>
 bif((gt ((gt ((gt r3.l n23).l) n24).l) n25) !=(gt ((gt ((gt r5.l n26).l) n27).l) n28))then(some (.inr (.inl false)))else
 (some (.inl (wr .i64 (i20+1)))))else
 (some (.inr (.inr ())))
def jr(r3:Sl (Sl (Sl Int)))(r5:Sl (Sl (Sl Int)))(i9:Int):Int->Option (Int⊕(Bool⊕Unit)):=fun i13=>
 (cC i9 r5.l.length).bind fun n14=>
 bif decide (i13<(((gt r5.l n14).l).length:Int))then((cC i9 r3.l.length).bind fun n15=>
 (cC i13 ((gt r3.l n15).l).length).bind fun n16=>
 (cC i9 r5.l.length).bind fun n17=>
 (cC i13 ((gt r5.l n17).l).length).bind fun n18=>
 bif((((gt ((gt r3.l n15).l) n16).l).length:Int) !=(((gt ((gt r5.l n17).l) n18).l).length:Int))then(some (.inr (.inl false)))else
 ((aP (js r3 r5 i9 i13) 0).bind fun
 |.inl b29=>(some (.inr (.inl b29)))
 |.inr _=>(some (.inl (wr .i64 (i13+1))))))else
 (some (.inr (.inr ())))
def jq(r3:Sl (Sl (Sl Int)))(r5:Sl (Sl (Sl Int))):Int->Option (Int⊕(Bool⊕Unit)):=fun i9=>
 bif decide (i9<(r5.l.length:Int))then((cC i9 r3.l.length).bind fun n10=>
 (cC i9 r5.l.length).bind fun n11=>
 bif((((gt r3.l n10).l).length:Int) !=(((gt r5.l n11).l).length:Int))then(some (.inr (.inl false)))else
 ((aP (jr r3 r5 i9) 0).bind fun
 |.inl b30=>(some (.inr (.inl b30)))
 |.inr _=>(some (.inl (wr .i64 (i9+1))))))else
 (some (.inr (.inr ())))
set_option synthInstance.maxSize 1000 in
def qk(c_0:aA):Option Bool:=
 (qQ c_0 Sl.nil).bind fun r1=>
 bif(!r1)then((uf).bind fun r2=>
 some r2)else
 ((oG c_0).bind fun(r3,r4)=>
 (ll c_0).bind fun(r5,r6)=>
 (bif(!(r6==(r4==0)))then(some true)else
 (some (((!r6)&&(r4 !=2))||((r3.l.length:Int) !=(r5.l.length:Int)))):Option Bool).bind fun b7=>
 bif b7 then(some false)else
 ((aP (jq r3 r5) 0).bind fun
 |.inl b31=>(some b31)
 |.inr _=>((qY 0 255).bind fun _=>
 (q_).bind fun _=>
 (q8 0 255).bind fun _=>
 (rY 0 (⟨2,0,0,0,0,0,0,0,0,Sl.nil⟩:fm) 255).bind fun _=>
 (q9).bind fun(r32,r33)=>
 ((h_).bind fun r34=>
 bif(r34==6)then((qp 0 0 255).bind fun r35=>
 bif(r35==16)then((py).bind fun r36=>
 bif((wr .i64 ((wr .i64 ((r32.l.length:Int)+(r33.l.length:Int)))+(r36.l.length:Int)))==0)then((o_ 0).bind fun r37=>
 bif(!(gS.Vu r37))then((qZ).bind fun r38=>
 bif decide (r38=(⟨0,0,false,0,0,0,false,false,0⟩:fN))then((rX).bind fun r39=>
 bif((((oC.TY r39).l).length:Int)==0)then((uf).bind fun r40=>
 some r40)else
 (some false))else
 (some false))else
 (some false))else
 (some false))else
 (some false))else
 (some false):Option Bool).bind fun b41=>
 some b41)))
def VZ:iz:=⟨[(false,.x y0)],[([.x .b],[])],true,[],fun p=>match p with|c_0=>qk c_0⟩
theorem Xt:bw prog 6 VZ:=bh mixed bR (bM:=bM) (np:=1) (an:=[(13,{j:=some {vs:=[(45,.x .b)]}}),(19,{j:=some {vs:=[(7,.x (.i .i64))]},e:=[(.ret,{vs:=[(2,.x .b)]}),(.exit 0,{})]}),(31,{j:=some {vs:=[(8,.x (.i .i64))]},e:=[(.ret,{vs:=[(2,.x .b)]}),(.exit 2,{})]}),(43,{j:=some {vs:=[(9,.x (.i .i64))]},e:=[(.ret,{vs:=[(2,.x .b)]}),(.exit 4,{})]}),(68,{j:=some {vs:=[(2,.x .b)]}})]) (.cons ZN (.cons ZM (.cons XQ (.cons XE (.cons XD (.cons XC (.cons XB (.cons XA (.cons Xz (.cons MY (.cons Xy (.cons Xx (.cons Xw (.cons Xv (.cons Xu .nil))))))))))))))) (by kernel_rfl) (by kernel_rfl)
end Go.Proofs.YtoekkpmeeclpeaaGreat.S
