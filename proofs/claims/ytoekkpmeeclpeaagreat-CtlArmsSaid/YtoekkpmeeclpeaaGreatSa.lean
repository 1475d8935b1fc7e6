/- What functions of the program compute, and that the model's run computes it. Conditions: as stated. -/
import Derived.Test.YtoekkpmeeclpeaaGreatCz
import Derived.Test.YtoekkpmeeclpeaaGreatChecked
import Derived.KernelRfl
open Go.Ev Go
noncomputable section
namespace Go.Proofs.YtoekkpmeeclpeaaGreat.S
abbrev prog:Program:=Tryz.prog
theorem mixed:prog.follows .mixedOrders=true:=by kernel_rfl
def aR:Cu:=fun f=>([3,4,6,8,9,14,35,36,47,48,49,50,51,54,55,63,64,67,74,75,76,99,101,102,104,105,107,118,119,120,121,123,124,125,126,127,128,129,130,131,134,135,158,159,161,165,167,171,173,175,178,180,181,182,183,184,185,186,187,188,189,211,212,213,214,215,216,217,218,219,220,221,222,223,224,225,226,227,228,229,230,231,232,236,240,241,242,243,258,259,260,261,262,263,264,265,266,267,269,270,275,277,278,279,280,281,282,283,286,295,296,298,299,300,301,302,320,321,322,323,324,325,331,332,333,340].contains f,(gB [(10,[true,false,true]),(11,[true]),(12,[true]),(13,[true]),(15,[true]),(24,[true,false,false]),(25,[true]),(26,[true,false,false]),(27,[true,false,false,false]),(28,[true,false,false,false]),(29,[true,false]),(30,[true]),(33,[true,false]),(57,[true,false,false]),(58,[true,false,false]),(59,[true,false,false]),(60,[true,false,false]),(61,[true,false,false]),(62,[true,false,false]),(65,[true,false,false,false]),(66,[true,false]),(68,[true,false]),(70,[true,false,false,false,false]),(71,[true,false,false,false,false,false]),(72,[true,false,false]),(109,[true,false,false]),(112,[true,false,false]),(113,[true,false]),(114,[true,false,false,false]),(115,[true]),(116,[true,false]),(133,[true,false]),(172,[true,false,false,false]),(212,[true,false]),(220,[true,false]),(234,[true,false]),(237,[true]),(238,[true]),(259,[true,false,false,false,false]),(263,[true,false,false]),(286,[true,false,false,false]),(296,[true,false,false,false]),(331,[true,false,false,false,false])] f).getD [])
def adM:Cu:=fun f=>if f=1000000000 then(true,[])else aR f
def adL:Cu:=fun f=>if f=1000000002 then(true,[])else aR f
@[reducible] def a8:Type:=Int×Int×Int×Int×Int×Int
@[reducible] def a8.A (x:a8):Int:=x.1
@[reducible] def a8.lO (x:a8):Int:=x.2.1
@[reducible] def a8.B (x:a8):Int:=x.2.2.1
@[reducible] def a8.lN (x:a8):Int:=x.2.2.2.1
@[reducible] def a8.BL (x:a8):Int:=x.2.2.2.2.1
@[reducible] def a8.tI (x:a8):Int:=x.2.2.2.2.2
@[reducible] def fR:Type:=Int×Int
@[reducible] def fR.At (x:fR):Int:=x.1
@[reducible] def fR.gi (x:fR):Int:=x.2
@[reducible] def ao:Type:=Int×Sl a8×Sl fR
@[reducible] def ao.au (x:ao):Int:=x.1
@[reducible] def ao.aZ (x:ao):Sl a8:=x.2.1
@[reducible] def ao.bn (x:ao):Sl fR:=x.2.2
@[reducible] def ai:Type:=ao×Sl (Sl Int)×Sl Int×Int×Int×Int×Int×Int×Int
@[reducible] def ai.T (x:ai):ao:=x.1
@[reducible] def ai.eo (x:ai):Sl (Sl Int):=x.2.1
@[reducible] def ai.vY (x:ai):Sl Int:=x.2.2.1
@[reducible] def ai.R9 (x:ai):Int:=x.2.2.2.1
@[reducible] def ai.KX (x:ai):Int:=x.2.2.2.2.1
@[reducible] def ai.uD (x:ai):Int:=x.2.2.2.2.2.1
@[reducible] def ai.xW (x:ai):Int:=x.2.2.2.2.2.2.1
@[reducible] def ai.KZ (x:ai):Int:=x.2.2.2.2.2.2.2.1
@[reducible] def ai.R8 (x:ai):Int:=x.2.2.2.2.2.2.2.2
@[reducible] def dO:Type:=Int×Arr 4 Int×Arr 4 Int
@[reducible] def dO.gi (x:dO):Int:=x.1
@[reducible] def dO.Val (x:dO):Arr 4 Int:=x.2.1
@[reducible] def dO.Vd (x:dO):Arr 4 Int:=x.2.2
@[reducible] def dS:Type:=Int×Int×Int
@[reducible] def dS.cN (x:dS):Int:=x.1
@[reducible] def dS.F (x:dS):Int:=x.2.1
@[reducible] def dS.V (x:dS):Int:=x.2.2
@[reducible] def cX:Type:=Int×dO×Sl dS
@[reducible] def cX.R_ (x:cX):Int:=x.1
@[reducible] def cX.M (x:cX):dO:=x.2.1
@[reducible] def cX.GK (x:cX):Sl dS:=x.2.2
@[reducible] def bl:Type:=Int×cX×Bool
@[reducible] def bl.cN (x:bl):Int:=x.1
@[reducible] def bl.R (x:bl):cX:=x.2.1
@[reducible] def bl.V8 (x:bl):Bool:=x.2.2
@[reducible] def aa:Type:=Int×Int×Int×Int×Int×Int×Int×Int×Int×Sl bl
@[reducible] def aa.cN (x:aa):Int:=x.1
@[reducible] def aa.Sw (x:aa):Int:=x.2.1
@[reducible] def aa.U (x:aa):Int:=x.2.2.1
@[reducible] def aa.Rd (x:aa):Int:=x.2.2.2.1
@[reducible] def aa.T1 (x:aa):Int:=x.2.2.2.2.1
@[reducible] def aa.T2 (x:aa):Int:=x.2.2.2.2.2.1
@[reducible] def aa.Am (x:aa):Int:=x.2.2.2.2.2.2.1
@[reducible] def aa.Of (x:aa):Int:=x.2.2.2.2.2.2.2.1
@[reducible] def aa.Code (x:aa):Int:=x.2.2.2.2.2.2.2.2.1
@[reducible] def aa.nq (x:aa):Sl bl:=x.2.2.2.2.2.2.2.2.2
@[reducible] def ba:Type:=Int×Int×Int×Int×aa
@[reducible] def ba.cN (x:ba):Int:=x.1
@[reducible] def ba.pk (x:ba):Int:=x.2.1
@[reducible] def ba.N (x:ba):Int:=x.2.2.1
@[reducible] def ba.Up (x:ba):Int:=x.2.2.2.1
@[reducible] def ba.M (x:ba):aa:=x.2.2.2.2
@[reducible] def bq:Type:=Int×Int
@[reducible] def bq.sw (x:bq):Int:=x.1
@[reducible] def bq.Ek (x:bq):Int:=x.2
@[reducible] def y0:Ty:=.st (.pr (.i .i64) (.i .i64))
@[reducible] def y2:Ty:=.st (.pr (.i .i64) (.pr (.i .i64) (.pr (.i .i64) (.pr (.i .i64) (.pr (.i .i64) (.i .i64))))))
@[reducible] def y1:Ty:=.st (.pr (.i .i64) (.pr (.sl y2) (.sl y0)))
@[reducible] def aD:Type:=Int×Int×Int
@[reducible] def aD.gi (x:aD):Int:=x.1
@[reducible] def aD.To (x:aD):Int:=x.2.1
@[reducible] def aD.qH (x:aD):Int:=x.2.2
@[reducible] def y3:Ty:=.st (.pr (.i .i64) (.pr (.i .i64) (.i .i64)))
@[reducible] def y4:Ty:=.st (.pr y1 (.pr (.sl (.sl (.i .u64))) (.pr (.sl (.i .i64)) (.pr (.i .i64) (.pr (.i .i64) (.pr (.i .i64) (.pr (.i .i64) (.pr (.i .i64) (.i .i64)))))))))
@[reducible] def aE:Type:=Int×Int×Int×Int
@[reducible] def aE.Sw (x:aE):Int:=x.1
@[reducible] def aE.ae9 (x:aE):Int:=x.2.1
@[reducible] def aE.gi (x:aE):Int:=x.2.2.1
@[reducible] def aE.DW (x:aE):Int:=x.2.2.2
@[reducible] def aS:Type:=Int×Int×Sl Int
@[reducible] def aS.No (x:aS):Int:=x.1
@[reducible] def aS.At (x:aS):Int:=x.2.1
@[reducible] def aS.p8 (x:aS):Sl Int:=x.2.2
@[reducible] def am:Type:=Sl aE×Sl aS×Int×Int×Int×Int
@[reducible] def am.Jd (x:am):Sl aE:=x.1
@[reducible] def am.aY (x:am):Sl aS:=x.2.1
@[reducible] def am.Am (x:am):Int:=x.2.2.2.1
@[reducible] def am.X5 (x:am):Int:=x.2.2.2.2.1
@[reducible] def am.To (x:am):Int:=x.2.2.2.2.2
@[reducible] def y5:Ty:=.st (.pr .b (.pr y0 (.i .i64)))
@[reducible] def y8:Ty:=.st (.pr (.i .i64) (.pr (.i .i64) (.pr (.i .i64) (.i .i64))))
@[reducible] def y9:Ty:=.st (.pr (.i .i64) (.pr (.i .i64) (.sl (.i .i64))))
@[reducible] def y7:Ty:=.st (.pr (.sl y8) (.pr (.sl y9) (.pr (.i .i64) (.pr (.i .i64) (.pr (.i .i64) (.i .i64))))))
@[reducible] def Wb:Ty:=.st (.pr (.i .i64) (.pr (.ar 4 (.i .i64)) (.ar 4 (.i .i64))))
@[reducible] def Vh:Ty:=.st (.pr (.i .i64) (.pr Wb (.sl y3)))
@[reducible] def K5:Ty:=.st (.pr (.i .i64) (.pr Vh .b))
@[reducible] def i_:Ty:=.st (.pr (.i .i64) (.pr (.i .i64) (.pr (.i .i64) (.pr (.i .i64) (.pr (.i .i64) (.pr (.i .i64) (.pr (.i .i64) (.pr (.i .i64) (.pr (.i .i64) (.sl K5))))))))))
@[reducible] def y6:Ty:=.st (.pr (.i .i64) (.pr y7 (.pr (.i .i64) (.pr (.mp (.i .i64) i_) (.pr (.i .i64) (.pr (.i .i64) (.pr (.i .i64) (.pr (.i .i64) (.pr (.ar 8 y5) (.pr (.ar 8 (.i .i64)) (.pr (.sl i_) (.sl y2))))))))))))
@[reducible] def bA:Type:=Int×Int
@[reducible] def bA.Lo (x:bA):Int:=x.1
@[reducible] def bA.Hi (x:bA):Int:=x.2
@[reducible] def ak:Type:=Bool×bA×Int
@[reducible] def ak.Mw (x:ak):Bool:=x.1
@[reducible] def ak.S (x:ak):bA:=x.2.1
@[reducible] def ak.At (x:ak):Int:=x.2.2
@[reducible] def ax:Type:=Int×Int×Int×Int×Int×Int
@[reducible] def ax.cN (x:ax):Int:=x.1
@[reducible] def ax.U (x:ax):Int:=x.2.2.1
@[reducible] def ax.Sw (x:ax):Int:=x.2.2.2.1
@[reducible] def ax.X (x:ax):Int:=x.2.2.2.2.1
@[reducible] def ax.Y (x:ax):Int:=x.2.2.2.2.2
@[reducible] def af:Type:=Int×Int×Bool×Int×Int×Int×Bool×Bool×Int
@[reducible] def af.U (x:af):Int:=x.1
@[reducible] def af.pk (x:af):Int:=x.2.1
@[reducible] def af.jg (x:af):Bool:=x.2.2.1
@[reducible] def af.eL (x:af):Int:=x.2.2.2.1
@[reducible] def af.At (x:af):Int:=x.2.2.2.2.1
@[reducible] def af.fC (x:af):Int:=x.2.2.2.2.2.1
@[reducible] def af.oe (x:af):Bool:=x.2.2.2.2.2.2.1
@[reducible] def af.bH (x:af):Bool:=x.2.2.2.2.2.2.2.1
@[reducible] def af.og (x:af):Int:=x.2.2.2.2.2.2.2.2
@[reducible] def aj:Type:=Int×Int×Int×Int
@[reducible] def aj.cN (x:aj):Int:=x.1
@[reducible] def aj.U (x:aj):Int:=x.2.1
@[reducible] def aj.A (x:aj):Int:=x.2.2.1
@[reducible] def aj.B (x:aj):Int:=x.2.2.2
@[reducible] def tm:Ty:=.st (.pr (.i .i64) (.pr (.i .i64) (.pr .b (.pr (.i .i64) (.pr (.i .i64) (.pr (.i .i64) (.pr .b (.pr .b (.i .i64)))))))))
@[reducible] def mw:Ty:=.st (.pr y4 (.pr (.sl (.sl (.sl (.i .i64)))) (.pr (.sl y8) (.pr tm y6))))
def h0:Sh:=.pb mw (.st (.pr (.x y4) (.pr (.x (.sl (.sl (.sl (.i .i64))))) (.pr (.os y8) (.pr (.x tm) (.pr (.st (.pr (.x (.i .i64)) (.pr (.x y7) (.pr (.x (.i .i64)) (.pr (.mp (.i .i64) i_) (.pr (.x (.i .i64)) (.pr (.x (.i .i64)) (.pr (.x (.i .i64)) (.pr (.x (.i .i64)) (.pr (.x (.ar 8 y5)) (.pr (.x (.ar 8 (.i .i64))) (.pr (.os i_) (.pr (.os y2) .ni))))))))))))) .ni))))))
@[reducible] def y16:Ty:=.st (.pr (.i .i64) (.pr (.i .i64) (.pr (.i .i64) (.pr (.i .i64) i_))))
@[reducible] def a7:Type:=Int×Int×Int
@[reducible] def a7.I (x:a7):Int:=x.1
@[reducible] def a7.J (x:a7):Int:=x.2.1
@[reducible] def a7.Gap (x:a7):Int:=x.2.2
@[reducible] def fZ:Type:=Int×Sl bl
@[reducible] def fZ.Sw (x:fZ):Int:=x.1
@[reducible] def fZ.nq (x:fZ):Sl bl:=x.2
@[reducible] def y17:Ty:=.st (.pr (.i .i64) (.sl K5))
@[reducible] def bR:Type:=Int×Int×Int×Int
@[reducible] def bR.u (x:bR):Int:=x.1
@[reducible] def bR.rd (x:bR):Int:=x.2.1
@[reducible] def bR.sw (x:bR):Int:=x.2.2.1
@[reducible] def bR.cw (x:bR):Int:=x.2.2.2
def mA(t_0:ao):(Int×Sl bq)->Option ((Int×Sl bq)⊕(Sl bq)):=fun(i4,s5)=>
 bif decide (i4<(((ao.aZ t_0).l).length:Int))then((cD i4 ((ao.aZ t_0).l).length).bind fun n6=>
 (ic (s5.l++[(⟨a8.A (gt ((ao.aZ t_0).l) n6),a8.lO (gt ((ao.aZ t_0).l) n6)⟩:bq),(⟨a8.B (gt ((ao.aZ t_0).l) n6),a8.lN (gt ((ao.aZ t_0).l) n6)⟩:bq)])).bind fun l7=>
 some (.inl (wr .i64 (i4+1),(Sl.mk l7))))else
 (some (.inr s5))
def mz(t_0:ao):(Int×Sl bq)->Option ((Int×Sl bq)⊕(Sl bq)):=fun(i11,s12)=>
 bif decide (i11<(((ao.bn t_0).l).length:Int))then((cD i11 ((ao.bn t_0).l).length).bind fun n13=>
 (ic (s12.l++[gt ((ao.bn t_0).l) n13])).bind fun l14=>
 some (.inl (wr .i64 (i11+1),(Sl.mk l14))))else
 (some (.inr s12))
def oR(t_0:ao):Option (Sl bq):=
 (aU (mA t_0) (0,Sl.nil)).bind fun s8=>
 (aU (mz t_0) (0,s8)).bind fun s15=>
 some s15
def sp0:dC:=⟨[(false,.x y1)],[([.x (.sl y0)],[])],false,[],fun p=>match p with|t_0=>oR t_0⟩
theorem ok0:aN prog 98 sp0:=aH mixed (lp:=eg) (aR:=aR) (np:=1) (an:=[(7,{j:=some {vs:=[(3,.so 0),(11,.x (.i .i64))],os:=[.ar y0]},e:=[(.exit 0,{vs:=[(3,.so 0)],os:=[.ar y0]})]}),(19,{j:=some {vs:=[(3,.so 0),(32,.x (.i .i64))],os:=[.ar y0],kl:=[1]},e:=[(.exit 2,{vs:=[(3,.so 0)],os:=[.ar y0],kl:=[1]})]})]) .nil (by kernel_rfl) (by kernel_rfl)
def nM(t_0:ao):Int->Option (Int⊕(Bool⊕Unit)):=fun i2=>
 bif decide (i2<(((ao.aZ t_0).l).length:Int))then((cD i2 ((ao.aZ t_0).l).length).bind fun n3=>
 bif(((((a8.A (gt ((ao.aZ t_0).l) n3))==(a8.B (gt ((ao.aZ t_0).l) n3)))||(decide ((a8.BL (gt ((ao.aZ t_0).l) n3))<1)))||(decide ((a8.BL (gt ((ao.aZ t_0).l) n3))>(a8.tI (gt ((ao.aZ t_0).l) n3)))))||(decide ((a8.tI (gt ((ao.aZ t_0).l) n3))>1000)))then(some (.inr (.inl false)))else
 (some (.inl (wr .i64 (i2+1)))))else
 (some (.inr (.inr ())))
def iR(t_0:ao)(r5:Sl bq):(Int×Mp bq Int)->Option ((Int×Mp bq Int)⊕(Bool⊕Unit)):=fun(i9,m10)=>
 bif decide (i9<(r5.l.length:Int))then((cD i9 r5.l.length).bind fun n11=>
 (De ((lG m10 0 (gt r5.l n11)).1) ((lG m10 0 (gt r5.l n11)).2.2) (wr .i64 ((kp m10 0 (gt r5.l n11))+1))).bind fun m12=>
 bif(((((decide ((bq.sw (gt r5.l n11))<0))||(decide ((bq.sw (gt r5.l n11))>=(ao.au t_0))))||(decide ((bq.Ek (gt r5.l n11))<0)))||(decide ((bq.Ek (gt r5.l n11))>=8)))||(decide ((kp m12 0 (gt r5.l n11))>1)))then(some (.inr (.inl false)))else
 (some (.inl (wr .i64 (i9+1),m12))))else
 (some (.inr (.inr ())))
def mB(t_0:ao):Option Bool:=
 bif((((decide ((ao.au t_0)<1))||(decide ((ao.au t_0)>8)))||(decide ((((ao.aZ t_0).l).length:Int)>24)))||(decide ((((ao.bn t_0).l).length:Int)>8)))then(some false)else
 ((aU (nM t_0) 0).bind fun
 |.inl b4=>(some b4)
 |.inr _=>((oR t_0).bind fun r5=>
 (aU (iR t_0 r5) (0,(Mp.none:Mp bq Int))).bind fun
 |.inl b13=>(some b13)
 |.inr _=>(some true)))
def sp1:dC:=⟨[(false,.x y1)],[([.x .b],[])],true,[],fun p=>match p with|t_0=>mB t_0⟩
theorem ok1:aN prog 47 sp1:=aH mixed (lp:=eg) (aR:=aR) (np:=1) (an:=[(10,{j:=some {vs:=[(31,.x (.i .i64))]},e:=[(.ret,{vs:=[(2,.x .b)]}),(.exit 0,{})]}),(27,{j:=some {vs:=[(5,.om 0),(62,.x (.i .i64))],os:=[.mp y0 (.i .i64)],kl:=[1]},e:=[(.ret,{vs:=[(2,.x .b)],kl:=[1]}),(.exit 2,{kl:=[1]})]})]) (.cons ok0 .nil) (by kernel_rfl) (by kernel_rfl)
def lI(x_0:Int)(y_1:Int):Option (Int×Int):=some (wr .u64 ((wr .u64 ((wr .u64 ((od .u64 x_0 32)*(od .u64 y_1 32)))+(od .u64 (wr .u64 ((wr .u64 ((od .u64 x_0 32)*(p7 .u64 y_1 4294967295)))+(od .u64 (wr .u64 ((p7 .u64 x_0 4294967295)*(p7 .u64 y_1 4294967295))) 32))) 32)))+(od .u64 (wr .u64 ((p7 .u64 (wr .u64 ((wr .u64 ((od .u64 x_0 32)*(p7 .u64 y_1 4294967295)))+(od .u64 (wr .u64 ((p7 .u64 x_0 4294967295)*(p7 .u64 y_1 4294967295))) 32))) 4294967295)+(wr .u64 ((p7 .u64 x_0 4294967295)*(od .u64 y_1 32))))) 32)),wr .u64 (x_0*y_1))
def sp2:dC:=⟨[(false,.x (.i .u64)),(false,.x (.i .u64))],[([.x (.i .u64),.x (.i .u64)],[])],true,[],fun p=>match p with|(x_0,y_1)=>lI x_0 y_1⟩
theorem ok2:aN prog 258 sp2:=aH mixed (lp:=eg) (aR:=aR) (np:=2) (an:=[]) .nil (by kernel_rfl) (by kernel_rfl)
def iT(x_0:Int)(y_1:Int):Option (Int×Int):=
 (lI x_0 y_1).bind fun(r1,r2)=>
 some (r1,r2)
def sp3:dC:=⟨[(false,.x (.i .u64)),(false,.x (.i .u64))],[([.x (.i .u64),.x (.i .u64)],[])],true,[],fun p=>match p with|(x_0,y_1)=>iT x_0 y_1⟩
theorem ok3:aN prog 211 sp3:=aH mixed (lp:=eg) (aR:=aR) (np:=2) (an:=[]) (.cons ok2 .nil) (by kernel_rfl) (by kernel_rfl)
def nN:(Int×Sl Int)->Option ((Int×Sl Int)⊕(Sl Int)):=fun(i7,s8)=>
 bif decide (i7<(s8.l.length:Int))then((nD s8.l i7 s8.l.length).bind fun l9=>
 (nD s8.l 0 i7).bind fun l10=>
 some (.inl (wr .i64 (i7+((min ((s8.to l10).l).length ((s8.to l9).l).length:Nat):Int)),(s8.to (B_ s8.l i7.toNat ((s8.to l9).l).length ((s8.to l10).l))))))else
 (some (.inr s8))
def dK(x_0:Sl Int)(count_1:Int):Option (Sl Int):=
 bif decide (count_1<0)then(none)else
 ((iT (wr .u64 (x_0.l.length:Int)) (wr .u64 count_1)).bind fun(r1,r2)=>
 bif((decide (r1>0))||(decide (r2>9223372036854775807)))then(none)else
 ((yT 0 (wr .i64 r2) (wr .i64 r2)).bind fun l3=>
 (aU (nN) (((min x_0.l.length l3.length:Nat):Int),(Sl.mk (B_ l3 0 l3.length x_0.l)))).bind fun s11=>
 some s11))
def sp4:dC:=⟨[(false,.x (.sl (.i .i64))),(false,.x (.i .i64))],[([.os (.i .i64)],[])],true,[],fun p=>match p with|(x_0,count_1)=>dK x_0 count_1⟩
theorem ok4:aN prog 159 sp4:=aH mixed (lp:=eg) (aR:=aR) (np:=2) (an:=[(17,{j:=some {vs:=[(7,.so 0),(8,.x (.i .i64))],os:=[.ar (.i .i64)],kl:=[2]},e:=[(.exit 0,{vs:=[(7,.so 0)],os:=[.ar (.i .i64)],kl:=[2]})]})]) (.cons ok3 .nil) (by kernel_rfl) (by kernel_rfl)
def wc(x_0:Int):Option Int:=
 (bif decide (x_0>=4294967296)then(some (od .u64 x_0 32,32))else
 (some (x_0,0)):Option (Int×Int)).bind fun(i1,i2)=>
 (bif decide (i1>=65536)then(some (od .u64 i1 16,wr .i64 (i2+16)))else
 (some (i1,i2)):Option (Int×Int)).bind fun(i3,i4)=>
 (bif decide (i3>=256)then(some (od .u64 i3 8,wr .i64 (i4+8)))else
 (some (i3,i4)):Option (Int×Int)).bind fun(i5,i6)=>
 (atS (⟨#[0,1,2,2,3,3,3,3,4,4,4,4,4,4,4,4,5,5,5,5,5,5,5,5,5,5,5,5,5,5,5,5,6,6,6,6,6,6,6,6,6,6,6,6,6,6,6,6,6,6,6,6,6,6,6,6,6,6,6,6,6,6,6,6,7,7,7,7,7,7,7,7,7,7,7,7,7,7,7,7,7,7,7,7,7,7,7,7,7,7,7,7,7,7,7,7,7,7,7,7,7,7,7,7,7,7,7,7,7,7,7,7,7,7,7,7,7,7,7,7,7,7,7,7,7,7,7,7,8,8,8,8,8,8,8,8,8,8,8,8,8,8,8,8,8,8,8,8,8,8,8,8,8,8,8,8,8,8,8,8,8,8,8,8,8,8,8,8,8,8,8,8,8,8,8,8,8,8,8,8,8,8,8,8,8,8,8,8,8,8,8,8,8,8,8,8,8,8,8,8,8,8,8,8,8,8,8,8,8,8,8,8,8,8,8,8,8,8,8,8,8,8,8,8,8,8,8,8,8,8,8,8,8,8,8,8,8,8,8,8,8,8,8,8,8,8,8,8,8,8,8,8,8,8,8,8]⟩:ByteArray) (wr .u8 i5)).bind fun b7=>
 some (wr .i64 (i6+(wr .i64 b7)))
def sp5:dC:=⟨[(false,.x (.i .u64))],[([.x (.i .i64)],[])],true,[],fun p=>match p with|x_0=>wc x_0⟩
theorem ok5:aN prog 295 sp5:=aH mixed (lp:=eg) (aR:=aR) (np:=1) (an:=[(2,{e:=[(.normal,{vs:=[(0,.x (.i .u64)),(2,.x (.i .i64))]})]}),(8,{e:=[(.normal,{vs:=[(0,.x (.i .u64)),(2,.x (.i .i64))]})]}),(14,{e:=[(.normal,{vs:=[(0,.x (.i .u64)),(2,.x (.i .i64))]})]})]) .nil (by kernel_rfl) (by kernel_rfl)
def nV(x_0:Int):Option Int:=
 (wc x_0).bind fun r1=>
 some r1
def sp6:dC:=⟨[(false,.x (.i .u64))],[([.x (.i .i64)],[])],true,[],fun p=>match p with|x_0=>nV x_0⟩
theorem ok6:aN prog 260 sp6:=aH mixed (lp:=eg) (aR:=aR) (np:=1) (an:=[]) (.cons ok5 .nil) (by kernel_rfl) (by kernel_rfl)
def qR(x_0:Int):Option Bool:=some (x_0 !=x_0)
def sp7:dC:=⟨[(false,.x (.i .i64))],[([.x .b],[])],true,[],fun p=>match p with|x_0=>qR x_0⟩
theorem ok7:aN prog 261 sp7:=aH mixed (lp:=eg) (aR:=aR) (np:=1) (an:=[]) .nil (by kernel_rfl) (by kernel_rfl)
def jE(x_0:Int)(y_1:Int):Option Int:=
 (qR x_0).bind fun r1=>
 (qR y_1).bind fun r2=>
 bif r1 then(bif r2 then(some 0)else
 (some (-1)))else
 (bif r2 then(some 1)else
 (bif decide (x_0<y_1)then(some (-1))else
 (bif decide (x_0>y_1)then(some 1)else
 (some 0))))
def sp8:dC:=⟨[(false,.x (.i .i64)),(false,.x (.i .i64))],[([.x (.i .i64)],[])],true,[],fun p=>match p with|(x_0,y_1)=>jE x_0 y_1⟩
theorem ok8:aN prog 214 sp8:=aH mixed (lp:=eg) (aR:=aR) (np:=2) (an:=[]) (.cons ok7 .nil) (by kernel_rfl) (by kernel_rfl)
def tK(a_0:aD)(b_1:aD):Option Int:=
 (jE (aD.gi a_0) (aD.gi b_1)).bind fun r1=>
 some r1
def sp9:dC:=⟨[(false,.x y3),(false,.x y3)],[([.x (.i .i64)],[])],true,[],fun p=>match p with|(a_0,b_1)=>tK a_0 b_1⟩
theorem ok9:aN prog 213 sp9:=aH mixed (lp:=eg) (aR:=aR) (np:=2) (an:=[]) (.cons ok8 .nil) (by kernel_rfl) (by kernel_rfl)
def ff(a_1:Int):(Int×Sl aD)->Option ((Int×Sl aD)⊕(Sl aD)):=fun(i9,s10)=>
 (bif decide (i9>a_1)then((cD i9 s10.l.length).bind fun n11=>
 (cD (wr .i64 (i9-1)) s10.l.length).bind fun n12=>
 (tK (gt s10.l n11) (gt s10.l n12)).bind fun r13=>
 some (decide (r13<0)))else
 (some false):Option Bool).bind fun b14=>
 bif b14 then((cD (wr .i64 (i9-1)) s10.l.length).bind fun n15=>
 (cD i9 s10.l.length).bind fun n16=>
 (cD i9 s10.l.length).bind fun n17=>
 (cD (wr .i64 (i9-1)) (s10.l.set n17 (gt s10.l n15)).length).bind fun n18=>
 some (.inl (wr .i64 (i9-1),(Sl.mk ((s10.l.set n17 (gt s10.l n15)).set n18 (gt s10.l n16))))))else
 (some (.inr s10))
def dv(a_1:Int)(b_2:Int):(Int×Sl aD)->Option ((Int×Sl aD)⊕(Sl aD)):=fun(i4,s5)=>
 bif decide (i4<b_2)then((aU (ff a_1) (i4,s5)).bind fun s19=>
 some (.inl (wr .i64 (i4+1),s19)))else
 (some (.inr s5))
def bE(data_0:Sl aD)(a_1:Int)(b_2:Int):Option (Sl aD):=
 (aU (dv a_1 b_2) (wr .i64 (a_1+1),data_0)).bind fun s20=>
 some s20
def adK:dC:=⟨[(true,.os y3),(false,.x (.i .i64)),(false,.x (.i .i64)),(false,.fn 213 .ni)],[([],[.os y3])],true,[true,false,false,false],fun p=>match p with|(data_0,a_1,b_2)=>bE data_0 a_1 b_2⟩
theorem aeH:aN prog 286 adK:=aH mixed (lp:=eg) (aR:=aR) (np:=4) (an:=[(2,{j:=some {vs:=[(0,.so 0),(8,.x (.i .i64))],gs:=(.co (.so 0) .ni),os:=[.ar y3],kl:=[0]},e:=[(.exit 0,{gs:=(.co (.so 0) .ni),os:=[.ar y3],kl:=[0]})]}),(9,{j:=some {vs:=[(0,.so 0),(9,.x (.i .i64))],gs:=(.co (.so 0) .ni),os:=[.ar y3],kl:=[1]},e:=[(.exit 2,{vs:=[(0,.so 0)],gs:=(.co (.so 0) .ni),os:=[.ar y3],kl:=[1]})]}),(12,{j:=some {vs:=[(34,.x .b)]}})]) (.cons ok9 .nil) (by kernel_rfl) (by kernel_rfl)
def cz:(Int×Int×Int×Bool×Bool×Sl aD)->Option ((Int×Int×Int×Bool×Bool×Sl aD)⊕(Sl aD)):=fun(i12,i13,i14,b15,_,s17)=>
 bif decide ((wr .i64 (i13-i12))<=12)then((bE s17 i12 i13).bind fun s18=>
 (my s18 s17).bind fun _=>
 some (.inr s18))else
 (bif(i14==0)then(none)else
 (bif(!b15)then(none)else
 (none)))
def cL(data_0:Sl aD)(a_1:Int)(b_2:Int)(limit_3:Int):Option (Sl aD):=
 (aU (cz) (a_1,b_2,limit_3,true,true,data_0)).bind fun s19=>
 some s19
def adJ:dC:=⟨[(true,.os y3),(false,.x (.i .i64)),(false,.x (.i .i64)),(false,.x (.i .i64)),(false,.fn 213 .ni)],[([],[.os y3])],true,[true,false,false,false,false],fun p=>match p with|(data_0,a_1,b_2,limit_3)=>cL data_0 a_1 b_2 limit_3⟩
theorem aeG:aN prog 259 adJ:=aH mixed (lp:=eg) (aR:=aR) (np:=5) (an:=[(4,{j:=some {vs:=[(0,.so 0),(1,.x (.i .i64)),(2,.x (.i .i64)),(3,.x (.i .i64)),(10,.x .b),(11,.x .b)],gs:=(.co (.so 0) .ni),os:=[.ar y3],kl:=[0]},e:=[(.ret,{gs:=(.co (.so 0) .ni),os:=[.ar y3],kl:=[0]})]})]) (.cons aeH .nil) (by kernel_rfl) (by kernel_rfl)
def cr(x_0:Sl aD):Option (Sl aD):=
 (nV (wr .u64 (x_0.l.length:Int))).bind fun r1=>
 (cL x_0 0 (x_0.l.length:Int) r1).bind fun s2=>
 (my s2 x_0).bind fun _=>
 some s2
def adI:dC:=⟨[(true,.os y3),(false,.fn 213 .ni)],[([],[.os y3])],true,[true,false],fun p=>match p with|x_0=>cr x_0⟩
theorem aeF:aN prog 212 adI:=aH mixed (lp:=eg) (aR:=aR) (np:=2) (an:=[]) (.cons ok6 (.cons aeG .nil)) (by kernel_rfl) (by kernel_rfl)
def iE(t_0:ao)(sw_1:Int):(Int×Sl aD)->Option ((Int×Sl aD)⊕(Sl aD)):=fun(i4,s5)=>
 bif decide (i4<(((ao.aZ t_0).l).length:Int))then(((cD i4 ((ao.aZ t_0).l).length).bind fun n6=>
 (bif((a8.A (gt ((ao.aZ t_0).l) n6))==sw_1)then((ic (s5.l++[(⟨a8.lO (gt ((ao.aZ t_0).l) n6),a8.B (gt ((ao.aZ t_0).l) n6),i4⟩:aD)])).bind fun l7=>
 some (Sl.mk l7))else
 (some s5):Option (Sl aD)).bind fun s8=>
 bif((a8.B (gt ((ao.aZ t_0).l) n6))==sw_1)then((ic (s8.l++[(⟨a8.lN (gt ((ao.aZ t_0).l) n6),a8.A (gt ((ao.aZ t_0).l) n6),i4⟩:aD)])).bind fun l9=>
 some (Sl.mk l9))else
 (some s8):Option (Sl aD)).bind fun s10=>
 some (.inl (wr .i64 (i4+1),s10)))else
 (some (.inr s5))
def mW(t_0:ao)(sw_1:Int):Option (Sl aD):=
 (aU (iE t_0 sw_1) (0,Sl.nil)).bind fun s11=>
 (cr s11).bind fun s12=>
 (my s12 s11).bind fun _=>
 some s12
def adH:dC:=⟨[(false,.x y1),(false,.x (.i .i64))],[([.x (.sl y3)],[])],false,[],fun p=>match p with|(t_0,sw_1)=>mW t_0 sw_1⟩
theorem W7:aN prog 160 adH:=aH mixed (lp:=eg) (aR:=aR) (np:=2) (an:=[(7,{j:=some {vs:=[(5,.so 0),(11,.x (.i .i64))],os:=[.ar y3]},e:=[(.exit 0,{vs:=[(5,.so 0)],os:=[.ar y3]})]}),(11,{e:=[(.normal,{vs:=[(5,.so 0)],os:=[.ar y3],kl:=[1]})]}),(14,{e:=[(.normal,{vs:=[(5,.so 0)],os:=[.ar y3],kl:=[1]})]})]) (.cons aeF .nil) (by kernel_rfl) (by kernel_rfl)
def mY(r9:Sl aD):(Int×Sl Int×Sl Int)->Option ((Int×Sl Int×Sl Int)⊕(Sl Int×Sl Int)):=fun(i15,s16,s17)=>
 bif decide (i15<(r9.l.length:Int))then(((cD i15 r9.l.length).bind fun n18=>
 (cD (aD.To (gt r9.l n18)) s16.l.length).bind fun n19=>
 bif decide ((gt s16.l n19)<0)then((cD 0 s17.l.length).bind fun n20=>
 (cD (gt s17.l n20) s16.l.length).bind fun n21=>
 (cD (aD.To (gt r9.l n18)) s16.l.length).bind fun n22=>
 (ic (s17.l++[aD.To (gt r9.l n18)])).bind fun l23=>
 some ((Sl.mk (s16.l.set n22 (wr .i64 ((gt s16.l n21)+1)))),(Sl.mk l23)))else
 (some (s16,s17)):Option (Sl Int×Sl Int)).bind fun(s24,s25)=>
 some (.inl (wr .i64 (i15+1),s24,s25)))else
 (some (.inr (s16,s17)))
def mX(t_0:ao):(Sl Int×Sl Int)->Option ((Sl Int×Sl Int)⊕(Sl Int)):=fun(s6,s7)=>
 bif decide ((s7.l.length:Int)>0)then((cD 0 s7.l.length).bind fun n8=>
 (mW t_0 (gt s7.l n8)).bind fun r9=>
 (aU (mY r9) (0,s6,s7)).bind fun(s26,s27)=>
 (nD s27.l 1 s27.l.length).bind fun l28=>
 some (.inl (s26,(s27.to l28))))else
 (some (.inr s6))
def oT(t_0:ao)(sw_1:Int):Option (Sl Int):=
 (dK (Sl.mk [(-1)]) (if 0>(ao.au t_0)then 0 else(ao.au t_0))).bind fun s1=>
 bif((decide (sw_1<0))||(decide (sw_1>=(ao.au t_0))))then(some s1)else
 ((cD sw_1 s1.l.length).bind fun n2=>
 (aU (mX t_0) ((Sl.mk (s1.l.set n2 0)),(Sl.mk [sw_1]))).bind fun s29=>
 some s29)
def adG:dC:=⟨[(false,.x y1),(false,.x (.i .i64))],[([.x (.sl (.i .i64))],[])],false,[],fun p=>match p with|(t_0,sw_1)=>oT t_0 sw_1⟩
theorem aeE:aN prog 100 adG:=aH mixed (lp:=eg) (aR:=aR) (np:=2) (an:=[(14,{j:=some {vs:=[(5,.so 0),(6,.so 1)],os:=[.ar (.i .i64),.ar (.i .i64)],kl:=[2,3]},e:=[(.exit 0,{vs:=[(5,.so 0)],os:=[.ar (.i .i64)],kl:=[2,3]})]}),(21,{j:=some {vs:=[(5,.so 0),(6,.so 1),(39,.x (.i .i64))],os:=[.ar (.i .i64),.ar (.i .i64)],kl:=[4,5]},e:=[(.exit 2,{vs:=[(5,.so 0),(6,.so 1)],os:=[.ar (.i .i64),.ar (.i .i64)],kl:=[4,5]})]}),(25,{e:=[(.normal,{vs:=[(5,.so 0),(6,.so 1)],os:=[.ar (.i .i64),.ar (.i .i64)],kl:=[7000006,7000007]})]})]) (.cons ok4 (.cons W7 .nil)) (by kernel_rfl) (by kernel_rfl)
def cG(s_0:Sl Int)(v_1:Int):Int->Option (Int⊕(Int⊕Unit)):=fun i2=>
 bif decide (i2<(s_0.l.length:Int))then((cD i2 s_0.l.length).bind fun n3=>
 bif(v_1==(gt s_0.l n3))then(some (.inr (.inl i2)))else
 (some (.inl (wr .i64 (i2+1)))))else
 (some (.inr (.inr ())))
def fx(s_0:Sl Int)(v_1:Int):Option Int:=
 (aU (cG s_0 v_1) 0).bind fun
 |.inl i4=>(some i4)
 |.inr _=>(some (-1))
def adF:dC:=⟨[(false,.x (.sl (.i .i64))),(false,.x (.i .i64))],[([.x (.i .i64)],[])],true,[],fun p=>match p with|(s_0,v_1)=>fx s_0 v_1⟩
theorem aeD:aN prog 158 adF:=aH mixed (lp:=eg) (aR:=aR) (np:=2) (an:=[(5,{j:=some {vs:=[(8,.x (.i .i64))]},e:=[(.ret,{vs:=[(4,.x (.i .i64))]}),(.exit 0,{})]})]) .nil (by kernel_rfl) (by kernel_rfl)
def bJ(s_0:Sl Int)(v_1:Int):Option Bool:=
 (fx s_0 v_1).bind fun r1=>
 some (decide (r1>=0))
def adE:dC:=⟨[(false,.x (.sl (.i .i64))),(false,.x (.i .i64))],[([.x .b],[])],true,[],fun p=>match p with|(s_0,v_1)=>bJ s_0 v_1⟩
theorem Nw:aN prog 99 adE:=aH mixed (lp:=eg) (aR:=aR) (np:=2) (an:=[]) (.cons aeD .nil) (by kernel_rfl) (by kernel_rfl)
def qe(t_0:ao):Option Bool:=
 (oT t_0 0).bind fun r1=>
 (bJ r1 (-1)).bind fun r2=>
 some (!r2)
def adD:dC:=⟨[(false,.x y1)],[([.x .b],[])],true,[],fun p=>match p with|t_0=>qe t_0⟩
theorem aeC:aN prog 48 adD:=aH mixed (lp:=eg) (aR:=aR) (np:=1) (an:=[]) (.cons aeE (.cons Nw .nil)) (by kernel_rfl) (by kernel_rfl)
def mL(n_0:Int)(from_1:Int)(to_2:Int):Option Bool:=some ((decide (n_0>=from_1))&&(decide (n_0<=to_2)))
def adC:dC:=⟨[(false,.x (.i .i64)),(false,.x (.i .i64)),(false,.x (.i .i64))],[([.x .b],[])],true,[],fun p=>match p with|(n_0,from_1,to_2)=>mL n_0 from_1 to_2⟩
theorem W6:aN prog 49 adC:=aH mixed (lp:=eg) (aR:=aR) (np:=3) (an:=[]) .nil (by kernel_rfl) (by kernel_rfl)
def BG(s_0:Int):Option Bool:=
 (mL s_0 (-1048576) 1048576).bind fun r1=>
 some (!r1)
def adB:dC:=⟨[(false,.x (.i .i64))],[([.x .b],[])],true,[],fun p=>match p with|s_0=>BG s_0⟩
theorem aeB:aN prog 51 adB:=aH mixed (lp:=eg) (aR:=aR) (np:=1) (an:=[]) (.cons W6 .nil) (by kernel_rfl) (by kernel_rfl)
def ft(s_0:Sl Int):Int->Option (Int⊕(Int⊕Unit)):=fun i2=>
 bif decide (i2<(s_0.l.length:Int))then((cD i2 s_0.l.length).bind fun n3=>
 (BG (gt s_0.l n3)).bind fun r4=>
 bif r4 then(some (.inr (.inl i2)))else
 (some (.inl (wr .i64 (i2+1)))))else
 (some (.inr (.inr ())))
def dq(s_0:Sl Int):Option Int:=
 (aU (ft s_0) 0).bind fun
 |.inl i5=>(some i5)
 |.inr _=>(some (-1))
def adA:dC:=⟨[(false,.x (.sl (.i .i64))),(false,.fn 51 .ni)],[([.x (.i .i64)],[])],true,[],fun p=>match p with|s_0=>dq s_0⟩
theorem aeA:aN prog 101 adA:=aH mixed (lp:=eg) (aR:=aR) (np:=2) (an:=[(5,{j:=some {vs:=[(8,.x (.i .i64))]},e:=[(.ret,{vs:=[(4,.x (.i .i64))]}),(.exit 0,{})]})]) (.cons aeB .nil) (by kernel_rfl) (by kernel_rfl)
def cF(s_0:Sl Int):Option Bool:=
 (dq s_0).bind fun r1=>
 some (decide (r1>=0))
def adz:dC:=⟨[(false,.x (.sl (.i .i64))),(false,.fn 51 .ni)],[([.x .b],[])],true,[],fun p=>match p with|s_0=>cF s_0⟩
theorem aez:aN prog 50 adz:=aH mixed (lp:=eg) (aR:=aR) (np:=2) (an:=[]) (.cons aeA .nil) (by kernel_rfl) (by kernel_rfl)
theorem Tz:aN prog 166 (DA true):=KA (by kernel_rfl) (by kernel_rfl)
def ra(x_0:Nat):Option Nat:=
 bif(!(IH .f64 x_0 x_0))then((vM 9221120237041090561).bind fun r1=>
 some r1)else
 (some x_0)
def ady:dC:=⟨[(false,.x (.f .f64))],[([.x (.f .f64)],[])],true,[],fun p=>match p with|x_0=>ra x_0⟩
theorem Z8:aN prog 165 ady:=aH mixed (lp:=eg) (aR:=aR) (np:=1) (an:=[]) (.cons Tz .nil) (by kernel_rfl) (by kernel_rfl)
def Dw(n_0:Int):Option Nat:=
 (vM n_0).bind fun r1=>
 (ra r1).bind fun r2=>
 some r2
def adx:dC:=⟨[(false,.x (.i .u64))],[([.x (.f .f64)],[])],true,[],fun p=>match p with|n_0=>Dw n_0⟩
theorem aey:aN prog 104 adx:=aH mixed (lp:=eg) (aR:=aR) (np:=1) (an:=[]) (.cons Tz (.cons Z8 .nil)) (by kernel_rfl) (by kernel_rfl)
def qT(bits_0:Sl Int):(Int×Sl Nat)->Option ((Int×Sl Nat)⊕(Sl Nat)):=fun(i4,s5)=>
 bif decide (i4<(bits_0.l.length:Int))then((cD i4 bits_0.l.length).bind fun n6=>
 (Dw (gt bits_0.l n6)).bind fun r7=>
 (UP (s5.l++[r7])).bind fun l8=>
 some (.inl (wr .i64 (i4+1),(Sl.mk l8))))else
 (some (.inr s5))
def uG(bits_0:Sl Int):Option (Sl Nat):=
 (aU (qT bits_0) (0,Sl.nil)).bind fun s9=>
 some s9
def adw:dC:=⟨[(false,.x (.sl (.i .u64)))],[([.x (.sl (.f .f64))],[])],false,[],fun p=>match p with|bits_0=>uG bits_0⟩
theorem aex:aN prog 53 adw:=aH mixed (lp:=eg) (aR:=aR) (np:=1) (an:=[(7,{j:=some {vs:=[(3,.so 0),(8,.x (.i .i64))],os:=[.ar (.f .f64)]},e:=[(.exit 0,{vs:=[(3,.so 0)],os:=[.ar (.f .f64)]})]})]) (.cons aey .nil) (by kernel_rfl) (by kernel_rfl)
def vL(x_0:Nat):Option Bool:=some (L5 .f64 x_0 0||IH .f64 x_0 0)
def adv:dC:=⟨[(false,.x (.f .f64))],[([.x .b],[])],true,[],fun p=>match p with|x_0=>vL x_0⟩
theorem aew:aN prog 217 adv:=aH mixed (lp:=eg) (aR:=aR) (np:=1) (an:=[]) .nil (by kernel_rfl) (by kernel_rfl)
def uc(x_0:Nat):Option Bool:=
 (vL x_0).bind fun r1=>
 some (!r1)
def adu:dC:=⟨[(false,.x (.f .f64))],[([.x .b],[])],true,[],fun p=>match p with|x_0=>uc x_0⟩
theorem aev:aN prog 216 adu:=aH mixed (lp:=eg) (aR:=aR) (np:=1) (an:=[]) (.cons aew .nil) (by kernel_rfl) (by kernel_rfl)
def b_(s_0:Sl Nat):Int->Option (Int⊕(Int⊕Unit)):=fun i2=>
 bif decide (i2<(s_0.l.length:Int))then((cD i2 s_0.l.length).bind fun n3=>
 (uc (gt s_0.l n3)).bind fun r4=>
 bif r4 then(some (.inr (.inl i2)))else
 (some (.inl (wr .i64 (i2+1)))))else
 (some (.inr (.inr ())))
def bM(s_0:Sl Nat):Option Int:=
 (aU (b_ s_0) 0).bind fun
 |.inl i5=>(some i5)
 |.inr _=>(some (-1))
def adt:dC:=⟨[(false,.x (.sl (.f .f64))),(false,.fn 216 .ni)],[([.x (.i .i64)],[])],true,[],fun p=>match p with|s_0=>bM s_0⟩
theorem aeu:aN prog 262 adt:=aH mixed (lp:=eg) (aR:=aR) (np:=2) (an:=[(5,{j:=some {vs:=[(8,.x (.i .i64))]},e:=[(.ret,{vs:=[(4,.x (.i .i64))]}),(.exit 0,{})]})]) (.cons aev .nil) (by kernel_rfl) (by kernel_rfl)
def bF(s_0:Sl Nat):Option Bool:=
 (bM s_0).bind fun r1=>
 some (decide (r1>=0))
def ads:dC:=⟨[(false,.x (.sl (.f .f64))),(false,.fn 216 .ni)],[([.x .b],[])],true,[],fun p=>match p with|s_0=>bF s_0⟩
theorem aet:aN prog 215 ads:=aH mixed (lp:=eg) (aR:=aR) (np:=2) (an:=[]) (.cons aeu .nil) (by kernel_rfl) (by kernel_rfl)
def qS(w_0:Sl Nat)(links_1:Int):Option Bool:=
 (bif((w_0.l.length:Int)==links_1)then((bF w_0).bind fun r1=>
 some (!r1))else
 (some false):Option Bool).bind fun b2=>
 some b2
def adr:dC:=⟨[(false,.x (.sl (.f .f64))),(false,.x (.i .i64))],[([.x .b],[])],true,[],fun p=>match p with|(w_0,links_1)=>qS w_0 links_1⟩
theorem aes:aN prog 161 adr:=aH mixed (lp:=eg) (aR:=aR) (np:=2) (an:=[(3,{j:=some {vs:=[(4,.x .b)]}})]) (.cons aet .nil) (by kernel_rfl) (by kernel_rfl)
def jH(t_0:ao)(w_1:Sl Nat):Option Bool:=
 ((mB t_0).bind fun r1=>
 bif r1 then((qS w_1 (((ao.aZ t_0).l).length:Int)).bind fun r2=>
 some r2)else
 (some false):Option Bool).bind fun b3=>
 some b3
def adq:dC:=⟨[(false,.x y1),(false,.x (.sl (.f .f64)))],[([.x .b],[])],true,[],fun p=>match p with|(t_0,w_1)=>jH t_0 w_1⟩
theorem W5:aN prog 102 adq:=aH mixed (lp:=eg) (aR:=aR) (np:=2) (an:=[(3,{j:=some {vs:=[(4,.x .b)]}})]) (.cons ok1 (.cons aes .nil)) (by kernel_rfl) (by kernel_rfl)
def uX(sign_0:Int):Option Nat:=
 (bif decide (sign_0>=0)then(some 9218868437227405312)else
 (some 18442240474082181120):Option Int).bind fun i1=>
 (vM i1).bind fun r2=>
 some r2
def adp:dC:=⟨[(false,.x (.i .i64))],[([.x (.f .f64)],[])],true,[],fun p=>match p with|sign_0=>uX sign_0⟩
theorem Z7:aN prog 219 adp:=aH mixed (lp:=eg) (aR:=aR) (np:=1) (an:=[(4,{e:=[(.normal,{vs:=[(3,.x (.i .u64))]})]})]) (.cons Tz .nil) (by kernel_rfl) (by kernel_rfl)
def jG:(Int×Sl Nat)->Option ((Int×Sl Nat)⊕(Sl Nat)):=fun(i7,s8)=>
 bif decide (i7<(s8.l.length:Int))then((nD s8.l i7 s8.l.length).bind fun l9=>
 (nD s8.l 0 i7).bind fun l10=>
 some (.inl (wr .i64 (i7+((min ((s8.to l10).l).length ((s8.to l9).l).length:Nat):Int)),(s8.to (B_ s8.l i7.toNat ((s8.to l9).l).length ((s8.to l10).l))))))else
 (some (.inr s8))
def dN(x_0:Sl Nat)(count_1:Int):Option (Sl Nat):=
 bif decide (count_1<0)then(none)else
 ((iT (wr .u64 (x_0.l.length:Int)) (wr .u64 count_1)).bind fun(r1,r2)=>
 bif((decide (r1>0))||(decide (r2>9223372036854775807)))then(none)else
 ((yT 0 (wr .i64 r2) (wr .i64 r2)).bind fun l3=>
 (aU (jG) (((min x_0.l.length l3.length:Nat):Int),(Sl.mk (B_ l3 0 l3.length x_0.l)))).bind fun s11=>
 some s11))
def ado:dC:=⟨[(false,.x (.sl (.f .f64))),(false,.x (.i .i64))],[([.os (.f .f64)],[])],true,[],fun p=>match p with|(x_0,count_1)=>dN x_0 count_1⟩
theorem aer:aN prog 218 ado:=aH mixed (lp:=eg) (aR:=aR) (np:=2) (an:=[(17,{j:=some {vs:=[(7,.so 0),(8,.x (.i .i64))],os:=[.ar (.f .f64)],kl:=[2]},e:=[(.exit 0,{vs:=[(7,.so 0)],os:=[.ar (.f .f64)],kl:=[2]})]})]) (.cons ok3 .nil) (by kernel_rfl) (by kernel_rfl)
theorem Z6:aN prog 268 (DB true):=KB (by kernel_rfl) (by kernel_rfl)
def zK(x_0:Nat):Option Nat:=
 (vN x_0).bind fun r1=>
 (vM (gu .u64 r1 9223372036854775808)).bind fun r2=>
 some r2
def adn:dC:=⟨[(false,.x (.f .f64))],[([.x (.f .f64)],[])],true,[],fun p=>match p with|x_0=>zK x_0⟩
theorem aeq:aN prog 266 adn:=aH mixed (lp:=eg) (aR:=aR) (np:=1) (an:=[]) (.cons Z6 (.cons Tz .nil)) (by kernel_rfl) (by kernel_rfl)
def ke(f_0:Nat)(sign_1:Int):Option Bool:=
 (bif(sign_1==0)then((zK f_0).bind fun r1=>
 some r1)else
 (bif decide (sign_1<0)then(some (Op.negFloat .f64 f_0))else
 (some f_0)):Option Nat).bind fun f2=>
 some (L5 .f64 f2 9218868437227405311)
def adm:dC:=⟨[(false,.x (.f .f64)),(false,.x (.i .i64))],[([.x .b],[])],true,[],fun p=>match p with|(f_0,sign_1)=>ke f_0 sign_1⟩
theorem Z5:aN prog 226 adm:=aH mixed (lp:=eg) (aR:=aR) (np:=2) (an:=[(2,{e:=[(.normal,{vs:=[(0,.x (.f .f64))]})]})]) (.cons aeq .nil) (by kernel_rfl) (by kernel_rfl)
def rR(x_0:Nat):Option Bool:=
 (vN x_0).bind fun r1=>
 some (decide ((wr .i64 r1)<0))
def adl:dC:=⟨[(false,.x (.f .f64))],[([.x .b],[])],true,[],fun p=>match p with|x_0=>rR x_0⟩
theorem aep:aN prog 332 adl:=aH mixed (lp:=eg) (aR:=aR) (np:=1) (an:=[]) (.cons Z6 .nil) (by kernel_rfl) (by kernel_rfl)
def oZ(x_0:Nat):Option Int:=
 bif(!(IH .f64 x_0 x_0))then(some 0)else
 ((ke x_0 (-1)).bind fun r1=>
 bif r1 then(some 1)else
 ((ke x_0 1).bind fun r2=>
 bif r2 then(some 6)else
 (bif Q_ .f64 x_0 0 then(some 2)else
 (bif L5 .f64 x_0 0 then(some 5)else
 ((rR x_0).bind fun r3=>
 bif r3 then(some 3)else
 (some 4))))))
def adk:dC:=⟨[(false,.x (.f .f64))],[([.x (.i .i64)],[])],true,[],fun p=>match p with|x_0=>oZ x_0⟩
theorem aeo:aN prog 298 adk:=aH mixed (lp:=eg) (aR:=aR) (np:=1) (an:=[]) (.cons Z5 (.cons aep .nil)) (by kernel_rfl) (by kernel_rfl)
def lh(x_0:Nat):Option Int:=
 (oZ x_0).bind fun r1=>
 bif(r1==0)then(some 2)else
 (bif(r1==3)then(some (-1))else
 (some 0))
def adj:dC:=⟨[(false,.x (.f .f64))],[([.x (.i .i64)],[])],true,[],fun p=>match p with|x_0=>lh x_0⟩
theorem aen:aN prog 264 adj:=aH mixed (lp:=eg) (aR:=aR) (np:=1) (an:=[]) (.cons aeo .nil) (by kernel_rfl) (by kernel_rfl)
def lT(a_0:Nat)(b_1:Nat):Option Int:=
 bif Q_ .f64 a_0 b_1 then(some (-1))else
 (bif L5 .f64 a_0 b_1 then(some 1)else
 ((lh a_0).bind fun r1=>
 (lh b_1).bind fun r2=>
 (jE r1 r2).bind fun r3=>
 some r3))
def adi:dC:=⟨[(false,.x (.f .f64)),(false,.x (.f .f64))],[([.x (.i .i64)],[])],true,[],fun p=>match p with|(a_0,b_1)=>lT a_0 b_1⟩
theorem ael:aN prog 222 adi:=aH mixed (lp:=eg) (aR:=aR) (np:=2) (an:=[]) (.cons aen (.cons ok8 .nil)) (by kernel_rfl) (by kernel_rfl)
def gw(a_0:Int)(b_1:Int)(c_2:Sl Nat):Option Int:=
 (cD a_0 c_2.l.length).bind fun n1=>
 (cD b_1 c_2.l.length).bind fun n2=>
 (lT (gt c_2.l n1) (gt c_2.l n2)).bind fun r3=>
 some r3
def adh:dC:=⟨[(false,.x (.i .i64)),(false,.x (.i .i64)),(false,.pt (.sl (.f .f64)))],[([.x (.i .i64)],[])],true,[],fun p=>match p with|(a_0,b_1,c_2)=>gw a_0 b_1 c_2⟩
theorem aek:aN prog 221 adh:=aH mixed (lp:=eg) (aR:=aR) (np:=3) (an:=[]) (.cons ael .nil) (by kernel_rfl) (by kernel_rfl)
def dV(a_1:Int)(cmp_3_c0:Sl Nat):(Int×Sl Int)->Option ((Int×Sl Int)⊕(Sl Int)):=fun(i9,s10)=>
 (bif decide (i9>a_1)then((cD i9 s10.l.length).bind fun n11=>
 (cD (wr .i64 (i9-1)) s10.l.length).bind fun n12=>
 (gw (gt s10.l n11) (gt s10.l n12) cmp_3_c0).bind fun r13=>
 some (decide (r13<0)))else
 (some false):Option Bool).bind fun b14=>
 bif b14 then((cD (wr .i64 (i9-1)) s10.l.length).bind fun n15=>
 (cD i9 s10.l.length).bind fun n16=>
 (cD i9 s10.l.length).bind fun n17=>
 (cD (wr .i64 (i9-1)) (s10.l.set n17 (gt s10.l n15)).length).bind fun n18=>
 some (.inl (wr .i64 (i9-1),(Sl.mk ((s10.l.set n17 (gt s10.l n15)).set n18 (gt s10.l n16))))))else
 (some (.inr s10))
def dU(a_1:Int)(b_2:Int)(cmp_3_c0:Sl Nat):(Int×Sl Int)->Option ((Int×Sl Int)⊕(Sl Int)):=fun(i4,s5)=>
 bif decide (i4<b_2)then((aU (dV a_1 cmp_3_c0) (i4,s5)).bind fun s19=>
 some (.inl (wr .i64 (i4+1),s19)))else
 (some (.inr s5))
def bQ(data_0:Sl Int)(a_1:Int)(b_2:Int)(cmp_3_c0:Sl Nat):Option (Sl Int):=
 (aU (dU a_1 b_2 cmp_3_c0) (wr .i64 (a_1+1),data_0)).bind fun s20=>
 some s20
def adg:dC:=⟨[(true,.os (.i .i64)),(false,.x (.i .i64)),(false,.x (.i .i64)),(false,.fn 221 (.pr (.pt (.sl (.f .f64))) .ni))],[([],[.os (.i .i64)])],true,[true,false,false,false],fun p=>match p with|(data_0,a_1,b_2,cmp_3_c0)=>bQ data_0 a_1 b_2 cmp_3_c0⟩
theorem aej:aN prog 296 adg:=aH mixed (lp:=eg) (aR:=aR) (np:=4) (an:=[(2,{j:=some {vs:=[(0,.so 0),(8,.x (.i .i64))],gs:=(.co (.so 0) .ni),os:=[.ar (.i .i64)],kl:=[0]},e:=[(.exit 0,{gs:=(.co (.so 0) .ni),os:=[.ar (.i .i64)],kl:=[0]})]}),(9,{j:=some {vs:=[(0,.so 0),(9,.x (.i .i64))],gs:=(.co (.so 0) .ni),os:=[.ar (.i .i64)],kl:=[1]},e:=[(.exit 2,{vs:=[(0,.so 0)],gs:=(.co (.so 0) .ni),os:=[.ar (.i .i64)],kl:=[1]})]}),(12,{j:=some {vs:=[(34,.x .b)]}})]) (.cons aek .nil) (by kernel_rfl) (by kernel_rfl)
def cQ(n_1:Int)(cmp_2_c0:Sl Nat):(Int×Int×Sl Int)->Option ((Int×Int×Sl Int)⊕(Int×Sl Int)):=fun(i6,i7,s8)=>
 bif decide (i7<=n_1)then((bQ s8 i6 i7 cmp_2_c0).bind fun s9=>
 (my s9 s8).bind fun _=>
 some (.inl (i7,wr .i64 (i7+20),s9)))else
 (some (.inr (i6,s8)))
def gI(n_1:Int):(Int×Int)->Option ((Int×Int)⊕Int):=fun(i17,i18)=>
 bif decide (i18<=n_1)then(none)else
 (some (.inr i17))
def cP(n_1:Int):Int->Option (Int⊕Unit):=fun i14=>
 bif decide (i14<n_1)then((aU (gI n_1) (0,wr .i64 (2*i14))).bind fun i19=>
 bif decide ((wr .i64 (i19+i14))<n_1)then(none)else
 (some (.inl (wr .i64 (i14*2)))))else
 (some (.inr ()))
def c_(data_0:Sl Int)(n_1:Int)(cmp_2_c0:Sl Nat):Option (Sl Int):=
 (aU (cQ n_1 cmp_2_c0) (0,20,data_0)).bind fun(i10,s11)=>
 (bQ s11 i10 n_1 cmp_2_c0).bind fun s12=>
 (my s12 s11).bind fun _=>
 (aU (cP n_1) 20).bind fun _=>
 some s12
def adf:dC:=⟨[(true,.os (.i .i64)),(false,.x (.i .i64)),(false,.fn 221 (.pr (.pt (.sl (.f .f64))) .ni))],[([],[.os (.i .i64)])],true,[true,false,false],fun p=>match p with|(data_0,n_1,cmp_2_c0)=>c_ data_0 n_1 cmp_2_c0⟩
theorem aei:aN prog 263 adf:=aH mixed (lp:=eg) (aR:=aR) (np:=3) (an:=[(5,{j:=some {vs:=[(0,.so 0),(7,.x (.i .i64)),(8,.x (.i .i64))],gs:=(.co (.so 0) .ni),os:=[.ar (.i .i64)],kl:=[0]},e:=[(.exit 0,{vs:=[(0,.so 0),(7,.x (.i .i64))],gs:=(.co (.so 0) .ni),os:=[.ar (.i .i64)],kl:=[0]})]}),(16,{j:=some {vs:=[(6,.x (.i .i64))]},e:=[(.exit 2,{})]}),(23,{j:=some {vs:=[(7,.x (.i .i64)),(8,.x (.i .i64))]},e:=[(.exit 4,{vs:=[(7,.x (.i .i64))]})]})]) (.cons aej .nil) (by kernel_rfl) (by kernel_rfl)
def bZ(x_0:Sl Int)(cmp_1_c0:Sl Nat):Option (Sl Int):=
 (c_ x_0 (x_0.l.length:Int) cmp_1_c0).bind fun s1=>
 (my s1 x_0).bind fun _=>
 some s1
def ade:dC:=⟨[(true,.os (.i .i64)),(false,.fn 221 (.pr (.pt (.sl (.f .f64))) .ni))],[([],[.os (.i .i64)])],true,[true,false],fun p=>match p with|(x_0,cmp_1_c0)=>bZ x_0 cmp_1_c0⟩
theorem aeh:aN prog 220 ade:=aH mixed (lp:=eg) (aR:=aR) (np:=2) (an:=[]) (.cons aei .nil) (by kernel_rfl) (by kernel_rfl)
def qB(a_0:Nat)(b_1:Nat):Option Nat:=
 (ra (Ge .f64 a_0 b_1)).bind fun r1=>
 bif IH .f64 r1 0 then(some 0)else
 (some r1)
def adc:dC:=⟨[(false,.x (.f .f64)),(false,.x (.f .f64))],[([.x (.f .f64)],[])],true,[],fun p=>match p with|(a_0,b_1)=>qB a_0 b_1⟩
theorem Z4:aN prog 223 adc:=aH mixed (lp:=eg) (aR:=aR) (np:=2) (an:=[]) (.cons Z8 .nil) (by kernel_rfl) (by kernel_rfl)
def kF(l5:List Int):(Int×Sl Int)->Option ((Int×Sl Int)⊕(Sl Int)):=fun(i9,s10)=>
 bif decide (i9<(l5.length:Int))then((cD i9 s10.l.length).bind fun n11=>
 some (.inl (wr .i64 (i9+1),(Sl.mk (s10.l.set n11 i9)))))else
 (some (.inr s10))
def kE(w_1:Sl Nat)(n19:Nat)(s18:Sl Int)(r21:Sl aD):(Int×Sl Nat)->Option ((Int×Sl Nat)⊕(Sl Nat)):=fun(i25,s26)=>
 bif decide (i25<(r21.l.length:Int))then((cD i25 r21.l.length).bind fun n27=>
 (cD (aD.To (gt r21.l n27)) s26.l.length).bind fun n28=>
 (cD (aD.qH (gt r21.l n27)) w_1.l.length).bind fun n29=>
 (cD (gt s18.l n19) s26.l.length).bind fun n30=>
 (qB (gt w_1.l n29) (gt s26.l n30)).bind fun r31=>
 (cD (aD.To (gt r21.l n27)) s26.l.length).bind fun n32=>
 some (.inl (wr .i64 (i25+1),(Sl.mk (s26.l.set n32 (A2 .f64 (gt s26.l n28) r31))))))else
 (some (.inr s26))
def kD(t_0:ao)(w_1:Sl Nat):(Sl Int×Sl Nat)->Option ((Sl Int×Sl Nat)⊕(Sl Nat)):=fun(s16,s17)=>
 bif decide ((s16.l.length:Int)>0)then((bZ s16 s17).bind fun s18=>
 (my s18 s16).bind fun _=>
 (cD 0 s18.l.length).bind fun n19=>
 (nD s18.l 1 s18.l.length).bind fun l20=>
 (mW t_0 (gt s18.l n19)).bind fun r21=>
 (aU (kE w_1 n19 s18 r21) (0,s17)).bind fun s33=>
 some (.inl ((s18.to l20),s33)))else
 (some (.inr s17))
def jI(t_0:ao)(w_1:Sl Nat)(sw_2:Int):Option (Sl Nat):=
 (jH t_0 w_1).bind fun r1=>
 bif(((!r1)||(decide (sw_2<0)))||(decide (sw_2>=(ao.au t_0))))then(some Sl.nil)else
 ((uX 1).bind fun r2=>
 (dN (Sl.mk [r2]) (ao.au t_0)).bind fun s3=>
 (cD sw_2 s3.l.length).bind fun n4=>
 (yT 0 (ao.au t_0) (ao.au t_0)).bind fun l5=>
 (aU (kF l5) (0,(Sl.mk l5))).bind fun s12=>
 (aU (kD t_0 w_1) (s12,(Sl.mk (s3.l.set n4 0)))).bind fun s34=>
 some s34)
def adb:dC:=⟨[(false,.x y1),(false,.x (.sl (.f .f64))),(false,.x (.i .i64))],[([.x (.sl (.f .f64))],[])],false,[],fun p=>match p with|(t_0,w_1,sw_2)=>jI t_0 w_1 sw_2⟩
theorem Z3:aN prog 162 adb:=aH mixed (lp:=eg) (aR:=aR) (np:=3) (an:=[(16,{j:=some {vs:=[(8,.so 0),(40,.x (.i .i64))],os:=[.ar (.i .i64)],kl:=[7000002]},e:=[(.exit 0,{vs:=[(8,.so 0)],os:=[.ar (.i .i64)],kl:=[7000002]})]}),(26,{j:=some {vs:=[(7,.op 0 (.sl (.f .f64)) []),(8,.so 1)],os:=[.bx (.sl (.f .f64)) (.so 2),.ar (.i .i64),.ar (.f .f64)],kl:=[4000002,5000002,7000003]},e:=[(.exit 2,{vs:=[(7,.op 0 (.sl (.f .f64)) [])],os:=[.bx (.sl (.f .f64)) (.so 1),.ar (.f .f64)],kl:=[4000002,5000002,7000003]})]}),(38,{j:=some {vs:=[(7,.op 0 (.sl (.f .f64)) []),(63,.x (.i .i64))],os:=[.bx (.sl (.f .f64)) (.so 1),.ar (.f .f64)],kl:=[7000004,7000006]},e:=[(.exit 4,{vs:=[(7,.op 0 (.sl (.f .f64)) [])],os:=[.bx (.sl (.f .f64)) (.so 1),.ar (.f .f64)],kl:=[7000004,7000006]})]})]) (.cons W5 (.cons Z7 (.cons aer (.cons aeh (.cons W7 (.cons Z4 .nil)))))) (by kernel_rfl) (by kernel_rfl)
def wE(w_0:Sl Nat)(link_1:Int):Option Bool:=
 (bif((decide (link_1>=0))&&(decide (link_1<(w_0.l.length:Int))))then((cD link_1 w_0.l.length).bind fun n1=>
 (uX 1).bind fun r2=>
 some (Q_ .f64 (gt w_0.l n1) r2))else
 (some false):Option Bool).bind fun b3=>
 some b3
def ada:dC:=⟨[(false,.x (.sl (.f .f64))),(false,.x (.i .i64))],[([.x .b],[])],true,[],fun p=>match p with|(w_0,link_1)=>wE w_0 link_1⟩
theorem aeg:aN prog 227 ada:=aH mixed (lp:=eg) (aR:=aR) (np:=2) (an:=[(3,{j:=some {vs:=[(4,.x .b)]}})]) (.cons Z7 .nil) (by kernel_rfl) (by kernel_rfl)
def mC(w_1:Sl Nat)(costs_2:Sl Nat)(at_3:Int)(r3:Sl aD):(Int×Sl aD)->Option ((Int×Sl aD)⊕(Sl aD)):=fun(i7,s8)=>
 bif decide (i7<(r3.l.length:Int))then(((cD i7 r3.l.length).bind fun n9=>
 ((wE w_1 (aD.qH (gt r3.l n9))).bind fun r10=>
 bif r10 then((cD (aD.qH (gt r3.l n9)) w_1.l.length).bind fun n11=>
 (cD (aD.To (gt r3.l n9)) costs_2.l.length).bind fun n12=>
 (qB (gt w_1.l n11) (gt costs_2.l n12)).bind fun r13=>
 (cD at_3 costs_2.l.length).bind fun n14=>
 some (IH .f64 r13 (gt costs_2.l n14)))else
 (some false):Option Bool).bind fun b15=>
 bif b15 then((ic (s8.l++[gt r3.l n9])).bind fun l16=>
 some (Sl.mk l16))else
 (some s8):Option (Sl aD)).bind fun s17=>
 some (.inl (wr .i64 (i7+1),s17)))else
 (some (.inr s8))
def mD(t_0:ao)(w_1:Sl Nat)(costs_2:Sl Nat)(at_3:Int):Option (Sl aD):=
 (cD at_3 costs_2.l.length).bind fun n1=>
 (ke (gt costs_2.l n1) 1).bind fun r2=>
 bif r2 then(some Sl.nil)else
 ((mW t_0 at_3).bind fun r3=>
 (aU (mC w_1 costs_2 at_3 r3) (0,Sl.nil)).bind fun s18=>
 some s18)
def ac_:dC:=⟨[(false,.x y1),(false,.x (.sl (.f .f64))),(false,.x (.sl (.f .f64))),(false,.x (.i .i64))],[([.x (.sl y3)],[])],false,[],fun p=>match p with|(t_0,w_1,costs_2,at_3)=>mD t_0 w_1 costs_2 at_3⟩
theorem Z2:aN prog 164 ac_:=aH mixed (lp:=eg) (aR:=aR) (np:=4) (an:=[(12,{j:=some {vs:=[(9,.so 0),(21,.x (.i .i64))],os:=[.ar y3]},e:=[(.exit 0,{vs:=[(9,.so 0)],os:=[.ar y3]})]}),(16,{e:=[(.normal,{vs:=[(9,.so 0)],os:=[.ar y3],kl:=[3]})]}),(20,{j:=some {vs:=[(46,.x .b)]}})]) (.cons Z5 (.cons W7 (.cons aeg (.cons Z4 .nil)))) (by kernel_rfl) (by kernel_rfl)
def uk(s_0:aD)(c_1:Sl Int)(c_2:Int):Option Bool:=
 (cD (aD.To s_0) c_1.l.length).bind fun n1=>
 some ((gt c_1.l n1)==c_2)
def ac9:dC:=⟨[(false,.x y3),(false,.pt (.sl (.i .i64))),(false,.pt (.i .i64))],[([.x .b],[])],true,[],fun p=>match p with|(s_0,c_1,c_2)=>uk s_0 c_1 c_2⟩
theorem aef:aN prog 225 ac9:=aH mixed (lp:=eg) (aR:=aR) (np:=3) (an:=[]) .nil (by kernel_rfl) (by kernel_rfl)
def bO(s_0:Sl aD)(f_1_c0:Sl Int)(f_1_c1:Int):Int->Option (Int⊕(Int⊕Unit)):=fun i2=>
 bif decide (i2<(s_0.l.length:Int))then((cD i2 s_0.l.length).bind fun n3=>
 (uk (gt s_0.l n3) f_1_c0 f_1_c1).bind fun r4=>
 bif r4 then(some (.inr (.inl i2)))else
 (some (.inl (wr .i64 (i2+1)))))else
 (some (.inr (.inr ())))
def bW(s_0:Sl aD)(f_1_c0:Sl Int)(f_1_c1:Int):Option Int:=
 (aU (bO s_0 f_1_c0 f_1_c1) 0).bind fun
 |.inl i5=>(some i5)
 |.inr _=>(some (-1))
def ac8:dC:=⟨[(false,.x (.sl y3)),(false,.fn 225 (.pr (.pt (.sl (.i .i64))) (.pr (.pt (.i .i64)) .ni)))],[([.x (.i .i64)],[])],true,[],fun p=>match p with|(s_0,f_1_c0,f_1_c1)=>bW s_0 f_1_c0 f_1_c1⟩
theorem aee:aN prog 265 ac8:=aH mixed (lp:=eg) (aR:=aR) (np:=2) (an:=[(5,{j:=some {vs:=[(8,.x (.i .i64))]},e:=[(.ret,{vs:=[(4,.x (.i .i64))]}),(.exit 0,{})]})]) (.cons aef .nil) (by kernel_rfl) (by kernel_rfl)
def br(s_0:Sl aD)(f_1_c0:Sl Int)(f_1_c1:Int):Option Bool:=
 (bW s_0 f_1_c0 f_1_c1).bind fun r1=>
 some (decide (r1>=0))
def ac7:dC:=⟨[(false,.x (.sl y3)),(false,.fn 225 (.pr (.pt (.sl (.i .i64))) (.pr (.pt (.i .i64)) .ni)))],[([.x .b],[])],true,[],fun p=>match p with|(s_0,f_1_c0,f_1_c1)=>br s_0 f_1_c0 f_1_c1⟩
theorem aed:aN prog 224 ac7:=aH mixed (lp:=eg) (aR:=aR) (np:=2) (an:=[]) (.cons aee .nil) (by kernel_rfl) (by kernel_rfl)
def jc(t_0:ao)(w_1:Sl Nat)(r1:Sl Nat)(i7:Int)(s8:Sl Int):(Int×Sl Int)->Option ((Int×Sl Int)⊕(Sl Int)):=fun(i13,s14)=>
 bif decide (i13<(s8.l.length:Int))then((((cD i13 s14.l.length).bind fun n15=>
 bif decide ((gt s14.l n15)<0)then((mD t_0 w_1 r1 i13).bind fun r16=>
 (br r16 s14 i7).bind fun r17=>
 some r17)else
 (some false):Option Bool).bind fun b18=>
 bif b18 then((cD i13 s14.l.length).bind fun n19=>
 some (Sl.mk (s14.l.set n19 (wr .i64 (i7+1)))))else
 (some s14):Option (Sl Int)).bind fun s20=>
 some (.inl (wr .i64 (i13+1),s20)))else
 (some (.inr s14))
def h_(t_0:ao)(w_1:Sl Nat)(r1:Sl Nat):(Int×Sl Int)->Option ((Int×Sl Int)⊕(Sl Int)):=fun(i7,s8)=>
 (bJ s8 i7).bind fun r9=>
 bif r9 then((aU (jc t_0 w_1 r1 i7 s8) (0,s8)).bind fun s21=>
 some (.inl (wr .i64 (i7+1),s21)))else
 (some (.inr s8))
def oU(t_0:ao)(w_1:Sl Nat)(sw_2:Int):Option (Sl Int):=
 (jI t_0 w_1 sw_2).bind fun r1=>
 bif r1.nw then(some Sl.nil)else
 ((dK (Sl.mk [(-1)]) (ao.au t_0)).bind fun s2=>
 (cD sw_2 s2.l.length).bind fun n3=>
 (aU (h_ t_0 w_1 r1) (0,(Sl.mk (s2.l.set n3 0)))).bind fun s22=>
 some s22)
def ac6:dC:=⟨[(false,.x y1),(false,.x (.sl (.f .f64))),(false,.x (.i .i64))],[([.x (.sl (.i .i64))],[])],false,[],fun p=>match p with|(t_0,w_1,sw_2)=>oU t_0 w_1 sw_2⟩
theorem aec:aN prog 163 ac6:=aH mixed (lp:=eg) (aR:=aR) (np:=3) (an:=[(16,{j:=some {vs:=[(8,.op 0 (.sl (.i .i64)) []),(9,.op 1 (.i .i64) [])],os:=[.bx (.sl (.i .i64)) (.so 2),.bx (.i .i64) (.x (.i .i64)),.ar (.i .i64)],kl:=[3,4,5]},e:=[(.exit 0,{vs:=[(8,.op 0 (.sl (.i .i64)) [])],os:=[.bx (.sl (.i .i64)) (.so 1),.ar (.i .i64)],kl:=[3,4,5]})]}),(23,{j:=some {vs:=[(8,.op 0 (.sl (.i .i64)) []),(31,.x (.i .i64))],os:=[.bx (.sl (.i .i64)) (.so 1),.ar (.i .i64)],kl:=[6,8]},e:=[(.exit 2,{vs:=[(8,.op 0 (.sl (.i .i64)) [])],os:=[.bx (.sl (.i .i64)) (.so 1),.ar (.i .i64)],kl:=[6,8]})]}),(27,{e:=[(.normal,{vs:=[(8,.op 0 (.sl (.i .i64)) [])],os:=[.bx (.sl (.i .i64)) (.so 1),.ar (.i .i64)],kl:=[10,11]})]}),(31,{j:=some {vs:=[(47,.x .b)]}})]) (.cons Z3 (.cons ok4 (.cons Nw (.cons Z2 (.cons aed .nil))))) (by kernel_rfl) (by kernel_rfl)
def iS(r4:Sl Int)(i9:Int)(r11:Sl aD):(Int×Sl Int)->Option ((Int×Sl Int)⊕(Sl Int)):=fun(i15,s16)=>
 bif decide (i15<(r11.l.length:Int))then((cD i15 r11.l.length).bind fun n17=>
 (cD (aD.To (gt r11.l n17)) r4.l.length).bind fun n18=>
 (cD i9 r4.l.length).bind fun n19=>
 bif((gt r4.l n18)==(wr .i64 ((gt r4.l n19)-1)))then((cD i9 s16.l.length).bind fun n20=>
 some (.inr (Sl.mk (s16.l.set n20 (aD.gi (gt r11.l n17))))))else
 (some (.inl (wr .i64 (i15+1),s16))))else
 (some (.inr s16))
def j7(t_0:ao)(w_1:Sl Nat)(r3:Sl Nat)(r4:Sl Int)(s5:Sl Int):(Int×Sl Int)->Option ((Int×Sl Int)⊕(Sl Int)):=fun(i9,s10)=>
 bif decide (i9<(s5.l.length:Int))then((mD t_0 w_1 r3 i9).bind fun r11=>
 (aU (iS r4 i9 r11) (0,s10)).bind fun s21=>
 some (.inl (wr .i64 (i9+1),s21)))else
 (some (.inr s10))
def qf(t_0:ao)(w_1:Sl Nat)(h_2:Int):Option (Sl Int×Int):=
 (jH t_0 w_1).bind fun r1=>
 bif(!r1)then(some (Sl.nil,2))else
 (bif((decide (h_2<0))||(decide (h_2>=(((ao.bn t_0).l).length:Int))))then(some (Sl.nil,7))else
 ((cD h_2 ((ao.bn t_0).l).length).bind fun n2=>
 (jI t_0 w_1 (fR.At (gt ((ao.bn t_0).l) n2))).bind fun r3=>
 (oU t_0 w_1 (fR.At (gt ((ao.bn t_0).l) n2))).bind fun r4=>
 (dK (Sl.mk [(-1)]) (ao.au t_0)).bind fun s5=>
 (aU (j7 t_0 w_1 r3 r4 s5) (0,s5)).bind fun s22=>
 (cD h_2 ((ao.bn t_0).l).length).bind fun n23=>
 (cD (fR.At (gt ((ao.bn t_0).l) n2)) s22.l.length).bind fun n24=>
 some ((Sl.mk (s22.l.set n24 (fR.gi (gt ((ao.bn t_0).l) n23)))),0)))
def ac5:dC:=⟨[(false,.x y1),(false,.x (.sl (.f .f64))),(false,.x (.i .i64))],[([.x (.sl (.i .i64)),.x (.i .i64)],[])],false,[],fun p=>match p with|(t_0,w_1,h_2)=>qf t_0 w_1 h_2⟩
theorem aeb:aN prog 103 ac5:=aH mixed (lp:=eg) (aR:=aR) (np:=3) (an:=[(20,{j:=some {vs:=[(11,.so 0),(50,.x (.i .i64))],os:=[.ar (.i .i64)],kl:=[10000003]},e:=[(.exit 1,{vs:=[(11,.so 0)],os:=[.ar (.i .i64)],kl:=[10000003]})]}),(29,{j:=some {vs:=[(11,.so 0),(59,.x (.i .i64))],os:=[.ar (.i .i64)],kl:=[10000004]},e:=[(.exit 3,{vs:=[(11,.so 0)],os:=[.ar (.i .i64)],kl:=[10000004]})]})]) (.cons W5 (.cons Z3 (.cons aec (.cons ok4 (.cons Z2 .nil))))) (by kernel_rfl) (by kernel_rfl)
def jC(r8:Sl Int):(Int×Sl (Sl Int))->Option ((Int×Sl (Sl Int))⊕(Sl (Sl Int))):=fun(i14,s15)=>
 bif decide (i14<(r8.l.length:Int))then((cD i14 r8.l.length).bind fun n16=>
 (cD i14 s15.l.length).bind fun n17=>
 (ic (((gt s15.l n17).l)++[gt r8.l n16])).bind fun l18=>
 (cD i14 s15.l.length).bind fun n19=>
 bif Nat.beq n17 n19 then(some (.inl (wr .i64 (i14+1),(Sl.mk (s15.l.set n19 (Sl.mk l18))))))else(none))else
 (some (.inr s15))
def fF(t_0:ao)(w_1:Sl Nat):(Int×Sl (Sl Int))->Option ((Int×Sl (Sl Int))⊕(Int⊕(Sl (Sl Int)))):=fun(i6,s7)=>
 bif decide (i6<(((ao.bn t_0).l).length:Int))then((qf t_0 w_1 i6).bind fun(r8,_)=>
 (bJ r8 (-1)).bind fun r10=>
 bif r10 then(some (.inr (.inl 7)))else
 ((aU (jC r8) (0,s7)).bind fun s20=>
 some (.inl (wr .i64 (i6+1),s20))))else
 (some (.inr (.inr s7)))
def iK(t_0:ao)(w_1:Sl Nat):Option (Sl (Sl Int)×Int):=
 (jH t_0 w_1).bind fun r1=>
 bif(!r1)then(some (Sl.nil,2))else
 ((yT (Sl.nil:Sl Int) (ao.au t_0) (ao.au t_0)).bind fun l2=>
 (aU (fF t_0 w_1) (0,(Sl.mk l2))).bind fun
 |.inl i21=>(some (Sl.nil,i21))
 |.inr s22=>(some (s22,0)))
def ac4:dC:=⟨[(false,.x y1),(false,.x (.sl (.f .f64)))],[([.x (.sl (.sl (.i .i64))),.x (.i .i64)],[])],false,[],fun p=>match p with|(t_0,w_1)=>iK t_0 w_1⟩
theorem aea:aN prog 52 ac4:=aH mixed (lp:=eg) (aR:=adM) (np:=2) (an:=[(12,{j:=some {vs:=[(6,.sr 0),(22,.x (.i .i64))],os:=[.rw (.i .i64)],kl:=[2]},e:=[(.ret,{vs:=[(4,.nl 0),(5,.x (.i .i64))],kl:=[2]}),(.exit 0,{vs:=[(6,.sr 0)],os:=[.rw (.i .i64)],kl:=[2]})]}),(28,{j:=some {vs:=[(6,.sr 0),(36,.x (.i .i64))],os:=[.rw (.i .i64)],kl:=[3]},e:=[(.exit 2,{vs:=[(6,.sr 0)],os:=[.rw (.i .i64)],kl:=[3]})]})]) (.cons W5 (.cons aeb (.cons Nw .nil))) (by kernel_rfl) (by kernel_rfl)
def rZ(c_0:ai):(Int×Sl (Sl (Sl Int)))->Option ((Int×Sl (Sl (Sl Int)))⊕(Int⊕(Sl (Sl (Sl Int))))):=fun(i16,s17)=>
 bif decide (i16<(((ai.eo c_0).l).length:Int))then((cD i16 ((ai.eo c_0).l).length).bind fun n18=>
 (uG (gt ((ai.eo c_0).l) n18)).bind fun r19=>
 (iK (ai.T c_0) r19).bind fun(r20,r21)=>
 bif(r21 !=0)then(some (.inr (.inl 2)))else
 ((ic (s17.l++[r20])).bind fun l22=>
 some (.inl (wr .i64 (i16+1),(Sl.mk l22)))))else
 (some (.inr (.inr s17)))
def sB(c_0:ai):Option (Sl (Sl (Sl Int))×Int):=
 ((mB (ai.T c_0)).bind fun r1=>
 bif r1 then((qe (ai.T c_0)).bind fun r2=>
 some (((r2&&(decide ((((ai.eo c_0).l).length:Int)>=1)))&&(decide ((((ai.eo c_0).l).length:Int)<=16)))&&((((ai.vY c_0).l).length:Int)==(ao.au (ai.T c_0)))))else
 (some false):Option Bool).bind fun b3=>
 (bif b3 then((mL (ai.R9 c_0) 0 500).bind fun r4=>
 bif r4 then((mL (ai.KX c_0) (((ao.bn (ai.T c_0)).l).length:Int) 64).bind fun r5=>
 bif r5 then((mL (ai.uD c_0) 0 65536).bind fun r6=>
 bif r6 then((mL (ai.xW c_0) 0 65536).bind fun r7=>
 bif r7 then((mL (ai.KZ c_0) 0 65536).bind fun r8=>
 bif r8 then((mL (ai.R8 c_0) 1 65536).bind fun r9=>
 some r9)else
 (some false))else
 (some false))else
 (some false))else
 (some false))else
 (some false))else
 (some false):Option Bool).bind fun b10=>
 (bif(!b10)then(some true)else
 ((cF (ai.vY c_0)).bind fun r11=>
 some r11):Option Bool).bind fun b12=>
 bif b12 then(some (Sl.nil,2))else
 ((aU (rZ c_0) (0,Sl.nil)).bind fun
 |.inl i23=>(some (Sl.nil,i23))
 |.inr s24=>(some (s24,0)))
def ac3:dC:=⟨[(false,.x y4)],[([.x (.sl (.sl (.sl (.i .i64)))),.x (.i .i64)],[])],false,[],fun p=>match p with|c_0=>sB c_0⟩
theorem ad_:aN prog 22 ac3:=aH mixed (lp:=eg) (aR:=aR) (np:=1) (an:=[(3,{j:=some {vs:=[(4,.x .b)]}}),(5,{j:=some {vs:=[(4,.x .b)]}}),(8,{j:=some {vs:=[(80,.x .b)]}}),(16,{j:=some {vs:=[(5,.so 0),(84,.x (.i .i64))],os:=[.ar (.sl (.sl (.i .i64)))]},e:=[(.ret,{vs:=[(2,.nl 0),(3,.x (.i .i64))]}),(.exit 0,{vs:=[(5,.so 0)],os:=[.ar (.sl (.sl (.i .i64)))]})]})]) (.cons ok1 (.cons aeC (.cons W6 (.cons aez (.cons aex (.cons aea .nil)))))) (by kernel_rfl) (by kernel_rfl)
def vU:(Int×Int×am×Int×Int×Int×Int×Int×Arr 8 ak×Arr 8 Int×Mp Int aa×Sl aa×Sl ax)->Option ((Int×Int×am×Int×Int×Int×Int×Int×Arr 8 ak×Arr 8 Int×Mp Int aa×Sl aa×Sl ax)⊕(Int×am×Int×Int×Int×Int×Int×Arr 8 ak×Arr 8 Int×Mp Int aa×Sl aa×Sl ax)):=fun(i15,i16,x17,i18,i19,i20,i21,i22,v23,v24,m25,s26,s27)=>
 bif decide (i15<8)then((cD i15 8).bind fun n28=>
 some (.inl (wr .i64 (i15+1),i16,x17,i18,i19,i20,i21,i22,v23,Arr.set v24 n28 (-1),m25,s26,s27)))else
 (some (.inr (i16,x17,i18,i19,i20,i21,i22,v23,v24,m25,s26,s27)))
def o9:Option (Int×am×Int×Mp Int aa×Int×Int×Int×Int×Arr 8 ak×Arr 8 Int×Sl aa×Sl ax):=
 (aU (vU) (0,0,(⟨Sl.nil,Sl.nil,0,0,0,0⟩:am),0,0,(-1),0,(-1),(pV (.ar 8 y5)),(pV (.ar 8 (.i .i64))),(Mp.none:Mp Int aa),Sl.nil,Sl.nil)).bind fun(i29,x30,i31,i32,i33,i34,i35,v36,v37,m38,s39,s40)=>
 some (i29,x30,i31,m38,i32,i33,i34,i35,v36,v37,s39,s40)
def ac2:dC:=⟨[],[([.st (.pr (.x (.i .i64)) (.pr (.x y7) (.pr (.x (.i .i64)) (.pr (.mp (.i .i64) i_) (.pr (.x (.i .i64)) (.pr (.x (.i .i64)) (.pr (.x (.i .i64)) (.pr (.x (.i .i64)) (.pr (.x (.ar 8 y5)) (.pr (.x (.ar 8 (.i .i64))) (.pr (.os i_) (.pr (.os y2) .ni))))))))))))],[])],false,[],fun p=>match p with|_=>o9⟩
theorem Z1:aN prog 31 ac2:=aH mixed (lp:=eg) (aR:=aR) (np:=0) (an:=[(7,{j:=some {vs:=[(1,.op 0 y6 []),(5,.x (.i .i64))],os:=[.bx y6 (.rc (.co (.x (.i .i64)) (.co (.x y7) (.co (.x (.i .i64)) (.co (.om 1) (.co (.x (.i .i64)) (.co (.x (.i .i64)) (.co (.x (.i .i64)) (.co (.x (.i .i64)) (.co (.x (.ar 8 y5)) (.co (.x (.ar 8 (.i .i64))) (.co (.so 2) (.co (.so 3) .ni))))))))))))),.mp (.i .i64) i_,.ar i_,.ar y2],kl:=[1,2]},e:=[(.exit 0,{vs:=[(1,.op 0 y6 [])],os:=[.bx y6 (.rc (.co (.x (.i .i64)) (.co (.x y7) (.co (.x (.i .i64)) (.co (.om 1) (.co (.x (.i .i64)) (.co (.x (.i .i64)) (.co (.x (.i .i64)) (.co (.x (.i .i64)) (.co (.x (.ar 8 y5)) (.co (.x (.ar 8 (.i .i64))) (.co (.so 2) (.co (.so 3) .ni))))))))))))),.mp (.i .i64) i_,.ar i_,.ar y2],kl:=[1,2]})]})]) .nil (by kernel_rfl) (by kernel_rfl)
def rX(c_0:ai):Option (Int⊕(ai×Sl (Sl (Sl Int))×Sl aj×af×Int×am×Int×Mp Int aa×Int×Int×Int×Int×Arr 8 ak×Arr 8 Int×Sl aa×Sl ax×Int)):=
 (sB c_0).bind fun(r1,r2)=>
 bif(r2 !=0)then(some (.inl r2))else
 ((o9).bind fun(r3,r4,r5,r6,r7,r8,r9,r10,r11,r12,s13,s14)=>
 some (.inr (c_0,r1,Sl.nil,(⟨0,0,false,0,0,0,false,false,0⟩:af),r3,r4,r5,r6,r7,r8,r9,r10,r11,r12,s13,s14,0)))
def ac1:dC:=⟨[(false,.x y4)],[([.nl 1,.x (.i .i64)],[]),([h0,.x (.i .i64)],[])],false,[],fun p=>match p with|c_0=>rX c_0⟩
theorem Z0:aN prog 7 ac1:=aH mixed (lp:=eg) (aR:=aR) (np:=1) (an:=[]) (.cons ad_ (.cons Z1 .nil)) (by kernel_rfl) (by kernel_rfl)
def w4(c_0:ai):Int->Option (Int⊕(Bool⊕Unit)):=fun i2=>
 bif decide (i2<(((ai.eo c_0).l).length:Int))then((cD i2 ((ai.eo c_0).l).length).bind fun n3=>
 bif decide ((((gt ((ai.eo c_0).l) n3).l).length:Int)>30)then(some (.inr (.inl false)))else
 (some (.inl (wr .i64 (i2+1)))))else
 (some (.inr (.inr ())))
def wZ(l_1:Sl ba)(i6:Int):Int->Option (Int⊕(Bool⊕Unit)):=fun i12=>
 (cD i6 l_1.l.length).bind fun n13=>
 bif decide (i12<(((aa.nq (ba.M (gt l_1.l n13))).l).length:Int))then((cD i6 l_1.l.length).bind fun n14=>
 (cD i12 ((aa.nq (ba.M (gt l_1.l n14))).l).length).bind fun n15=>
 bif decide ((((cX.GK (bl.R (gt ((aa.nq (ba.M (gt l_1.l n14))).l) n15))).l).length:Int)>16)then(some (.inr (.inl false)))else
 (some (.inl (wr .i64 (i12+1)))))else
 (some (.inr (.inr ())))
def wY(l_1:Sl ba):Int->Option (Int⊕(Bool⊕Unit)):=fun i6=>
 bif decide (i6<(l_1.l.length:Int))then((bif decide (i6>79)then(some true)else
 ((cD i6 l_1.l.length).bind fun n7=>
 bif decide ((ba.pk (gt l_1.l n7))<0)then(some true)else
 ((cD i6 l_1.l.length).bind fun n8=>
 bif decide ((ba.pk (gt l_1.l n8))>1099511627776)then(some true)else
 ((cD i6 l_1.l.length).bind fun n9=>
 some (decide ((((aa.nq (ba.M (gt l_1.l n9))).l).length:Int)>20))))):Option Bool).bind fun b10=>
 bif b10 then(some (.inr (.inl false)))else
 ((aU (wZ l_1 i6) 0).bind fun
 |.inl b16=>(some (.inr (.inl b16)))
 |.inr _=>(some (.inl (wr .i64 (i6+1))))))else
 (some (.inr (.inr ())))
def qZ(c_0:ai)(l_1:Sl ba):Option Bool:=
 (aU (w4 c_0) 0).bind fun
 |.inl b4=>(some b4)
 |.inr _=>((aU (wY l_1) 0).bind fun
 |.inl b17=>(some b17)
 |.inr _=>(some ((((decide ((((ao.aZ (ai.T c_0)).l).length:Int)<=30))&&(decide ((((ao.bn (ai.T c_0)).l).length:Int)<=12)))&&(decide ((((ai.eo c_0).l).length:Int)<=6)))&&(decide ((((ai.vY c_0).l).length:Int)<=12)))))
def ac0:dC:=⟨[(false,.x y4),(false,.x (.sl y16))],[([.x .b],[])],true,[],fun p=>match p with|(c_0,l_1)=>qZ c_0 l_1⟩
theorem ad9:aN prog 8 ac0:=aH mixed (lp:=eg) (aR:=aR) (np:=2) (an:=[(5,{j:=some {vs:=[(5,.x (.i .i64))]},e:=[(.ret,{vs:=[(4,.x .b)]}),(.exit 0,{})]}),(18,{j:=some {vs:=[(6,.x (.i .i64))]},e:=[(.ret,{vs:=[(4,.x .b)]}),(.exit 2,{})]}),(25,{j:=some {vs:=[(55,.x .b)]}}),(30,{j:=some {vs:=[(7,.x (.i .i64))]},e:=[(.ret,{vs:=[(4,.x .b)]}),(.exit 4,{})]})]) .nil (by kernel_rfl) (by kernel_rfl)
def Dk:Option ao:=some (⟨3,(Sl.mk [(⟨0,0,1,0,1,2⟩:a8),(⟨1,1,2,0,1,2⟩:a8),(⟨0,1,2,1,1,2⟩:a8)]),(Sl.mk [(⟨2,7⟩:fR),(⟨0,7⟩:fR)])⟩:ao)
def acZ:dC:=⟨[],[([.x y1],[])],false,[],fun p=>match p with|_=>Dk⟩
theorem ad8:aN prog 73 acZ:=aH mixed (lp:=eg) (aR:=aR) (np:=0) (an:=[]) .nil (by kernel_rfl) (by kernel_rfl)
def w5:Option ai:=
 (Dk).bind fun r1=>
 some (⟨r1,(Sl.mk [(Sl.mk [4607182418800017408,4607182418800017408,4607182418800017408]),(Sl.mk [4607182418800017408,4607182418800017408,4621819117588971520])]),(Sl.mk [0,5,(-7)]),100,8,20,10,2,5⟩:ai)
def acY:dC:=⟨[],[([.x y4],[])],false,[],fun p=>match p with|_=>w5⟩
theorem ad7:aN prog 32 acY:=aH mixed (lp:=eg) (aR:=aR) (np:=0) (an:=[]) (.cons ad8 .nil) (by kernel_rfl) (by kernel_rfl)
def t6:Option Int:=some 6
def acX:dC:=⟨[(true,.nl 1)],[([.x (.i .i64)],[.nl 1])],false,[true],fun p=>match p with|_=>t6⟩
theorem ad6:aN prog 15 acX:=aH mixed (lp:=eg) (aR:=aR) (np:=1) (an:=[]) .nil (by kernel_rfl) (by kernel_rfl)
def jP(_now_1:Int)(_up_2:Int):Option Unit:=
 (t6).bind fun r1=>
 bif(r1==6)then(some ())else
 (none)
def acW:dC:=⟨[(true,.nl 1),(false,.x (.i .i64)),(false,.x (.i .i64))],[([],[.nl 1])],false,[true,false,false],fun p=>match p with|(now_1,up_2)=>jP now_1 up_2⟩
theorem ad5:aN prog 24 acW:=aH mixed (lp:=eg) (aR:=aR) (np:=3) (an:=[]) (.cons ad6 .nil) (by kernel_rfl) (by kernel_rfl)
def fG(x_0_c:ai)(x_0_routes:Sl (Sl (Sl Int)))(x_0_l:Sl aj)(x_0_at:af)(x_0_volatile_phase:Int)(x_0_volatile_plan:am)(x_0_volatile_cur:Int)(x_0_volatile_want:Mp Int aa)(x_0_volatile_sent:Int)(x_0_volatile_rest:Int)(x_0_volatile_skip:Int)(x_0_volatile_healed:Int)(x_0_volatile_est:Arr 8 ak)(x_0_volatile_asked:Arr 8 Int)(x_0_volatile_out:Sl aa)(x_0_volatile_events:Sl ax):Option (Int×ai×Sl (Sl (Sl Int))×Sl aj×af×Int×am×Int×Mp Int aa×Int×Int×Int×Int×Arr 8 ak×Arr 8 Int×Sl aa×Sl ax):=some (x_0_volatile_phase,x_0_c,x_0_routes,x_0_l,x_0_at,x_0_volatile_phase,x_0_volatile_plan,x_0_volatile_cur,x_0_volatile_want,x_0_volatile_sent,x_0_volatile_rest,x_0_volatile_skip,x_0_volatile_healed,x_0_volatile_est,x_0_volatile_asked,x_0_volatile_out,x_0_volatile_events)
def acV:dC:=⟨[(true,h0)],[([.x (.i .i64)],[h0])],false,[true],fun p=>match p with|(x_0_c,x_0_routes,x_0_l,x_0_at,x_0_volatile_phase,x_0_volatile_plan,x_0_volatile_cur,x_0_volatile_want,x_0_volatile_sent,x_0_volatile_rest,x_0_volatile_skip,x_0_volatile_healed,x_0_volatile_est,x_0_volatile_asked,x_0_volatile_out,x_0_volatile_events)=>fG x_0_c x_0_routes x_0_l x_0_at x_0_volatile_phase x_0_volatile_plan x_0_volatile_cur x_0_volatile_want x_0_volatile_sent x_0_volatile_rest x_0_volatile_skip x_0_volatile_healed x_0_volatile_est x_0_volatile_asked x_0_volatile_out x_0_volatile_events⟩
theorem Tx:aN prog 15 acV:=aH mixed (lp:=eg) (aR:=aR) (np:=1) (an:=[]) .nil (by kernel_rfl) (by kernel_rfl)
def mN(x_0_c:ai)(x_0_routes:Sl (Sl (Sl Int)))(x_0_l:Sl aj)(x_0_at:af)(x_0_volatile_phase:Int)(x_0_volatile_plan:am)(x_0_volatile_cur:Int)(x_0_volatile_want:Mp Int aa)(x_0_volatile_sent:Int)(x_0_volatile_rest:Int)(x_0_volatile_skip:Int)(x_0_volatile_healed:Int)(x_0_volatile_est:Arr 8 ak)(x_0_volatile_asked:Arr 8 Int)(x_0_volatile_out:Sl aa)(x_0_volatile_events:Sl ax)(now_1:Int)(at_2:Int):Option (Bool×ai×Sl (Sl (Sl Int))×Sl aj×af×Int×am×Int×Mp Int aa×Int×Int×Int×Int×Arr 8 ak×Arr 8 Int×Sl aa×Sl ax):=some (((at_2==(-1))||(decide ((wr .i64 (now_1-at_2))>=(ai.R8 x_0_c)))),x_0_c,x_0_routes,x_0_l,x_0_at,x_0_volatile_phase,x_0_volatile_plan,x_0_volatile_cur,x_0_volatile_want,x_0_volatile_sent,x_0_volatile_rest,x_0_volatile_skip,x_0_volatile_healed,x_0_volatile_est,x_0_volatile_asked,x_0_volatile_out,x_0_volatile_events)
def acU:dC:=⟨[(true,h0),(false,.x (.i .i64)),(false,.x (.i .i64))],[([.x .b],[h0])],false,[true,false,false],fun p=>match p with|(x_0_c,x_0_routes,x_0_l,x_0_at,x_0_volatile_phase,x_0_volatile_plan,x_0_volatile_cur,x_0_volatile_want,x_0_volatile_sent,x_0_volatile_rest,x_0_volatile_skip,x_0_volatile_healed,x_0_volatile_est,x_0_volatile_asked,x_0_volatile_out,x_0_volatile_events,now_1,at_2)=>mN x_0_c x_0_routes x_0_l x_0_at x_0_volatile_phase x_0_volatile_plan x_0_volatile_cur x_0_volatile_want x_0_volatile_sent x_0_volatile_rest x_0_volatile_skip x_0_volatile_healed x_0_volatile_est x_0_volatile_asked x_0_volatile_out x_0_volatile_events now_1 at_2⟩
theorem W0:aN prog 109 acU:=aH mixed (lp:=eg) (aR:=aR) (np:=3) (an:=[]) .nil (by kernel_rfl) (by kernel_rfl)
def kM(x_0_c:ai)(now_1:Int)(up_2:Int):(Int×ai×Sl (Sl (Sl Int))×af×Int×am×Int×Int×Int×Int×Int×Arr 8 ak×Arr 8 Int×Sl aj×Mp Int aa×Sl aa×Sl ax)->Option ((Int×ai×Sl (Sl (Sl Int))×af×Int×am×Int×Int×Int×Int×Int×Arr 8 ak×Arr 8 Int×Sl aj×Mp Int aa×Sl aa×Sl ax)⊕(ai×Sl (Sl (Sl Int))×af×Int×am×Int×Int×Int×Int×Int×Arr 8 ak×Arr 8 Int×Sl aj×Mp Int aa×Sl aa×Sl ax)):=fun(i19,x20,s21,x22,i23,x24,i25,i26,i27,i28,i29,v30,v31,s32,m33,s34,s35)=>
 bif decide (i19<(ao.au (ai.T x_0_c)))then((((AB .i64 up_2 i19).bind fun i36=>
 bif((p7 .i64 i36 1)==1)then((cD i19 8).bind fun n37=>
 (mN x20 s21 s32 x22 i23 x24 i25 m33 i26 i27 i28 i29 v30 v31 s34 s35 now_1 (gt v31.1 n37)).bind fun(r38,q39,q40,s41,q42,q43,q44,q45,q46,q47,q48,q49,q50,q51,q52,s53,s54)=>
 some (r38,q39,q40,q42,q43,q44,q45,q47,q48,q49,q50,q51,q52,s41,q46,s53,s54))else
 (some (false,x20,s21,x22,i23,x24,i25,i26,i27,i28,i29,v30,v31,s32,m33,s34,s35)):Option (Bool×ai×Sl (Sl (Sl Int))×af×Int×am×Int×Int×Int×Int×Int×Arr 8 ak×Arr 8 Int×Sl aj×Mp Int aa×Sl aa×Sl ax)).bind fun(b55,x56,s57,x58,i59,x60,i61,i62,i63,i64,i65,v66,v67,s68,m69,s70,s71)=>
 bif b55 then((cD i19 8).bind fun n72=>
 (ic (s70.l++[(⟨1,i19,0,0,now_1,0,0,0,0,Sl.nil⟩:aa)])).bind fun l73=>
 some (x56,s57,x58,i59,x60,i61,i62,i63,i64,i65,v66,Arr.set v67 n72 now_1,s68,m69,(Sl.mk l73),s71))else
 (some (x56,s57,x58,i59,x60,i61,i62,i63,i64,i65,v66,v67,s68,m69,s70,s71)):Option (ai×Sl (Sl (Sl Int))×af×Int×am×Int×Int×Int×Int×Int×Arr 8 ak×Arr 8 Int×Sl aj×Mp Int aa×Sl aa×Sl ax)).bind fun(x74,s75,x76,i77,x78,i79,i80,i81,i82,i83,v84,v85,s86,m87,s88,s89)=>
 some (.inl (wr .i64 (i19+1),x74,s75,x76,i77,x78,i79,i80,i81,i82,i83,v84,v85,s86,m87,s88,s89)))else
 (some (.inr (x20,s21,x22,i23,x24,i25,i26,i27,i28,i29,v30,v31,s32,m33,s34,s35)))
def lV(x_0_c:ai)(x_0_routes:Sl (Sl (Sl Int)))(x_0_l:Sl aj)(x_0_at:af)(x_0_volatile_phase:Int)(x_0_volatile_plan:am)(x_0_volatile_cur:Int)(x_0_volatile_want:Mp Int aa)(x_0_volatile_sent:Int)(x_0_volatile_rest:Int)(x_0_volatile_skip:Int)(x_0_volatile_healed:Int)(x_0_volatile_est:Arr 8 ak)(x_0_volatile_asked:Arr 8 Int)(x_0_volatile_out:Sl aa)(x_0_volatile_events:Sl ax)(now_1:Int)(up_2:Int):Option (ai×Sl (Sl (Sl Int))×Sl aj×af×Int×am×Int×Mp Int aa×Int×Int×Int×Int×Arr 8 ak×Arr 8 Int×Sl aa×Sl ax):=
 (aU (kM x_0_c now_1 up_2) (0,x_0_c,x_0_routes,x_0_at,x_0_volatile_phase,x_0_volatile_plan,x_0_volatile_cur,x_0_volatile_sent,x_0_volatile_rest,x_0_volatile_skip,x_0_volatile_healed,x_0_volatile_est,x_0_volatile_asked,x_0_l,x_0_volatile_want,x_0_volatile_out,x_0_volatile_events)).bind fun(x90,s91,x92,i93,x94,i95,i96,i97,i98,i99,v100,v101,s102,m103,s104,s105)=>
 some (x90,s91,s102,x92,i93,x94,i95,m103,i96,i97,i98,i99,v100,v101,s104,s105)
def acT:dC:=⟨[(true,h0),(false,.x (.i .i64)),(false,.x (.i .i64))],[([],[h0])],false,[true,false,false],fun p=>match p with|(x_0_c,x_0_routes,x_0_l,x_0_at,x_0_volatile_phase,x_0_volatile_plan,x_0_volatile_cur,x_0_volatile_want,x_0_volatile_sent,x_0_volatile_rest,x_0_volatile_skip,x_0_volatile_healed,x_0_volatile_est,x_0_volatile_asked,x_0_volatile_out,x_0_volatile_events,now_1,up_2)=>lV x_0_c x_0_routes x_0_l x_0_at x_0_volatile_phase x_0_volatile_plan x_0_volatile_cur x_0_volatile_want x_0_volatile_sent x_0_volatile_rest x_0_volatile_skip x_0_volatile_healed x_0_volatile_est x_0_volatile_asked x_0_volatile_out x_0_volatile_events now_1 up_2⟩
theorem ad4:aN prog 57 acT:=aH mixed (lp:=eg) (aR:=aR) (np:=3) (an:=[(2,{j:=some {vs:=[(0,.op 0 mw []),(13,.x (.i .i64))],gs:=(.co (.op 0 mw []) .ni),os:=[.bx mw (.rc (.co (.x y4) (.co (.x (.sl (.sl (.sl (.i .i64))))) (.co (.so 1) (.co (.x tm) (.co (.rc (.co (.x (.i .i64)) (.co (.x y7) (.co (.x (.i .i64)) (.co (.om 2) (.co (.x (.i .i64)) (.co (.x (.i .i64)) (.co (.x (.i .i64)) (.co (.x (.i .i64)) (.co (.x (.ar 8 y5)) (.co (.x (.ar 8 (.i .i64))) (.co (.so 3) (.co (.so 4) .ni))))))))))))) .ni)))))),.ar y8,.mp (.i .i64) i_,.ar i_,.ar y2],kl:=[0,13,31,76,77]},e:=[(.exit 0,{gs:=(.co (.op 0 mw []) .ni),os:=[.bx mw (.rc (.co (.x y4) (.co (.x (.sl (.sl (.sl (.i .i64))))) (.co (.so 1) (.co (.x tm) (.co (.rc (.co (.x (.i .i64)) (.co (.x y7) (.co (.x (.i .i64)) (.co (.om 2) (.co (.x (.i .i64)) (.co (.x (.i .i64)) (.co (.x (.i .i64)) (.co (.x (.i .i64)) (.co (.x (.ar 8 y5)) (.co (.x (.ar 8 (.i .i64))) (.co (.so 3) (.co (.so 4) .ni))))))))))))) .ni)))))),.ar y8,.mp (.i .i64) i_,.ar i_,.ar y2],kl:=[0,13,31,76,77]})]}),(6,{e:=[(.normal,{vs:=[(0,.op 0 mw [])],gs:=(.co (.op 0 mw []) .ni),os:=[.bx mw (.rc (.co (.x y4) (.co (.x (.sl (.sl (.sl (.i .i64))))) (.co (.so 1) (.co (.x tm) (.co (.rc (.co (.x (.i .i64)) (.co (.x y7) (.co (.x (.i .i64)) (.co (.om 2) (.co (.x (.i .i64)) (.co (.x (.i .i64)) (.co (.x (.i .i64)) (.co (.x (.i .i64)) (.co (.x (.ar 8 y5)) (.co (.x (.ar 8 (.i .i64))) (.co (.so 3) (.co (.so 4) .ni))))))))))))) .ni)))))),.ar y8,.mp (.i .i64) i_,.ar i_,.ar y2],kl:=[78,79,80,81,82]})]}),(10,{j:=some {vs:=[(0,.op 0 mw []),(32,.x .b)],gs:=(.co (.op 0 mw []) .ni),os:=[.bx mw (.rc (.co (.x y4) (.co (.x (.sl (.sl (.sl (.i .i64))))) (.co (.so 1) (.co (.x tm) (.co (.rc (.co (.x (.i .i64)) (.co (.x y7) (.co (.x (.i .i64)) (.co (.om 2) (.co (.x (.i .i64)) (.co (.x (.i .i64)) (.co (.x (.i .i64)) (.co (.x (.i .i64)) (.co (.x (.ar 8 y5)) (.co (.x (.ar 8 (.i .i64))) (.co (.so 3) (.co (.so 4) .ni))))))))))))) .ni)))))),.ar y8,.mp (.i .i64) i_,.ar i_,.ar y2],kl:=[78,79,80,81,82]}})]) (.cons W0 .nil) (by kernel_rfl) (by kernel_rfl)
def lM(up_2:Int)(x19:ai):(Int×ai×Sl (Sl (Sl Int))×af×Int×am×Int×Int×Int×Int×Int×Arr 8 ak×Arr 8 Int×Sl aj×Mp Int aa×Sl aa×Sl ax)->Option ((Int×ai×Sl (Sl (Sl Int))×af×Int×am×Int×Int×Int×Int×Int×Arr 8 ak×Arr 8 Int×Sl aj×Mp Int aa×Sl aa×Sl ax)⊕(ai×Sl (Sl (Sl Int))×af×Int×am×Int×Int×Int×Int×Int×Arr 8 ak×Arr 8 Int×Sl aj×Mp Int aa×Sl aa×Sl ax)):=fun(i53,x54,s55,x56,i57,x58,i59,i60,i61,i62,i63,v64,v65,s66,m67,s68,s69)=>
 bif decide (i53<(ao.au (ai.T x19)))then(((AB .i64 (p7 .i64 (af.og x56) up_2) i53).bind fun i70=>
 bif((p7 .i64 i70 1)==1)then((ic (s68.l++[(⟨5,i53,af.U x56,(-1),0,0,0,0,0,Sl.nil⟩:aa)])).bind fun l71=>
 some (x54,s55,x56,i57,x58,i59,i60,i61,i62,i63,v64,v65,s66,m67,(Sl.mk l71),s69))else
 (some (x54,s55,x56,i57,x58,i59,i60,i61,i62,i63,v64,v65,s66,m67,s68,s69)):Option (ai×Sl (Sl (Sl Int))×af×Int×am×Int×Int×Int×Int×Int×Arr 8 ak×Arr 8 Int×Sl aj×Mp Int aa×Sl aa×Sl ax)).bind fun(x72,s73,x74,i75,x76,i77,i78,i79,i80,i81,v82,v83,s84,m85,s86,s87)=>
 some (.inl (wr .i64 (i53+1),x72,s73,x74,i75,x76,i77,i78,i79,i80,i81,v82,v83,s84,m85,s86,s87)))else
 (some (.inr (x54,s55,x56,i57,x58,i59,i60,i61,i62,i63,v64,v65,s66,m67,s68,s69)))
def nh(x_0_c:ai)(x_0_routes:Sl (Sl (Sl Int)))(x_0_l:Sl aj)(x_0_at:af)(x_0_volatile_phase:Int)(x_0_volatile_plan:am)(x_0_volatile_cur:Int)(x_0_volatile_want:Mp Int aa)(x_0_volatile_sent:Int)(x_0_volatile_rest:Int)(x_0_volatile_skip:Int)(x_0_volatile_healed:Int)(x_0_volatile_est:Arr 8 ak)(x_0_volatile_asked:Arr 8 Int)(x_0_volatile_out:Sl aa)(x_0_volatile_events:Sl ax)(now_1:Int)(up_2:Int):Option (ai×Sl (Sl (Sl Int))×Sl aj×af×Int×am×Int×Mp Int aa×Int×Int×Int×Int×Arr 8 ak×Arr 8 Int×Sl aa×Sl ax):=
 (bif((af.og x_0_at)==0)then(some (true,x_0_c,x_0_routes,x_0_at,x_0_volatile_phase,x_0_volatile_plan,x_0_volatile_cur,x_0_volatile_sent,x_0_volatile_rest,x_0_volatile_skip,x_0_volatile_healed,x_0_volatile_est,x_0_volatile_asked,x_0_l,x_0_volatile_want,x_0_volatile_out,x_0_volatile_events))else
 ((mN x_0_c x_0_routes x_0_l x_0_at x_0_volatile_phase x_0_volatile_plan x_0_volatile_cur x_0_volatile_want x_0_volatile_sent x_0_volatile_rest x_0_volatile_skip x_0_volatile_healed x_0_volatile_est x_0_volatile_asked x_0_volatile_out x_0_volatile_events now_1 x_0_volatile_healed).bind fun(r1,q2,q3,s4,q5,q6,q7,q8,q9,q10,q11,q12,q13,q14,q15,s16,s17)=>
 some ((!r1),q2,q3,q5,q6,q7,q8,q10,q11,q12,q13,q14,q15,s4,q9,s16,s17)):Option (Bool×ai×Sl (Sl (Sl Int))×af×Int×am×Int×Int×Int×Int×Int×Arr 8 ak×Arr 8 Int×Sl aj×Mp Int aa×Sl aa×Sl ax)).bind fun(b18,x19,s20,x21,i22,x23,i24,i25,i26,i27,i28,v29,v30,s31,m32,s33,s34)=>
 bif b18 then(some (x19,s20,s31,x21,i22,x23,i24,m32,i25,i26,i27,i28,v29,v30,s33,s34))else
 ((aU (lM up_2 x19) (0,x19,s20,x21,i22,x23,i24,i25,i26,i27,now_1,v29,v30,s31,m32,s33,s34)).bind fun(x88,s89,x90,i91,x92,i93,i94,i95,i96,i97,v98,v99,s100,m101,s102,s103)=>
 some (x88,s89,s100,x90,i91,x92,i93,m101,i94,i95,i96,i97,v98,v99,s102,s103))
def acS:dC:=⟨[(true,h0),(false,.x (.i .i64)),(false,.x (.i .i64))],[([],[h0])],false,[true,false,false],fun p=>match p with|(x_0_c,x_0_routes,x_0_l,x_0_at,x_0_volatile_phase,x_0_volatile_plan,x_0_volatile_cur,x_0_volatile_want,x_0_volatile_sent,x_0_volatile_rest,x_0_volatile_skip,x_0_volatile_healed,x_0_volatile_est,x_0_volatile_asked,x_0_volatile_out,x_0_volatile_events,now_1,up_2)=>nh x_0_c x_0_routes x_0_l x_0_at x_0_volatile_phase x_0_volatile_plan x_0_volatile_cur x_0_volatile_want x_0_volatile_sent x_0_volatile_rest x_0_volatile_skip x_0_volatile_healed x_0_volatile_est x_0_volatile_asked x_0_volatile_out x_0_volatile_events now_1 up_2⟩
theorem ad3:aN prog 58 acS:=aH mixed (lp:=eg) (aR:=aR) (np:=3) (an:=[(2,{j:=some {vs:=[(0,.op 0 mw []),(23,.x .b)],gs:=(.co (.op 0 mw []) .ni),os:=[.bx mw (.rc (.co (.x y4) (.co (.x (.sl (.sl (.sl (.i .i64))))) (.co (.so 1) (.co (.x tm) (.co (.rc (.co (.x (.i .i64)) (.co (.x y7) (.co (.x (.i .i64)) (.co (.om 2) (.co (.x (.i .i64)) (.co (.x (.i .i64)) (.co (.x (.i .i64)) (.co (.x (.i .i64)) (.co (.x (.ar 8 y5)) (.co (.x (.ar 8 (.i .i64))) (.co (.so 3) (.co (.so 4) .ni))))))))))))) .ni)))))),.ar y8,.mp (.i .i64) i_,.ar i_,.ar y2],kl:=[0,13,31,76,77]}}),(7,{j:=some {vs:=[(0,.op 0 mw []),(35,.x (.i .i64))],gs:=(.co (.op 0 mw []) .ni),os:=[.bx mw (.rc (.co (.x y4) (.co (.x (.sl (.sl (.sl (.i .i64))))) (.co (.so 1) (.co (.x tm) (.co (.rc (.co (.x (.i .i64)) (.co (.x y7) (.co (.x (.i .i64)) (.co (.om 2) (.co (.x (.i .i64)) (.co (.x (.i .i64)) (.co (.x (.i .i64)) (.co (.x (.i .i64)) (.co (.x (.ar 8 y5)) (.co (.x (.ar 8 (.i .i64))) (.co (.so 3) (.co (.so 4) .ni))))))))))))) .ni)))))),.ar y8,.mp (.i .i64) i_,.ar i_,.ar y2],kl:=[78,79,80,81,82]},e:=[(.exit 0,{gs:=(.co (.op 0 mw []) .ni),os:=[.bx mw (.rc (.co (.x y4) (.co (.x (.sl (.sl (.sl (.i .i64))))) (.co (.so 1) (.co (.x tm) (.co (.rc (.co (.x (.i .i64)) (.co (.x y7) (.co (.x (.i .i64)) (.co (.om 2) (.co (.x (.i .i64)) (.co (.x (.i .i64)) (.co (.x (.i .i64)) (.co (.x (.i .i64)) (.co (.x (.ar 8 y5)) (.co (.x (.ar 8 (.i .i64))) (.co (.so 3) (.co (.so 4) .ni))))))))))))) .ni)))))),.ar y8,.mp (.i .i64) i_,.ar i_,.ar y2],kl:=[78,79,80,81,82]})]}),(11,{e:=[(.normal,{vs:=[(0,.op 0 mw [])],gs:=(.co (.op 0 mw []) .ni),os:=[.bx mw (.rc (.co (.x y4) (.co (.x (.sl (.sl (.sl (.i .i64))))) (.co (.so 1) (.co (.x tm) (.co (.rc (.co (.x (.i .i64)) (.co (.x y7) (.co (.x (.i .i64)) (.co (.om 2) (.co (.x (.i .i64)) (.co (.x (.i .i64)) (.co (.x (.i .i64)) (.co (.x (.i .i64)) (.co (.x (.ar 8 y5)) (.co (.x (.ar 8 (.i .i64))) (.co (.so 3) (.co (.so 4) .ni))))))))))))) .ni)))))),.ar y8,.mp (.i .i64) i_,.ar i_,.ar y2],kl:=[83,84,85,86,87]})]})]) (.cons W0 .nil) (by kernel_rfl) (by kernel_rfl)
def mZ:Option bA:=some (⟨1,0⟩:bA)
def acR:dC:=⟨[],[([.x y0],[])],true,[],fun p=>match p with|_=>mZ⟩
theorem WZ:aN prog 187 acR:=aH mixed (lp:=eg) (aR:=aR) (np:=0) (an:=[]) .nil (by kernel_rfl) (by kernel_rfl)
def re(span_0:Int)(most_1:Int):Option Int:=some (wr .i64 ((wr .i64 ((wr .i64 ((wr .i64 ((if 1099511627776<(if 0>span_0 then 0 else span_0)then 1099511627776 else(if 0>span_0 then 0 else span_0))*(if 1000<(if 0>most_1 then 0 else most_1)then 1000 else(if 0>most_1 then 0 else most_1))))+1000))-1)).tdiv 1000))
def acQ:dC:=⟨[(false,.x (.i .i64)),(false,.x (.i .i64))],[([.x (.i .i64)],[])],true,[],fun p=>match p with|(span_0,most_1)=>re span_0 most_1⟩
theorem ZZ:aN prog 185 acQ:=aH mixed (lp:=eg) (aR:=aR) (np:=2) (an:=[]) .nil (by kernel_rfl) (by kernel_rfl)
def sg(n_0:Int):Option Int:=some (if 4503599627370496<(if(-4503599627370496)>n_0 then(-4503599627370496)else n_0)then 4503599627370496 else(if(-4503599627370496)>n_0 then(-4503599627370496)else n_0))
def acP:dC:=⟨[(false,.x (.i .i64))],[([.x (.i .i64)],[])],true,[],fun p=>match p with|n_0=>sg n_0⟩
theorem ZY:aN prog 243 acP:=aH mixed (lp:=eg) (aR:=aR) (np:=1) (an:=[]) .nil (by kernel_rfl) (by kernel_rfl)
def ja(s_0:bA):Option bA:=
 (sg (bA.Lo s_0)).bind fun r1=>
 (sg (bA.Hi s_0)).bind fun r2=>
 bif decide (r2<r1)then((mZ).bind fun r3=>
 some r3)else
 (some (⟨r1,r2⟩:bA))
def acO:dC:=⟨[(false,.x y0)],[([.x y0],[])],true,[],fun p=>match p with|s_0=>ja s_0⟩
theorem Qf:aN prog 186 acO:=aH mixed (lp:=eg) (aR:=aR) (np:=1) (an:=[]) (.cons ZY (.cons WZ .nil)) (by kernel_rfl) (by kernel_rfl)
set_option synthInstance.maxSize 1000 in
def oC(s_0:bA):Option Bool:=
 (ja s_0).bind fun r1=>
 (mZ).bind fun r2=>
 some (decide (r1=r2))
def acN:dC:=⟨[(false,.x y0)],[([.x .b],[])],true,[],fun p=>match p with|s_0=>oC s_0⟩
theorem Tw:aN prog 129 acN:=aH mixed (lp:=eg) (aR:=aR) (np:=1) (an:=[]) (.cons Qf (.cons WZ .nil)) (by kernel_rfl) (by kernel_rfl)
def sE(s_0:bA)(by_1:Int):Option bA:=
 (ja s_0).bind fun r1=>
 (sg by_1).bind fun r2=>
 (oC r1).bind fun r3=>
 bif r3 then(some r1)else
 ((ja (⟨wr .i64 ((bA.Lo r1)-(if 0>r2 then 0 else r2)),wr .i64 ((bA.Hi r1)+(if 0>r2 then 0 else r2))⟩:bA)).bind fun r4=>
 some r4)
def acM:dC:=⟨[(false,.x y0),(false,.x (.i .i64))],[([.x y0],[])],true,[],fun p=>match p with|(s_0,by_1)=>sE s_0 by_1⟩
theorem ZX:aN prog 184 acM:=aH mixed (lp:=eg) (aR:=aR) (np:=2) (an:=[]) (.cons Qf (.cons ZY (.cons Tw .nil))) (by kernel_rfl) (by kernel_rfl)
def zi(e_0:ak)(t_1:Int)(most_2:Int):Option bA:=
 bif(!(ak.Mw e_0))then((mZ).bind fun r1=>
 some r1)else
 ((re (wr .i64 ((if(ak.At e_0)>t_1 then(ak.At e_0)else t_1)-(if(ak.At e_0)<t_1 then(ak.At e_0)else t_1))) most_2).bind fun r2=>
 (sE (ak.S e_0) r2).bind fun r3=>
 some r3)
def acL:dC:=⟨[(false,.x y5),(false,.x (.i .i64)),(false,.x (.i .i64))],[([.x y0],[])],true,[],fun p=>match p with|(e_0,t_1,most_2)=>zi e_0 t_1 most_2⟩
theorem ZW:aN prog 128 acL:=aH mixed (lp:=eg) (aR:=aR) (np:=3) (an:=[]) (.cons WZ (.cons ZZ (.cons ZX .nil))) (by kernel_rfl) (by kernel_rfl)
def wL(s_0:bA):Option Int:=
 (ja s_0).bind fun r1=>
 (oC r1).bind fun r2=>
 bif r2 then(some 0)else
 (some (wr .i64 ((bA.Lo r1)+(wr .i64 ((wr .i64 ((bA.Hi r1)-(bA.Lo r1))).tdiv 2)))))
def acK:dC:=⟨[(false,.x y0)],[([.x (.i .i64)],[])],true,[],fun p=>match p with|s_0=>wL s_0⟩
theorem ZV:aN prog 188 acK:=aH mixed (lp:=eg) (aR:=aR) (np:=1) (an:=[]) (.cons Qf (.cons Tw .nil)) (by kernel_rfl) (by kernel_rfl)
def xq(s_0:bA):Option Int:=
 (ja s_0).bind fun r1=>
 (oC r1).bind fun r2=>
 bif r2 then(some 0)else
 ((wL r1).bind fun r3=>
 some (wr .i64 ((bA.Hi r1)-r3)))
def acJ:dC:=⟨[(false,.x y0)],[([.x (.i .i64)],[])],true,[],fun p=>match p with|s_0=>xq s_0⟩
theorem ad2:aN prog 189 acJ:=aH mixed (lp:=eg) (aR:=aR) (np:=1) (an:=[]) (.cons Qf (.cons Tw (.cons ZV .nil))) (by kernel_rfl) (by kernel_rfl)
def zj(e_0:ak)(t_1:Int)(most_2:Int):Option (Int×Int×Bool):=
 bif(((!(ak.Mw e_0))||(decide (t_1<0)))||(decide (t_1>1099511627776)))then(some (0,0,false))else
 ((zi e_0 t_1 most_2).bind fun r1=>
 (wL r1).bind fun r2=>
 (xq r1).bind fun r3=>
 some (wr .i64 (t_1+r2),r3,true))
def acI:dC:=⟨[(false,.x y5),(false,.x (.i .i64)),(false,.x (.i .i64))],[([.x (.i .i64),.x (.i .i64),.x .b],[])],true,[],fun p=>match p with|(e_0,t_1,most_2)=>zj e_0 t_1 most_2⟩
theorem ad1:aN prog 131 acI:=aH mixed (lp:=eg) (aR:=aR) (np:=3) (an:=[]) (.cons ZW (.cons ZV (.cons ad2 .nil))) (by kernel_rfl) (by kernel_rfl)
def sZ(x_0_c:ai)(x_0_volatile_est:Arr 8 ak)(r_1:aS):(Int×Sl Int)->Option ((Int×Sl Int)⊕(Bool⊕(Sl Int))):=fun(i4,s5)=>
 bif decide (i4<(((aS.p8 r_1).l).length:Int))then((cD i4 ((aS.p8 r_1).l).length).bind fun n6=>
 (cD (gt ((aS.p8 r_1).l) n6) 8).bind fun n7=>
 (zj (gt x_0_volatile_est.1 n7) (aS.At r_1) (ai.R9 x_0_c)).bind fun(r8,r9,r10)=>
 bif((!r10)||(decide (r9>(ai.uD x_0_c))))then(some (.inr (.inl false)))else
 ((ic (s5.l++[r8])).bind fun l11=>
 some (.inl (wr .i64 (i4+1),(Sl.mk l11)))))else
 (some (.inr (.inr s5)))
def mO(x_0_c:ai)(x_0_routes:Sl (Sl (Sl Int)))(x_0_l:Sl aj)(x_0_at:af)(x_0_volatile_phase:Int)(x_0_volatile_plan:am)(x_0_volatile_cur:Int)(x_0_volatile_want:Mp Int aa)(x_0_volatile_sent:Int)(x_0_volatile_rest:Int)(x_0_volatile_skip:Int)(x_0_volatile_healed:Int)(x_0_volatile_est:Arr 8 ak)(x_0_volatile_asked:Arr 8 Int)(x_0_volatile_out:Sl aa)(x_0_volatile_events:Sl ax)(r_1:aS):Option (Sl Int×Bool×ai×Sl (Sl (Sl Int))×Sl aj×af×Int×am×Int×Mp Int aa×Int×Int×Int×Int×Arr 8 ak×Arr 8 Int×Sl aa×Sl ax):=
 (aU (sZ x_0_c x_0_volatile_est r_1) (0,Sl.nil)).bind fun
 |.inl b12=>(some (Sl.nil,b12,x_0_c,x_0_routes,x_0_l,x_0_at,x_0_volatile_phase,x_0_volatile_plan,x_0_volatile_cur,x_0_volatile_want,x_0_volatile_sent,x_0_volatile_rest,x_0_volatile_skip,x_0_volatile_healed,x_0_volatile_est,x_0_volatile_asked,x_0_volatile_out,x_0_volatile_events))
 |.inr s13=>(some (s13,true,x_0_c,x_0_routes,x_0_l,x_0_at,x_0_volatile_phase,x_0_volatile_plan,x_0_volatile_cur,x_0_volatile_want,x_0_volatile_sent,x_0_volatile_rest,x_0_volatile_skip,x_0_volatile_healed,x_0_volatile_est,x_0_volatile_asked,x_0_volatile_out,x_0_volatile_events))
def acH:dC:=⟨[(true,h0),(false,.x y9)],[([.x (.sl (.i .i64)),.x .b],[h0])],false,[true,false],fun p=>match p with|(x_0_c,x_0_routes,x_0_l,x_0_at,x_0_volatile_phase,x_0_volatile_plan,x_0_volatile_cur,x_0_volatile_want,x_0_volatile_sent,x_0_volatile_rest,x_0_volatile_skip,x_0_volatile_healed,x_0_volatile_est,x_0_volatile_asked,x_0_volatile_out,x_0_volatile_events,r_1)=>mO x_0_c x_0_routes x_0_l x_0_at x_0_volatile_phase x_0_volatile_plan x_0_volatile_cur x_0_volatile_want x_0_volatile_sent x_0_volatile_rest x_0_volatile_skip x_0_volatile_healed x_0_volatile_est x_0_volatile_asked x_0_volatile_out x_0_volatile_events r_1⟩
theorem ZU:aN prog 68 acH:=aH mixed (lp:=eg) (aR:=aR) (np:=2) (an:=[(7,{j:=some {vs:=[(6,.so 0),(15,.x (.i .i64))],os:=[.ar (.i .i64)]},e:=[(.ret,{vs:=[(4,.nl 0),(5,.x .b)]}),(.exit 0,{vs:=[(6,.so 0)],os:=[.ar (.i .i64)]})]})]) (.cons ad1 .nil) (by kernel_rfl) (by kernel_rfl)
def gA(n_0:Int)(below_1:Int):Option Bool:=some ((decide (n_0>=0))&&(decide (n_0<below_1)))
def acG:dC:=⟨[(false,.x (.i .i64)),(false,.x (.i .i64))],[([.x .b],[])],true,[],fun p=>match p with|(n_0,below_1)=>gA n_0 below_1⟩
theorem WY:aN prog 134 acG:=aH mixed (lp:=eg) (aR:=aR) (np:=2) (an:=[]) .nil (by kernel_rfl) (by kernel_rfl)
def qM(s_0:af)(r_1:aj):Option (af×Bool):=
 (bif(((af.jg s_0)||((af.og s_0) !=0))||((aj.U r_1) !=(wr .i64 ((af.U s_0)+1))))then(some true)else
 ((gA (aj.A r_1) 16).bind fun r1=>
 bif(!r1)then(some true)else
 ((gA (aj.B r_1) 1125899906842625).bind fun r2=>
 some (!r2))):Option Bool).bind fun b3=>
 bif b3 then(some (s_0,false))else
 (some ((⟨aj.U r_1,af.pk s_0,true,aj.A r_1,aj.B r_1,0,false,false,0⟩:af),true))
def acF:dC:=⟨[(false,.x tm),(false,.x y8)],[([.x tm,.x .b],[])],true,[],fun p=>match p with|(s_0,r_1)=>qM s_0 r_1⟩
theorem ad0:aN prog 74 acF:=aH mixed (lp:=eg) (aR:=aR) (np:=2) (an:=[(4,{j:=some {vs:=[(32,.x .b)]}})]) (.cons WY .nil) (by kernel_rfl) (by kernel_rfl)
def lK(s_0:af)(r_1:aj):Option (af×Bool):=
 (bif((af.jg s_0)||((aj.B r_1) !=0))then(some true)else
 ((gA (aj.A r_1) 8).bind fun r1=>
 bif(!r1)then(some true)else
 ((AB .i64 (af.og s_0) (aj.A r_1)).bind fun i2=>
 some ((p7 .i64 i2 1)==0))):Option Bool).bind fun b3=>
 bif b3 then(some (s_0,false))else
 ((AF .i64 1 (aj.A r_1)).bind fun i4=>
 some ((⟨af.U s_0,af.pk s_0,af.jg s_0,af.eL s_0,af.At s_0,af.fC s_0,af.oe s_0,af.bH s_0,gu .i64 (af.og s_0) i4⟩:af),true))
def acE:dC:=⟨[(false,.x tm),(false,.x y8)],[([.x tm,.x .b],[])],true,[],fun p=>match p with|(s_0,r_1)=>lK s_0 r_1⟩
theorem adZ:aN prog 75 acE:=aH mixed (lp:=eg) (aR:=aR) (np:=2) (an:=[(4,{j:=some {vs:=[(27,.x .b)]}})]) (.cons WY .nil) (by kernel_rfl) (by kernel_rfl)
def mI(s_0:af):Option af:=some (⟨af.U s_0,af.pk s_0,false,0,0,0,false,false,af.og s_0⟩:af)
def acD:dC:=⟨[(false,.x tm)],[([.x tm],[])],true,[],fun p=>match p with|s_0=>mI s_0⟩
theorem adY:aN prog 135 acD:=aH mixed (lp:=eg) (aR:=aR) (np:=1) (an:=[]) .nil (by kernel_rfl) (by kernel_rfl)
def jM(s_0:af)(r_1:aj):Option (af×Bool):=
 (bif((!(af.jg s_0))||((aj.B r_1) !=0))then(some true)else
 (some ((((aj.A r_1) !=0)&&((aj.cN r_1) !=2))&&((aj.cN r_1) !=6))):Option Bool).bind fun b1=>
 bif b1 then(some (s_0,false))else
 ((bif((aj.cN r_1)==2)then((bif(((!(af.oe s_0))&&(!(af.bH s_0)))&&((aj.A r_1)==(af.fC s_0)))then((gA (af.fC s_0) 8).bind fun r2=>
 some r2)else
 (some false):Option Bool).bind fun b3=>
 some (b3,(⟨af.U s_0,af.pk s_0,af.jg s_0,af.eL s_0,af.At s_0,wr .i64 ((af.fC s_0)+1),af.oe s_0,af.bH s_0,af.og s_0⟩:af)))else
 (bif((aj.cN r_1)==3)then(some ((((!(af.oe s_0))&&(!(af.bH s_0)))&&(decide ((af.fC s_0)>0))),(⟨af.U s_0,af.pk s_0,af.jg s_0,af.eL s_0,af.At s_0,af.fC s_0,true,af.bH s_0,af.og s_0⟩:af)))else
 (bif((aj.cN r_1)==4)then(some ((!(af.bH s_0)),(⟨af.U s_0,af.pk s_0,af.jg s_0,af.eL s_0,af.At s_0,af.fC s_0,af.oe s_0,true,af.og s_0⟩:af)))else
 (bif((aj.cN r_1)==5)then((mI (⟨af.U s_0,af.eL s_0,af.jg s_0,af.eL s_0,af.At s_0,af.fC s_0,af.oe s_0,af.bH s_0,af.og s_0⟩:af)).bind fun r4=>
 some (((af.oe s_0)&&(!(af.bH s_0))),r4))else
 (bif((aj.cN r_1)==6)then((bif af.bH s_0 then((gA (aj.A r_1) 256).bind fun r5=>
 some r5)else
 (some false):Option Bool).bind fun b6=>
 (mI (⟨af.U s_0,af.pk s_0,af.jg s_0,af.eL s_0,af.At s_0,af.fC s_0,af.oe s_0,af.bH s_0,aj.A r_1⟩:af)).bind fun r7=>
 some (b6,r7))else
 (some (false,s_0)))))):Option (Bool×af)).bind fun(b8,x9)=>
 some (x9,b8))
def acC:dC:=⟨[(false,.x tm),(false,.x y8)],[([.x tm,.x .b],[])],true,[],fun p=>match p with|(s_0,r_1)=>jM s_0 r_1⟩
theorem adX:aN prog 76 acC:=aH mixed (lp:=eg) (aR:=aR) (np:=2) (an:=[(4,{j:=some {vs:=[(30,.x .b)]}}),(11,{e:=[(.normal,{vs:=[(2,.op 0 tm []),(7,.x .b)],os:=[.bx tm (.x tm)],kl:=[0]})]}),(17,{j:=some {vs:=[(7,.x .b)]}}),(39,{j:=some {vs:=[(7,.x .b)]}})]) (.cons WY (.cons adY .nil)) (by kernel_rfl) (by kernel_rfl)
def ga(s_0:af)(r_1:aj):Option (af×Int):=
 (bif((aj.cN r_1)==1)then((qM s_0 r_1).bind fun(r1,r2)=>
 some (r2,r1))else
 (bif((aj.U r_1) !=(af.U s_0))then(some (false,s_0))else
 (bif((aj.cN r_1)==7)then((lK s_0 r_1).bind fun(r3,r4)=>
 some (r4,r3))else
 ((jM s_0 r_1).bind fun(r5,r6)=>
 some (r6,r5)))):Option (Bool×af)).bind fun(b7,x8)=>
 bif(!b7)then(some (s_0,5))else
 (some (x8,0))
def acB:dC:=⟨[(false,.x tm),(false,.x y8)],[([.x tm,.x (.i .i64)],[])],true,[],fun p=>match p with|(s_0,r_1)=>ga s_0 r_1⟩
theorem adW:aN prog 36 acB:=aH mixed (lp:=eg) (aR:=aR) (np:=2) (an:=[(4,{e:=[(.normal,{vs:=[(6,.op 0 tm []),(7,.x .b)],os:=[.bx tm (.x tm)],kl:=[3]})]})]) (.cons ad0 (.cons adZ (.cons adX .nil))) (by kernel_rfl) (by kernel_rfl)
def eD(x_0_c:ai)(x_0_routes:Sl (Sl (Sl Int)))(x_0_l:Sl aj)(x_0_at:af)(x_0_volatile_phase:Int)(x_0_volatile_plan:am)(x_0_volatile_cur:Int)(x_0_volatile_want:Mp Int aa)(x_0_volatile_sent:Int)(x_0_volatile_rest:Int)(x_0_volatile_skip:Int)(x_0_volatile_healed:Int)(x_0_volatile_est:Arr 8 ak)(x_0_volatile_asked:Arr 8 Int)(x_0_volatile_out:Sl aa)(x_0_volatile_events:Sl ax)(kind_1:Int)(u_2:Int)(a_3:Int)(b_4:Int):Option (ai×Sl (Sl (Sl Int))×Sl aj×af×Int×am×Int×Mp Int aa×Int×Int×Int×Int×Arr 8 ak×Arr 8 Int×Sl aa×Sl ax):=
 (ic (x_0_l.l++[(⟨kind_1,u_2,a_3,b_4⟩:aj)])).bind fun l1=>
 (ga x_0_at (⟨kind_1,u_2,a_3,b_4⟩:aj)).bind fun(r2,_)=>
 some (x_0_c,x_0_routes,(Sl.mk l1),r2,x_0_volatile_phase,x_0_volatile_plan,x_0_volatile_cur,x_0_volatile_want,x_0_volatile_sent,x_0_volatile_rest,x_0_volatile_skip,x_0_volatile_healed,x_0_volatile_est,x_0_volatile_asked,x_0_volatile_out,x_0_volatile_events)
def acA:dC:=⟨[(true,h0),(false,.x (.i .i64)),(false,.x (.i .i64)),(false,.x (.i .i64)),(false,.x (.i .i64))],[([],[h0])],false,[true,false,false,false,false],fun p=>match p with|(x_0_c,x_0_routes,x_0_l,x_0_at,x_0_volatile_phase,x_0_volatile_plan,x_0_volatile_cur,x_0_volatile_want,x_0_volatile_sent,x_0_volatile_rest,x_0_volatile_skip,x_0_volatile_healed,x_0_volatile_est,x_0_volatile_asked,x_0_volatile_out,x_0_volatile_events,kind_1,u_2,a_3,b_4)=>eD x_0_c x_0_routes x_0_l x_0_at x_0_volatile_phase x_0_volatile_plan x_0_volatile_cur x_0_volatile_want x_0_volatile_sent x_0_volatile_rest x_0_volatile_skip x_0_volatile_healed x_0_volatile_est x_0_volatile_asked x_0_volatile_out x_0_volatile_events kind_1 u_2 a_3 b_4⟩
theorem J5:aN prog 70 acA:=aH mixed (lp:=eg) (aR:=aR) (np:=5) (an:=[]) (.cons adW .nil) (by kernel_rfl) (by kernel_rfl)
def tY(rd_0:Int)(sw_1:Int):Option Int:=some (wr .i64 ((wr .i64 (rd_0*8))+sw_1))
def acz:dC:=⟨[(false,.x (.i .i64)),(false,.x (.i .i64))],[([.x (.i .i64)],[])],true,[],fun p=>match p with|(rd_0,sw_1)=>tY rd_0 sw_1⟩
theorem WX:aN prog 130 acz:=aH mixed (lp:=eg) (aR:=aR) (np:=2) (an:=[]) .nil (by kernel_rfl) (by kernel_rfl)
def mn(x_0_volatile_want:Mp Int aa):(Int×ai×Sl (Sl (Sl Int))×af×Int×am×Int×Int×Int×Int×Int×Arr 8 ak×Arr 8 Int×Sl aj×Mp Int aa×Sl aa×Sl ax)->Option ((Int×ai×Sl (Sl (Sl Int))×af×Int×am×Int×Int×Int×Int×Int×Arr 8 ak×Arr 8 Int×Sl aj×Mp Int aa×Sl aa×Sl ax)⊕(ai×Sl (Sl (Sl Int))×af×Int×am×Int×Int×Int×Int×Int×Arr 8 ak×Arr 8 Int×Sl aj×Mp Int aa×Sl aa×Sl ax)):=fun(i19,x20,s21,x22,i23,x24,i25,i26,i27,i28,i29,v30,v31,s32,m33,s34,s35)=>
 bif decide (i19<(((nW x_0_volatile_want).l).length:Int))then((cD i19 ((nW x_0_volatile_want).l).length).bind fun n36=>
 (ic (s34.l++[kp m33 (⟨0,0,0,0,0,0,0,0,0,Sl.nil⟩:aa) (gt ((nW x_0_volatile_want).l) n36)])).bind fun l37=>
 some (.inl (wr .i64 (i19+1),x20,s21,x22,i23,x24,i25,i26,i27,i28,i29,v30,v31,s32,m33,(Sl.mk l37),s35)))else
 (some (.inr (x20,s21,x22,i23,x24,i25,i26,i27,i28,i29,v30,v31,s32,m33,s34,s35)))
def je(x_0_c:ai)(x_0_routes:Sl (Sl (Sl Int)))(x_0_l:Sl aj)(x_0_at:af)(x_0_volatile_phase:Int)(x_0_volatile_plan:am)(x_0_volatile_cur:Int)(x_0_volatile_want:Mp Int aa)(_x_0_volatile_sent:Int)(x_0_volatile_rest:Int)(x_0_volatile_skip:Int)(x_0_volatile_healed:Int)(x_0_volatile_est:Arr 8 ak)(x_0_volatile_asked:Arr 8 Int)(x_0_volatile_out:Sl aa)(x_0_volatile_events:Sl ax)(now_1:Int):Option (ai×Sl (Sl (Sl Int))×Sl aj×af×Int×am×Int×Mp Int aa×Int×Int×Int×Int×Arr 8 ak×Arr 8 Int×Sl aa×Sl ax):=
 bif E9 x_0_volatile_want then((aU (mn x_0_volatile_want) (0,x_0_c,x_0_routes,x_0_at,x_0_volatile_phase,x_0_volatile_plan,x_0_volatile_cur,now_1,x_0_volatile_rest,x_0_volatile_skip,x_0_volatile_healed,x_0_volatile_est,x_0_volatile_asked,x_0_l,x_0_volatile_want,x_0_volatile_out,x_0_volatile_events)).bind fun(x38,s39,x40,i41,x42,i43,i44,i45,i46,i47,v48,v49,s50,m51,s52,s53)=>
 some (x38,s39,s50,x40,i41,x42,i43,m51,i44,i45,i46,i47,v48,v49,s52,s53))else(none)
def acy:dC:=⟨[(true,h0),(false,.x (.i .i64))],[([],[h0])],false,[true,false],fun p=>match p with|(x_0_c,x_0_routes,x_0_l,x_0_at,x_0_volatile_phase,x_0_volatile_plan,x_0_volatile_cur,x_0_volatile_want,x_0_volatile_sent,x_0_volatile_rest,x_0_volatile_skip,x_0_volatile_healed,x_0_volatile_est,x_0_volatile_asked,x_0_volatile_out,x_0_volatile_events,now_1)=>je x_0_c x_0_routes x_0_l x_0_at x_0_volatile_phase x_0_volatile_plan x_0_volatile_cur x_0_volatile_want x_0_volatile_sent x_0_volatile_rest x_0_volatile_skip x_0_volatile_healed x_0_volatile_est x_0_volatile_asked x_0_volatile_out x_0_volatile_events now_1⟩
theorem ZT:aN prog 133 acy:=aH mixed (lp:=eg) (aR:=aR) (np:=2) (an:=[(4,{j:=some {vs:=[(0,.op 0 mw []),(19,.x (.i .i64))],gs:=(.co (.op 0 mw []) .ni),os:=[.bx mw (.rc (.co (.x y4) (.co (.x (.sl (.sl (.sl (.i .i64))))) (.co (.so 1) (.co (.x tm) (.co (.rc (.co (.x (.i .i64)) (.co (.x y7) (.co (.x (.i .i64)) (.co (.om 2) (.co (.x (.i .i64)) (.co (.x (.i .i64)) (.co (.x (.i .i64)) (.co (.x (.i .i64)) (.co (.x (.ar 8 y5)) (.co (.x (.ar 8 (.i .i64))) (.co (.so 3) (.co (.so 4) .ni))))))))))))) .ni)))))),.ar y8,.mp (.i .i64) i_,.ar i_,.ar y2],kl:=[0,13,31,76,77,78]},e:=[(.exit 0,{gs:=(.co (.op 0 mw []) .ni),os:=[.bx mw (.rc (.co (.x y4) (.co (.x (.sl (.sl (.sl (.i .i64))))) (.co (.so 1) (.co (.x tm) (.co (.rc (.co (.x (.i .i64)) (.co (.x y7) (.co (.x (.i .i64)) (.co (.om 2) (.co (.x (.i .i64)) (.co (.x (.i .i64)) (.co (.x (.i .i64)) (.co (.x (.i .i64)) (.co (.x (.ar 8 y5)) (.co (.x (.ar 8 (.i .i64))) (.co (.so 3) (.co (.so 4) .ni))))))))))))) .ni)))))),.ar y8,.mp (.i .i64) i_,.ar i_,.ar y2],kl:=[0,13,31,76,77,78]})]})]) (.QS @T7 (.QS @NV .nil)) (by kernel_rfl) (by kernel_rfl)
def pH(l_2:Sl aa):(Int×ai×Sl (Sl (Sl Int))×af×Int×am×Int×Int×Int×Int×Int×Arr 8 ak×Arr 8 Int×Sl aj×Mp Int aa×Sl aa×Sl ax)->Option ((Int×ai×Sl (Sl (Sl Int))×af×Int×am×Int×Int×Int×Int×Int×Arr 8 ak×Arr 8 Int×Sl aj×Mp Int aa×Sl aa×Sl ax)⊕(ai×Sl (Sl (Sl Int))×af×Int×am×Int×Int×Int×Int×Int×Arr 8 ak×Arr 8 Int×Sl aj×Mp Int aa×Sl aa×Sl ax)):=fun(i19,x20,s21,x22,i23,x24,i25,i26,i27,i28,i29,v30,v31,s32,m33,s34,s35)=>
 bif decide (i19<(l_2.l.length:Int))then((cD i19 l_2.l.length).bind fun n36=>
 (tY (aa.Rd (gt l_2.l n36)) (aa.Sw (gt l_2.l n36))).bind fun r37=>
 some (.inl (wr .i64 (i19+1),x20,s21,x22,i23,x24,i25,i26,i27,i28,i29,v30,v31,s32,(wV m33 r37 (gt l_2.l n36)),s34,s35)))else
 (some (.inr (x20,s21,x22,i23,x24,i25,i26,i27,i28,i29,v30,v31,s32,m33,s34,s35)))
def jO(x_0_c:ai)(x_0_routes:Sl (Sl (Sl Int)))(x_0_l:Sl aj)(x_0_at:af)(x_0_volatile_phase:Int)(x_0_volatile_plan:am)(x_0_volatile_cur:Int)(_x_0_volatile_want:Mp Int aa)(x_0_volatile_sent:Int)(x_0_volatile_rest:Int)(x_0_volatile_skip:Int)(x_0_volatile_healed:Int)(x_0_volatile_est:Arr 8 ak)(x_0_volatile_asked:Arr 8 Int)(x_0_volatile_out:Sl aa)(x_0_volatile_events:Sl ax)(now_1:Int)(l_2:Sl aa):Option (ai×Sl (Sl (Sl Int))×Sl aj×af×Int×am×Int×Mp Int aa×Int×Int×Int×Int×Arr 8 ak×Arr 8 Int×Sl aa×Sl ax):=
 (aU (pH l_2) (0,x_0_c,x_0_routes,x_0_at,x_0_volatile_phase,x_0_volatile_plan,x_0_volatile_cur,x_0_volatile_sent,x_0_volatile_rest,x_0_volatile_skip,x_0_volatile_healed,x_0_volatile_est,x_0_volatile_asked,x_0_l,(Mp.none:Mp Int aa),x_0_volatile_out,x_0_volatile_events)).bind fun(x38,s39,x40,i41,x42,i43,i44,i45,i46,i47,v48,v49,s50,m51,s52,s53)=>
 (je x38 s39 s50 x40 i41 x42 i43 m51 i44 i45 i46 i47 v48 v49 s52 s53 now_1).bind fun(q54,q55,s56,q57,q58,q59,q60,q61,q62,q63,q64,q65,q66,q67,s68,s69)=>
 some (q54,q55,s56,q57,q58,q59,q60,q61,q62,q63,q64,q65,q66,q67,s68,s69)
def acx:dC:=⟨[(true,h0),(false,.x (.i .i64)),(false,.x (.sl i_))],[([],[h0])],false,[true,false,false],fun p=>match p with|(x_0_c,x_0_routes,x_0_l,x_0_at,x_0_volatile_phase,x_0_volatile_plan,x_0_volatile_cur,x_0_volatile_want,x_0_volatile_sent,x_0_volatile_rest,x_0_volatile_skip,x_0_volatile_healed,x_0_volatile_est,x_0_volatile_asked,x_0_volatile_out,x_0_volatile_events,now_1,l_2)=>jO x_0_c x_0_routes x_0_l x_0_at x_0_volatile_phase x_0_volatile_plan x_0_volatile_cur x_0_volatile_want x_0_volatile_sent x_0_volatile_rest x_0_volatile_skip x_0_volatile_healed x_0_volatile_est x_0_volatile_asked x_0_volatile_out x_0_volatile_events now_1 l_2⟩
theorem Tv:aN prog 72 acx:=aH mixed (lp:=eg) (aR:=aR) (np:=3) (an:=[(5,{j:=some {vs:=[(0,.op 0 mw []),(15,.x (.i .i64))],gs:=(.co (.op 0 mw []) .ni),os:=[.bx mw (.rc (.co (.x y4) (.co (.x (.sl (.sl (.sl (.i .i64))))) (.co (.so 1) (.co (.x tm) (.co (.rc (.co (.x (.i .i64)) (.co (.x y7) (.co (.x (.i .i64)) (.co (.om 2) (.co (.x (.i .i64)) (.co (.x (.i .i64)) (.co (.x (.i .i64)) (.co (.x (.i .i64)) (.co (.x (.ar 8 y5)) (.co (.x (.ar 8 (.i .i64))) (.co (.so 3) (.co (.so 4) .ni))))))))))))) .ni)))))),.ar y8,.mp (.i .i64) i_,.ar i_,.ar y2],kl:=[0,13,76,77,78]},e:=[(.exit 0,{vs:=[(0,.op 0 mw [])],gs:=(.co (.op 0 mw []) .ni),os:=[.bx mw (.rc (.co (.x y4) (.co (.x (.sl (.sl (.sl (.i .i64))))) (.co (.so 1) (.co (.x tm) (.co (.rc (.co (.x (.i .i64)) (.co (.x y7) (.co (.x (.i .i64)) (.co (.om 2) (.co (.x (.i .i64)) (.co (.x (.i .i64)) (.co (.x (.i .i64)) (.co (.x (.i .i64)) (.co (.x (.ar 8 y5)) (.co (.x (.ar 8 (.i .i64))) (.co (.so 3) (.co (.so 4) .ni))))))))))))) .ni)))))),.ar y8,.mp (.i .i64) i_,.ar i_,.ar y2],kl:=[0,13,76,77,78]})]})]) (.cons WX (.cons ZT .nil)) (by kernel_rfl) (by kernel_rfl)
def iM(x_0_c:ai)(x_0_routes:Sl (Sl (Sl Int)))(x_0_l:Sl aj)(x_0_at:af)(x_0_volatile_phase:Int)(x_0_volatile_plan:am)(x_0_volatile_cur:Int)(x_0_volatile_want:Mp Int aa)(x_0_volatile_sent:Int)(x_0_volatile_rest:Int)(x_0_volatile_skip:Int)(x_0_volatile_healed:Int)(x_0_volatile_est:Arr 8 ak)(x_0_volatile_asked:Arr 8 Int)(x_0_volatile_out:Sl aa)(x_0_volatile_events:Sl ax)(now_1:Int)(kind_2:Int)(sw_3:Int)(a_4:Int)(b_5:Int):Option (ai×Sl (Sl (Sl Int))×Sl aj×af×Int×am×Int×Mp Int aa×Int×Int×Int×Int×Arr 8 ak×Arr 8 Int×Sl aa×Sl ax):=
 (ic (x_0_volatile_events.l++[(⟨kind_2,now_1,af.U x_0_at,sw_3,a_4,b_5⟩:ax)])).bind fun l1=>
 some (x_0_c,x_0_routes,x_0_l,x_0_at,x_0_volatile_phase,x_0_volatile_plan,x_0_volatile_cur,x_0_volatile_want,x_0_volatile_sent,x_0_volatile_rest,x_0_volatile_skip,x_0_volatile_healed,x_0_volatile_est,x_0_volatile_asked,x_0_volatile_out,(Sl.mk l1))
def acw:dC:=⟨[(true,h0),(false,.x (.i .i64)),(false,.x (.i .i64)),(false,.x (.i .i64)),(false,.x (.i .i64)),(false,.x (.i .i64))],[([],[h0])],false,[true,false,false,false,false,false],fun p=>match p with|(x_0_c,x_0_routes,x_0_l,x_0_at,x_0_volatile_phase,x_0_volatile_plan,x_0_volatile_cur,x_0_volatile_want,x_0_volatile_sent,x_0_volatile_rest,x_0_volatile_skip,x_0_volatile_healed,x_0_volatile_est,x_0_volatile_asked,x_0_volatile_out,x_0_volatile_events,now_1,kind_2,sw_3,a_4,b_5)=>iM x_0_c x_0_routes x_0_l x_0_at x_0_volatile_phase x_0_volatile_plan x_0_volatile_cur x_0_volatile_want x_0_volatile_sent x_0_volatile_rest x_0_volatile_skip x_0_volatile_healed x_0_volatile_est x_0_volatile_asked x_0_volatile_out x_0_volatile_events now_1 kind_2 sw_3 a_4 b_5⟩
theorem Qe:aN prog 71 acw:=aH mixed (lp:=eg) (aR:=aR) (np:=6) (an:=[]) .nil (by kernel_rfl) (by kernel_rfl)
def rY(x_0_c:ai)(x_0_routes:Sl (Sl (Sl Int)))(x_0_l:Sl aj)(x_0_at:af)(_x_0_volatile_phase:Int)(x_0_volatile_plan:am)(x_0_volatile_cur:Int)(x_0_volatile_want:Mp Int aa)(x_0_volatile_sent:Int)(_x_0_volatile_rest:Int)(x_0_volatile_skip:Int)(_x_0_volatile_healed:Int)(x_0_volatile_est:Arr 8 ak)(x_0_volatile_asked:Arr 8 Int)(x_0_volatile_out:Sl aa)(x_0_volatile_events:Sl ax):Option (ai×Sl (Sl (Sl Int))×Sl aj×af×Int×am×Int×Mp Int aa×Int×Int×Int×Int×Arr 8 ak×Arr 8 Int×Sl aa×Sl ax):=some (x_0_c,x_0_routes,x_0_l,x_0_at,0,x_0_volatile_plan,x_0_volatile_cur,x_0_volatile_want,x_0_volatile_sent,(-1),x_0_volatile_skip,(-1),x_0_volatile_est,x_0_volatile_asked,x_0_volatile_out,x_0_volatile_events)
def acv:dC:=⟨[(true,h0)],[([],[h0])],false,[true],fun p=>match p with|(x_0_c,x_0_routes,x_0_l,x_0_at,x_0_volatile_phase,x_0_volatile_plan,x_0_volatile_cur,x_0_volatile_want,x_0_volatile_sent,x_0_volatile_rest,x_0_volatile_skip,x_0_volatile_healed,x_0_volatile_est,x_0_volatile_asked,x_0_volatile_out,x_0_volatile_events)=>rY x_0_c x_0_routes x_0_l x_0_at x_0_volatile_phase x_0_volatile_plan x_0_volatile_cur x_0_volatile_want x_0_volatile_sent x_0_volatile_rest x_0_volatile_skip x_0_volatile_healed x_0_volatile_est x_0_volatile_asked x_0_volatile_out x_0_volatile_events⟩
theorem WW:aN prog 115 acv:=aH mixed (lp:=eg) (aR:=aR) (np:=1) (an:=[]) .nil (by kernel_rfl) (by kernel_rfl)
def rF(x_0_c:ai)(x_0_routes:Sl (Sl (Sl Int)))(x_0_l:Sl aj)(x_0_at:af)(x_0_volatile_phase:Int)(x_0_volatile_plan:am)(x_0_volatile_cur:Int)(x_0_volatile_want:Mp Int aa)(x_0_volatile_sent:Int)(x_0_volatile_rest:Int)(x_0_volatile_skip:Int)(x_0_volatile_healed:Int)(x_0_volatile_est:Arr 8 ak)(x_0_volatile_asked:Arr 8 Int)(x_0_volatile_out:Sl aa)(x_0_volatile_events:Sl ax)(now_1:Int)(_up_2:Int):Option (ai×Sl (Sl (Sl Int))×Sl aj×af×Int×am×Int×Mp Int aa×Int×Int×Int×Int×Arr 8 ak×Arr 8 Int×Sl aa×Sl ax):=
 bif(x_0_volatile_phase==1)then(none)else
 (bif(x_0_volatile_phase==2)then(bif decide ((wr .i64 (x_0_volatile_cur+1))<(((am.aY x_0_volatile_plan).l).length:Int))then(none)else
 ((eD x_0_c x_0_routes x_0_l x_0_at x_0_volatile_phase x_0_volatile_plan x_0_volatile_cur x_0_volatile_want x_0_volatile_sent x_0_volatile_rest x_0_volatile_skip x_0_volatile_healed x_0_volatile_est x_0_volatile_asked x_0_volatile_out x_0_volatile_events 3 (af.U x_0_at) 0 0).bind fun(q1,q2,s3,q4,_,q6,q7,q8,q9,q10,q11,q12,q13,q14,s15,s16)=>
 some (q1,q2,s3,q4,3,q6,q7,q8,q9,q10,q11,q12,q13,q14,s15,s16)))else
 (bif(x_0_volatile_phase==4)then((eD x_0_c x_0_routes x_0_l x_0_at x_0_volatile_phase x_0_volatile_plan x_0_volatile_cur x_0_volatile_want x_0_volatile_sent x_0_volatile_rest x_0_volatile_skip x_0_volatile_healed x_0_volatile_est x_0_volatile_asked x_0_volatile_out x_0_volatile_events 5 (af.U x_0_at) 0 0).bind fun(q17,q18,s19,q20,q21,q22,q23,q24,q25,q26,q27,q28,q29,q30,s31,s32)=>
 (iM q17 q18 s19 q20 q21 q22 q23 q24 q25 q26 q27 q28 q29 q30 s31 s32 now_1 9 0 (af.pk q20) 0).bind fun(q33,q34,s35,q36,q37,q38,q39,q40,q41,q42,q43,q44,q45,q46,s47,s48)=>
 (rY q33 q34 s35 q36 q37 q38 q39 q40 q41 q42 q43 q44 q45 q46 s47 s48).bind fun(q49,q50,s51,q52,q53,q54,q55,q56,q57,q58,q59,q60,q61,q62,s63,s64)=>
 some (q49,q50,s51,q52,q53,q54,q55,q56,q57,q58,q59,q60,q61,q62,s63,s64))else
 (bif(x_0_volatile_phase==5)then(some (x_0_c,x_0_routes,x_0_l,x_0_at,x_0_volatile_phase,x_0_volatile_plan,x_0_volatile_cur,x_0_volatile_want,x_0_volatile_sent,wr .i64 ((wr .i64 (now_1+(am.Am x_0_volatile_plan)))+1),x_0_volatile_skip,x_0_volatile_healed,x_0_volatile_est,x_0_volatile_asked,x_0_volatile_out,x_0_volatile_events))else
 (some (x_0_c,x_0_routes,x_0_l,x_0_at,x_0_volatile_phase,x_0_volatile_plan,x_0_volatile_cur,x_0_volatile_want,x_0_volatile_sent,x_0_volatile_rest,x_0_volatile_skip,x_0_volatile_healed,x_0_volatile_est,x_0_volatile_asked,x_0_volatile_out,x_0_volatile_events)))))
def acu:dC:=⟨[(true,h0),(false,.x (.i .i64)),(false,.x (.i .i64))],[([],[h0])],false,[true,false,false],fun p=>match p with|(x_0_c,x_0_routes,x_0_l,x_0_at,x_0_volatile_phase,x_0_volatile_plan,x_0_volatile_cur,x_0_volatile_want,x_0_volatile_sent,x_0_volatile_rest,x_0_volatile_skip,x_0_volatile_healed,x_0_volatile_est,x_0_volatile_asked,x_0_volatile_out,x_0_volatile_events,now_1,up_2)=>rF x_0_c x_0_routes x_0_l x_0_at x_0_volatile_phase x_0_volatile_plan x_0_volatile_cur x_0_volatile_want x_0_volatile_sent x_0_volatile_rest x_0_volatile_skip x_0_volatile_healed x_0_volatile_est x_0_volatile_asked x_0_volatile_out x_0_volatile_events now_1 up_2⟩
theorem adV:aN prog 112 acu:=aH mixed (lp:=eg) (aR:=aR) (np:=3) (an:=[]) (.cons J5 (.cons Qe (.cons WW .nil))) (by kernel_rfl) (by kernel_rfl)
def tZ(x_0_volatile_plan:am)(k_2:Int)(up_3:Int)(n1:Nat):(Int×ai×Sl (Sl (Sl Int))×af×Int×am×Int×Int×Int×Int×Int×Arr 8 ak×Arr 8 Int×Sl aa×Sl aj×Mp Int aa×Sl aa×Sl ax)->Option ((Int×ai×Sl (Sl (Sl Int))×af×Int×am×Int×Int×Int×Int×Int×Arr 8 ak×Arr 8 Int×Sl aa×Sl aj×Mp Int aa×Sl aa×Sl ax)⊕(ai×Sl (Sl (Sl Int))×af×Int×am×Int×Int×Int×Int×Int×Arr 8 ak×Arr 8 Int×Sl aa×Sl aj×Mp Int aa×Sl aa×Sl ax)):=fun(i21,x22,s23,x24,i25,x26,i27,i28,i29,i30,i31,v32,v33,s34,s35,m36,s37,s38)=>
 bif decide (i21<(((aS.p8 (gt ((am.aY x_0_volatile_plan).l) n1)).l).length:Int))then(((cD i21 ((aS.p8 (gt ((am.aY x_0_volatile_plan).l) n1)).l).length).bind fun n39=>
 (AB .i64 (gu .i64 up_3 i30) (gt ((aS.p8 (gt ((am.aY x_0_volatile_plan).l) n1)).l) n39)).bind fun i40=>
 bif((p7 .i64 i40 1)==0)then((AF .i64 1 (gt ((aS.p8 (gt ((am.aY x_0_volatile_plan).l) n1)).l) n39)).bind fun i41=>
 some (x22,s23,x24,i25,x26,i27,i28,i29,As .i64 i30 i41,i31,v32,v33,s34,s35,m36,s37,s38))else
 ((ic (s34.l++[(⟨5,gt ((aS.p8 (gt ((am.aY x_0_volatile_plan).l) n1)).l) n39,af.U x24,k_2,0,0,0,0,0,Sl.nil⟩:aa)])).bind fun l42=>
 some (x22,s23,x24,i25,x26,i27,i28,i29,i30,i31,v32,v33,(Sl.mk l42),s35,m36,s37,s38)):Option (ai×Sl (Sl (Sl Int))×af×Int×am×Int×Int×Int×Int×Int×Arr 8 ak×Arr 8 Int×Sl aa×Sl aj×Mp Int aa×Sl aa×Sl ax)).bind fun(x43,s44,x45,i46,x47,i48,i49,i50,i51,i52,v53,v54,s55,s56,m57,s58,s59)=>
 some (.inl (wr .i64 (i21+1),x43,s44,x45,i46,x47,i48,i49,i50,i51,i52,v53,v54,s55,s56,m57,s58,s59)))else
 (some (.inr (x22,s23,x24,i25,x26,i27,i28,i29,i30,i31,v32,v33,s34,s35,m36,s37,s38)))
def mM(x_0_c:ai)(x_0_routes:Sl (Sl (Sl Int)))(x_0_l:Sl aj)(x_0_at:af)(x_0_volatile_phase:Int)(x_0_volatile_plan:am)(_x_0_volatile_cur:Int)(x_0_volatile_want:Mp Int aa)(x_0_volatile_sent:Int)(_x_0_volatile_rest:Int)(x_0_volatile_skip:Int)(x_0_volatile_healed:Int)(x_0_volatile_est:Arr 8 ak)(x_0_volatile_asked:Arr 8 Int)(x_0_volatile_out:Sl aa)(x_0_volatile_events:Sl ax)(now_1:Int)(k_2:Int)(up_3:Int):Option (ai×Sl (Sl (Sl Int))×Sl aj×af×Int×am×Int×Mp Int aa×Int×Int×Int×Int×Arr 8 ak×Arr 8 Int×Sl aa×Sl ax):=
 (cD k_2 ((am.aY x_0_volatile_plan).l).length).bind fun n1=>
 (aU (tZ x_0_volatile_plan k_2 up_3 n1) (0,x_0_c,x_0_routes,x_0_at,x_0_volatile_phase,x_0_volatile_plan,k_2,x_0_volatile_sent,(-1),x_0_volatile_skip,x_0_volatile_healed,x_0_volatile_est,x_0_volatile_asked,Sl.nil,x_0_l,x_0_volatile_want,x_0_volatile_out,x_0_volatile_events)).bind fun(x60,s61,x62,i63,x64,i65,i66,i67,i68,i69,v70,v71,s72,s73,m74,s75,s76)=>
 (jO x60 s61 s73 x62 i63 x64 i65 m74 i66 i67 i68 i69 v70 v71 s75 s76 now_1 s72).bind fun(q77,q78,s79,q80,q81,q82,q83,q84,q85,q86,q87,q88,q89,q90,s91,s92)=>
 bif((s72.l.length:Int)==0)then((rF q77 q78 s79 q80 q81 q82 q83 q84 q85 q86 q87 q88 q89 q90 s91 s92 now_1 up_3).bind fun(q93,q94,s95,q96,q97,q98,q99,q100,q101,q102,q103,q104,q105,q106,s107,s108)=>
 some (q93,q94,s95,q96,q97,q98,q99,q100,q101,q102,q103,q104,q105,q106,s107,s108))else
 (some (q77,q78,s79,q80,q81,q82,q83,q84,q85,q86,q87,q88,q89,q90,s91,s92))
def acs:dC:=⟨[(true,h0),(false,.x (.i .i64)),(false,.x (.i .i64)),(false,.x (.i .i64))],[([],[h0])],false,[true,false,false,false],fun p=>match p with|(x_0_c,x_0_routes,x_0_l,x_0_at,x_0_volatile_phase,x_0_volatile_plan,x_0_volatile_cur,x_0_volatile_want,x_0_volatile_sent,x_0_volatile_rest,x_0_volatile_skip,x_0_volatile_healed,x_0_volatile_est,x_0_volatile_asked,x_0_volatile_out,x_0_volatile_events,now_1,k_2,up_3)=>mM x_0_c x_0_routes x_0_l x_0_at x_0_volatile_phase x_0_volatile_plan x_0_volatile_cur x_0_volatile_want x_0_volatile_sent x_0_volatile_rest x_0_volatile_skip x_0_volatile_healed x_0_volatile_est x_0_volatile_asked x_0_volatile_out x_0_volatile_events now_1 k_2 up_3⟩
theorem ZS:aN prog 114 acs:=aH mixed (lp:=eg) (aR:=aR) (np:=4) (an:=[(7,{j:=some {vs:=[(0,.op 0 mw []),(8,.so 1),(31,.x (.i .i64))],gs:=(.co (.op 0 mw []) .ni),os:=[.bx mw (.rc (.co (.x y4) (.co (.x (.sl (.sl (.sl (.i .i64))))) (.co (.so 2) (.co (.x tm) (.co (.rc (.co (.x (.i .i64)) (.co (.x y7) (.co (.x (.i .i64)) (.co (.om 3) (.co (.x (.i .i64)) (.co (.x (.i .i64)) (.co (.x (.i .i64)) (.co (.x (.i .i64)) (.co (.x (.ar 8 y5)) (.co (.x (.ar 8 (.i .i64))) (.co (.so 4) (.co (.so 5) .ni))))))))))))) .ni)))))),.ar i_,.ar y8,.mp (.i .i64) i_,.ar i_,.ar y2],kl:=[0,13,31,76,77]},e:=[(.exit 0,{vs:=[(0,.op 0 mw []),(8,.so 1)],gs:=(.co (.op 0 mw []) .ni),os:=[.bx mw (.rc (.co (.x y4) (.co (.x (.sl (.sl (.sl (.i .i64))))) (.co (.so 2) (.co (.x tm) (.co (.rc (.co (.x (.i .i64)) (.co (.x y7) (.co (.x (.i .i64)) (.co (.om 3) (.co (.x (.i .i64)) (.co (.x (.i .i64)) (.co (.x (.i .i64)) (.co (.x (.i .i64)) (.co (.x (.ar 8 y5)) (.co (.x (.ar 8 (.i .i64))) (.co (.so 4) (.co (.so 5) .ni))))))))))))) .ni)))))),.ar i_,.ar y8,.mp (.i .i64) i_,.ar i_,.ar y2],kl:=[0,13,31,76,77]})]}),(11,{e:=[(.normal,{vs:=[(0,.op 0 mw []),(8,.so 1)],gs:=(.co (.op 0 mw []) .ni),os:=[.bx mw (.rc (.co (.x y4) (.co (.x (.sl (.sl (.sl (.i .i64))))) (.co (.so 2) (.co (.x tm) (.co (.rc (.co (.x (.i .i64)) (.co (.x y7) (.co (.x (.i .i64)) (.co (.om 3) (.co (.x (.i .i64)) (.co (.x (.i .i64)) (.co (.x (.i .i64)) (.co (.x (.i .i64)) (.co (.x (.ar 8 y5)) (.co (.x (.ar 8 (.i .i64))) (.co (.so 4) (.co (.so 5) .ni))))))))))))) .ni)))))),.ar i_,.ar y8,.mp (.i .i64) i_,.ar i_,.ar y2],kl:=[78,79,80,81,82,83]})]})]) (.cons Tv (.cons adV .nil)) (by kernel_rfl) (by kernel_rfl)
def iL(x_0_c:ai)(x_0_routes:Sl (Sl (Sl Int)))(x_0_l:Sl aj)(x_0_at:af)(x_0_volatile_phase:Int)(x_0_volatile_plan:am)(x_0_volatile_cur:Int)(x_0_volatile_want:Mp Int aa)(x_0_volatile_sent:Int)(x_0_volatile_rest:Int)(x_0_volatile_skip:Int)(x_0_volatile_healed:Int)(x_0_volatile_est:Arr 8 ak)(x_0_volatile_asked:Arr 8 Int)(x_0_volatile_out:Sl aa)(x_0_volatile_events:Sl ax)(now_1:Int)(up_2:Int):Option (ai×Sl (Sl (Sl Int))×Sl aj×af×Int×am×Int×Mp Int aa×Int×Int×Int×Int×Arr 8 ak×Arr 8 Int×Sl aa×Sl ax):=
 (bif(!(af.bH x_0_at))then((eD x_0_c x_0_routes x_0_l x_0_at x_0_volatile_phase x_0_volatile_plan x_0_volatile_cur x_0_volatile_want x_0_volatile_sent x_0_volatile_rest x_0_volatile_skip x_0_volatile_healed x_0_volatile_est x_0_volatile_asked x_0_volatile_out x_0_volatile_events 4 (af.U x_0_at) 0 0).bind fun(q1,q2,s3,q4,q5,q6,q7,q8,q9,q10,q11,q12,q13,q14,s15,s16)=>
 some (q1,q2,q4,q5,q6,q7,q9,q10,q11,q12,q13,q14,s3,q8,s15,s16))else
 (some (x_0_c,x_0_routes,x_0_at,x_0_volatile_phase,x_0_volatile_plan,x_0_volatile_cur,x_0_volatile_sent,x_0_volatile_rest,x_0_volatile_skip,x_0_volatile_healed,x_0_volatile_est,x_0_volatile_asked,x_0_l,x_0_volatile_want,x_0_volatile_out,x_0_volatile_events)):Option (ai×Sl (Sl (Sl Int))×af×Int×am×Int×Int×Int×Int×Int×Arr 8 ak×Arr 8 Int×Sl aj×Mp Int aa×Sl aa×Sl ax)).bind fun(x17,s18,x19,_,x21,i22,i23,i24,i25,i26,v27,v28,s29,m30,s31,s32)=>
 (mM x17 s18 s29 x19 5 x21 i22 m30 i23 i24 i25 i26 v27 v28 s31 s32 now_1 (wr .i64 ((((am.aY x21).l).length:Int)-1)) up_2).bind fun(q33,q34,s35,q36,q37,q38,q39,q40,q41,q42,q43,q44,q45,q46,s47,s48)=>
 some (q33,q34,s35,q36,q37,q38,q39,q40,q41,q42,q43,q44,q45,q46,s47,s48)
def acr:dC:=⟨[(true,h0),(false,.x (.i .i64)),(false,.x (.i .i64))],[([],[h0])],false,[true,false,false],fun p=>match p with|(x_0_c,x_0_routes,x_0_l,x_0_at,x_0_volatile_phase,x_0_volatile_plan,x_0_volatile_cur,x_0_volatile_want,x_0_volatile_sent,x_0_volatile_rest,x_0_volatile_skip,x_0_volatile_healed,x_0_volatile_est,x_0_volatile_asked,x_0_volatile_out,x_0_volatile_events,now_1,up_2)=>iL x_0_c x_0_routes x_0_l x_0_at x_0_volatile_phase x_0_volatile_plan x_0_volatile_cur x_0_volatile_want x_0_volatile_sent x_0_volatile_rest x_0_volatile_skip x_0_volatile_healed x_0_volatile_est x_0_volatile_asked x_0_volatile_out x_0_volatile_events now_1 up_2⟩
theorem Ts:aN prog 62 acr:=aH mixed (lp:=eg) (aR:=aR) (np:=3) (an:=[(0,{e:=[(.normal,{vs:=[(0,.op 0 mw [])],gs:=(.co (.op 0 mw []) .ni),os:=[.bx mw (.rc (.co (.x y4) (.co (.x (.sl (.sl (.sl (.i .i64))))) (.co (.so 1) (.co (.x tm) (.co (.rc (.co (.x (.i .i64)) (.co (.x y7) (.co (.x (.i .i64)) (.co (.om 2) (.co (.x (.i .i64)) (.co (.x (.i .i64)) (.co (.x (.i .i64)) (.co (.x (.i .i64)) (.co (.x (.ar 8 y5)) (.co (.x (.ar 8 (.i .i64))) (.co (.so 3) (.co (.so 4) .ni))))))))))))) .ni)))))),.ar y8,.mp (.i .i64) i_,.ar i_,.ar y2],kl:=[0,13,31,76,77]})]})]) (.cons J5 (.cons ZS .nil)) (by kernel_rfl) (by kernel_rfl)
def sY(k_2:Int)(r2:Sl Int)(q39:af)(q41:am)(n52:Nat):(Int×Sl aa)->Option ((Int×Sl aa)⊕(Sl aa)):=fun(i56,s57)=>
 bif decide (i56<(((aS.p8 (gt ((am.aY q41).l) n52)).l).length:Int))then((cD i56 ((aS.p8 (gt ((am.aY q41).l) n52)).l).length).bind fun n58=>
 (cD i56 r2.l.length).bind fun n59=>
 (ic (s57.l++[(⟨4,gt ((aS.p8 (gt ((am.aY q41).l) n52)).l) n58,af.U q39,k_2,0,gt r2.l n59,0,0,0,Sl.nil⟩:aa)])).bind fun l60=>
 some (.inl (wr .i64 (i56+1),(Sl.mk l60))))else
 (some (.inr s57))
def rb(x_0_c:ai)(x_0_routes:Sl (Sl (Sl Int)))(x_0_l:Sl aj)(x_0_at:af)(x_0_volatile_phase:Int)(x_0_volatile_plan:am)(x_0_volatile_cur:Int)(x_0_volatile_want:Mp Int aa)(x_0_volatile_sent:Int)(x_0_volatile_rest:Int)(x_0_volatile_skip:Int)(x_0_volatile_healed:Int)(x_0_volatile_est:Arr 8 ak)(x_0_volatile_asked:Arr 8 Int)(x_0_volatile_out:Sl aa)(x_0_volatile_events:Sl ax)(now_1:Int)(k_2:Int)(up_3:Int):Option (ai×Sl (Sl (Sl Int))×Sl aj×af×Int×am×Int×Mp Int aa×Int×Int×Int×Int×Arr 8 ak×Arr 8 Int×Sl aa×Sl ax):=
 (cD k_2 ((am.aY x_0_volatile_plan).l).length).bind fun n1=>
 (mO x_0_c x_0_routes x_0_l x_0_at x_0_volatile_phase x_0_volatile_plan x_0_volatile_cur x_0_volatile_want x_0_volatile_sent x_0_volatile_rest x_0_volatile_skip x_0_volatile_healed x_0_volatile_est x_0_volatile_asked x_0_volatile_out x_0_volatile_events (gt ((am.aY x_0_volatile_plan).l) n1)).bind fun(r2,r3,q4,q5,s6,q7,q8,q9,q10,q11,q12,q13,q14,q15,q16,q17,s18,s19)=>
 bif(!r3)then((iL q4 q5 s6 q7 q8 q9 q10 q11 q12 q13 q14 q15 q16 q17 s18 s19 now_1 up_3).bind fun(q20,q21,s22,q23,q24,q25,q26,q27,q28,q29,q30,q31,q32,q33,s34,s35)=>
 some (q20,q21,s22,q23,q24,q25,q26,q27,q28,q29,q30,q31,q32,q33,s34,s35))else
 ((eD q4 q5 s6 q7 q8 q9 q10 q11 q12 q13 q14 q15 q16 q17 s18 s19 2 (af.U q7) k_2 0).bind fun(q36,q37,s38,q39,_,q41,_,q43,q44,q45,q46,q47,q48,q49,s50,s51)=>
 (cD k_2 ((am.aY q41).l).length).bind fun n52=>
 (aU (sY k_2 r2 q39 q41 n52) (0,Sl.nil)).bind fun s61=>
 (jO q36 q37 s38 q39 2 q41 k_2 q43 q44 q45 q46 q47 q48 q49 s50 s51 now_1 s61).bind fun(q62,q63,s64,q65,q66,q67,q68,q69,q70,q71,q72,q73,q74,q75,s76,s77)=>
 some (q62,q63,s64,q65,q66,q67,q68,q69,q70,q71,q72,q73,q74,q75,s76,s77))
def acq:dC:=⟨[(true,h0),(false,.x (.i .i64)),(false,.x (.i .i64)),(false,.x (.i .i64))],[([],[h0])],false,[true,false,false,false],fun p=>match p with|(x_0_c,x_0_routes,x_0_l,x_0_at,x_0_volatile_phase,x_0_volatile_plan,x_0_volatile_cur,x_0_volatile_want,x_0_volatile_sent,x_0_volatile_rest,x_0_volatile_skip,x_0_volatile_healed,x_0_volatile_est,x_0_volatile_asked,x_0_volatile_out,x_0_volatile_events,now_1,k_2,up_3)=>rb x_0_c x_0_routes x_0_l x_0_at x_0_volatile_phase x_0_volatile_plan x_0_volatile_cur x_0_volatile_want x_0_volatile_sent x_0_volatile_rest x_0_volatile_skip x_0_volatile_healed x_0_volatile_est x_0_volatile_asked x_0_volatile_out x_0_volatile_events now_1 k_2 up_3⟩
theorem adU:aN prog 172 acq:=aH mixed (lp:=eg) (aR:=aR) (np:=4) (an:=[(16,{j:=some {vs:=[(10,.so 0),(61,.x (.i .i64))],os:=[.ar i_]},e:=[(.exit 0,{vs:=[(10,.so 0)],os:=[.ar i_]})]})]) (.cons ZU (.cons Ts (.cons J5 (.cons Tv .nil)))) (by kernel_rfl) (by kernel_rfl)
def pF(x_0_c:ai)(x_0_routes:Sl (Sl (Sl Int)))(x_0_l:Sl aj)(x_0_at:af)(x_0_volatile_phase:Int)(x_0_volatile_plan:am)(x_0_volatile_cur:Int)(x_0_volatile_want:Mp Int aa)(x_0_volatile_sent:Int)(x_0_volatile_rest:Int)(x_0_volatile_skip:Int)(x_0_volatile_healed:Int)(x_0_volatile_est:Arr 8 ak)(x_0_volatile_asked:Arr 8 Int)(x_0_volatile_out:Sl aa)(x_0_volatile_events:Sl ax)(now_1:Int)(up_2:Int):Option (ai×Sl (Sl (Sl Int))×Sl aj×af×Int×am×Int×Mp Int aa×Int×Int×Int×Int×Arr 8 ak×Arr 8 Int×Sl aa×Sl ax):=
 bif(x_0_volatile_phase==1)then((rb x_0_c x_0_routes x_0_l x_0_at x_0_volatile_phase x_0_volatile_plan x_0_volatile_cur x_0_volatile_want x_0_volatile_sent x_0_volatile_rest x_0_volatile_skip x_0_volatile_healed x_0_volatile_est x_0_volatile_asked x_0_volatile_out x_0_volatile_events now_1 0 up_2).bind fun(q1,q2,s3,q4,q5,q6,q7,q8,q9,q10,q11,q12,q13,q14,s15,s16)=>
 some (q1,q2,s3,q4,q5,q6,q7,q8,q9,q10,q11,q12,q13,q14,s15,s16))else
 (bif(x_0_volatile_phase==2)then(bif decide ((wr .i64 (x_0_volatile_cur+1))<(((am.aY x_0_volatile_plan).l).length:Int))then((rb x_0_c x_0_routes x_0_l x_0_at x_0_volatile_phase x_0_volatile_plan x_0_volatile_cur x_0_volatile_want x_0_volatile_sent x_0_volatile_rest x_0_volatile_skip x_0_volatile_healed x_0_volatile_est x_0_volatile_asked x_0_volatile_out x_0_volatile_events now_1 (wr .i64 (x_0_volatile_cur+1)) up_2).bind fun(q17,q18,s19,q20,q21,q22,q23,q24,q25,q26,q27,q28,q29,q30,s31,s32)=>
 some (q17,q18,s19,q20,q21,q22,q23,q24,q25,q26,q27,q28,q29,q30,s31,s32))else
 ((eD x_0_c x_0_routes x_0_l x_0_at x_0_volatile_phase x_0_volatile_plan x_0_volatile_cur x_0_volatile_want x_0_volatile_sent x_0_volatile_rest x_0_volatile_skip x_0_volatile_healed x_0_volatile_est x_0_volatile_asked x_0_volatile_out x_0_volatile_events 3 (af.U x_0_at) 0 0).bind fun(q33,q34,s35,q36,_,q38,q39,q40,q41,q42,q43,q44,q45,q46,s47,s48)=>
 some (q33,q34,s35,q36,3,q38,q39,q40,q41,q42,q43,q44,q45,q46,s47,s48)))else
 (bif(x_0_volatile_phase==4)then((eD x_0_c x_0_routes x_0_l x_0_at x_0_volatile_phase x_0_volatile_plan x_0_volatile_cur x_0_volatile_want x_0_volatile_sent x_0_volatile_rest x_0_volatile_skip x_0_volatile_healed x_0_volatile_est x_0_volatile_asked x_0_volatile_out x_0_volatile_events 5 (af.U x_0_at) 0 0).bind fun(q49,q50,s51,q52,q53,q54,q55,q56,q57,q58,q59,q60,q61,q62,s63,s64)=>
 (iM q49 q50 s51 q52 q53 q54 q55 q56 q57 q58 q59 q60 q61 q62 s63 s64 now_1 9 0 (af.pk q52) 0).bind fun(q65,q66,s67,q68,q69,q70,q71,q72,q73,q74,q75,q76,q77,q78,s79,s80)=>
 (rY q65 q66 s67 q68 q69 q70 q71 q72 q73 q74 q75 q76 q77 q78 s79 s80).bind fun(q81,q82,s83,q84,q85,q86,q87,q88,q89,q90,q91,q92,q93,q94,s95,s96)=>
 some (q81,q82,s83,q84,q85,q86,q87,q88,q89,q90,q91,q92,q93,q94,s95,s96))else
 (bif(x_0_volatile_phase==5)then(some (x_0_c,x_0_routes,x_0_l,x_0_at,x_0_volatile_phase,x_0_volatile_plan,x_0_volatile_cur,x_0_volatile_want,x_0_volatile_sent,wr .i64 ((wr .i64 (now_1+(am.Am x_0_volatile_plan)))+1),x_0_volatile_skip,x_0_volatile_healed,x_0_volatile_est,x_0_volatile_asked,x_0_volatile_out,x_0_volatile_events))else
 (some (x_0_c,x_0_routes,x_0_l,x_0_at,x_0_volatile_phase,x_0_volatile_plan,x_0_volatile_cur,x_0_volatile_want,x_0_volatile_sent,x_0_volatile_rest,x_0_volatile_skip,x_0_volatile_healed,x_0_volatile_est,x_0_volatile_asked,x_0_volatile_out,x_0_volatile_events)))))
def acp:dC:=⟨[(true,h0),(false,.x (.i .i64)),(false,.x (.i .i64))],[([],[h0])],false,[true,false,false],fun p=>match p with|(x_0_c,x_0_routes,x_0_l,x_0_at,x_0_volatile_phase,x_0_volatile_plan,x_0_volatile_cur,x_0_volatile_want,x_0_volatile_sent,x_0_volatile_rest,x_0_volatile_skip,x_0_volatile_healed,x_0_volatile_est,x_0_volatile_asked,x_0_volatile_out,x_0_volatile_events,now_1,up_2)=>pF x_0_c x_0_routes x_0_l x_0_at x_0_volatile_phase x_0_volatile_plan x_0_volatile_cur x_0_volatile_want x_0_volatile_sent x_0_volatile_rest x_0_volatile_skip x_0_volatile_healed x_0_volatile_est x_0_volatile_asked x_0_volatile_out x_0_volatile_events now_1 up_2⟩
theorem ZR:aN prog 112 acp:=aH mixed (lp:=eg) (aR:=aR) (np:=3) (an:=[]) (.cons adU (.cons J5 (.cons Qe (.cons WW .nil)))) (by kernel_rfl) (by kernel_rfl)
def n_(x_0_c:ai)(x_0_routes:Sl (Sl (Sl Int)))(x_0_l:Sl aj)(x_0_at:af)(x_0_volatile_phase:Int)(x_0_volatile_plan:am)(x_0_volatile_cur:Int)(x_0_volatile_want:Mp Int aa)(x_0_volatile_sent:Int)(x_0_volatile_rest:Int)(x_0_volatile_skip:Int)(x_0_volatile_healed:Int)(x_0_volatile_est:Arr 8 ak)(x_0_volatile_asked:Arr 8 Int)(x_0_volatile_out:Sl aa)(x_0_volatile_events:Sl ax)(now_1:Int):Option (ai×Sl (Sl (Sl Int))×Sl aj×af×Int×am×Int×Mp Int aa×Int×Int×Int×Int×Arr 8 ak×Arr 8 Int×Sl aa×Sl ax):=
 (bif decide ((x_0_volatile_want.es.length:Int)>0)then((mN x_0_c x_0_routes x_0_l x_0_at x_0_volatile_phase x_0_volatile_plan x_0_volatile_cur x_0_volatile_want x_0_volatile_sent x_0_volatile_rest x_0_volatile_skip x_0_volatile_healed x_0_volatile_est x_0_volatile_asked x_0_volatile_out x_0_volatile_events now_1 x_0_volatile_sent).bind fun(r1,q2,q3,s4,q5,q6,q7,q8,q9,q10,q11,q12,q13,q14,q15,s16,s17)=>
 some (r1,q2,q3,q5,q6,q7,q8,q10,q11,q12,q13,q14,q15,s4,q9,s16,s17))else
 (some (false,x_0_c,x_0_routes,x_0_at,x_0_volatile_phase,x_0_volatile_plan,x_0_volatile_cur,x_0_volatile_sent,x_0_volatile_rest,x_0_volatile_skip,x_0_volatile_healed,x_0_volatile_est,x_0_volatile_asked,x_0_l,x_0_volatile_want,x_0_volatile_out,x_0_volatile_events)):Option (Bool×ai×Sl (Sl (Sl Int))×af×Int×am×Int×Int×Int×Int×Int×Arr 8 ak×Arr 8 Int×Sl aj×Mp Int aa×Sl aa×Sl ax)).bind fun(b18,x19,s20,x21,i22,x23,i24,i25,i26,i27,i28,v29,v30,s31,m32,s33,s34)=>
 bif b18 then((je x19 s20 s31 x21 i22 x23 i24 m32 i25 i26 i27 i28 v29 v30 s33 s34 now_1).bind fun(q35,q36,s37,q38,q39,q40,q41,q42,q43,q44,q45,q46,q47,q48,s49,s50)=>
 some (q35,q36,s37,q38,q39,q40,q41,q42,q43,q44,q45,q46,q47,q48,s49,s50))else
 (some (x19,s20,s31,x21,i22,x23,i24,m32,i25,i26,i27,i28,v29,v30,s33,s34))
def aco:dC:=⟨[(true,h0),(false,.x (.i .i64))],[([],[h0])],false,[true,false],fun p=>match p with|(x_0_c,x_0_routes,x_0_l,x_0_at,x_0_volatile_phase,x_0_volatile_plan,x_0_volatile_cur,x_0_volatile_want,x_0_volatile_sent,x_0_volatile_rest,x_0_volatile_skip,x_0_volatile_healed,x_0_volatile_est,x_0_volatile_asked,x_0_volatile_out,x_0_volatile_events,now_1)=>n_ x_0_c x_0_routes x_0_l x_0_at x_0_volatile_phase x_0_volatile_plan x_0_volatile_cur x_0_volatile_want x_0_volatile_sent x_0_volatile_rest x_0_volatile_skip x_0_volatile_healed x_0_volatile_est x_0_volatile_asked x_0_volatile_out x_0_volatile_events now_1⟩
theorem ZQ:aN prog 113 aco:=aH mixed (lp:=eg) (aR:=aR) (np:=2) (an:=[(1,{j:=some {vs:=[(0,.op 0 mw []),(20,.x .b)],gs:=(.co (.op 0 mw []) .ni),os:=[.bx mw (.rc (.co (.x y4) (.co (.x (.sl (.sl (.sl (.i .i64))))) (.co (.so 1) (.co (.x tm) (.co (.rc (.co (.x (.i .i64)) (.co (.x y7) (.co (.x (.i .i64)) (.co (.om 2) (.co (.x (.i .i64)) (.co (.x (.i .i64)) (.co (.x (.i .i64)) (.co (.x (.i .i64)) (.co (.x (.ar 8 y5)) (.co (.x (.ar 8 (.i .i64))) (.co (.so 3) (.co (.so 4) .ni))))))))))))) .ni)))))),.ar y8,.mp (.i .i64) i_,.ar i_,.ar y2],kl:=[0,13,31,76,77]}})]) (.cons W0 (.cons ZT .nil)) (by kernel_rfl) (by kernel_rfl)
def pG(x_0_c:ai)(x_0_routes:Sl (Sl (Sl Int)))(x_0_l:Sl aj)(x_0_at:af)(x_0_volatile_phase:Int)(x_0_volatile_plan:am)(x_0_volatile_cur:Int)(x_0_volatile_want:Mp Int aa)(x_0_volatile_sent:Int)(x_0_volatile_rest:Int)(x_0_volatile_skip:Int)(x_0_volatile_healed:Int)(x_0_volatile_est:Arr 8 ak)(x_0_volatile_asked:Arr 8 Int)(x_0_volatile_out:Sl aa)(x_0_volatile_events:Sl ax)(now_1:Int)(up_2:Int):Option (ai×Sl (Sl (Sl Int))×Sl aj×af×Int×am×Int×Mp Int aa×Int×Int×Int×Int×Arr 8 ak×Arr 8 Int×Sl aa×Sl ax):=
 bif A7 x_0_volatile_want then(bif((decide ((x_0_volatile_want.es.length:Int)>0))&&(((rL up_2 x_0_volatile_want).es.length:Int)==0))then((pF x_0_c x_0_routes x_0_l x_0_at x_0_volatile_phase x_0_volatile_plan x_0_volatile_cur (rL up_2 x_0_volatile_want) x_0_volatile_sent x_0_volatile_rest (kC up_2 x_0_volatile_want x_0_volatile_skip) x_0_volatile_healed x_0_volatile_est x_0_volatile_asked x_0_volatile_out x_0_volatile_events now_1 up_2).bind fun(q1,q2,s3,q4,q5,q6,q7,q8,q9,q10,q11,q12,q13,q14,s15,s16)=>
 some (q1,q2,s3,q4,q5,q6,q7,q8,q9,q10,q11,q12,q13,q14,s15,s16))else
 (bif((x_0_volatile_rest==(-1))||(decide (now_1<x_0_volatile_rest)))then((n_ x_0_c x_0_routes x_0_l x_0_at x_0_volatile_phase x_0_volatile_plan x_0_volatile_cur (rL up_2 x_0_volatile_want) x_0_volatile_sent x_0_volatile_rest (kC up_2 x_0_volatile_want x_0_volatile_skip) x_0_volatile_healed x_0_volatile_est x_0_volatile_asked x_0_volatile_out x_0_volatile_events now_1).bind fun(q17,q18,s19,q20,q21,q22,q23,q24,q25,q26,q27,q28,q29,q30,s31,s32)=>
 some (q17,q18,s19,q20,q21,q22,q23,q24,q25,q26,q27,q28,q29,q30,s31,s32))else
 (bif decide (x_0_volatile_cur>0)then((mM x_0_c x_0_routes x_0_l x_0_at x_0_volatile_phase x_0_volatile_plan x_0_volatile_cur (rL up_2 x_0_volatile_want) x_0_volatile_sent x_0_volatile_rest (kC up_2 x_0_volatile_want x_0_volatile_skip) x_0_volatile_healed x_0_volatile_est x_0_volatile_asked x_0_volatile_out x_0_volatile_events now_1 (wr .i64 (x_0_volatile_cur-1)) up_2).bind fun(q33,q34,s35,q36,q37,q38,q39,q40,q41,q42,q43,q44,q45,q46,s47,s48)=>
 some (q33,q34,s35,q36,q37,q38,q39,q40,q41,q42,q43,q44,q45,q46,s47,s48))else
 ((AF .i64 1 (ao.au (ai.T x_0_c))).bind fun i49=>
 (eD x_0_c x_0_routes x_0_l x_0_at x_0_volatile_phase x_0_volatile_plan x_0_volatile_cur (rL up_2 x_0_volatile_want) x_0_volatile_sent x_0_volatile_rest (kC up_2 x_0_volatile_want x_0_volatile_skip) x_0_volatile_healed x_0_volatile_est x_0_volatile_asked x_0_volatile_out x_0_volatile_events 6 (af.U x_0_at) (As .i64 (kC up_2 x_0_volatile_want x_0_volatile_skip) (gu .i64 (wr .i64 (i49-1)) up_2)) 0).bind fun(q50,q51,s52,q53,q54,q55,q56,q57,q58,q59,q60,q61,q62,q63,s64,s65)=>
 (iM q50 q51 s52 q53 q54 q55 q56 q57 q58 q59 q60 q61 q62 q63 s64 s65 now_1 10 0 (As .i64 (kC up_2 x_0_volatile_want x_0_volatile_skip) (gu .i64 (wr .i64 (i49-1)) up_2)) 0).bind fun(q66,q67,s68,q69,q70,q71,q72,q73,q74,q75,q76,q77,q78,q79,s80,s81)=>
 (rY q66 q67 s68 q69 q70 q71 q72 q73 q74 q75 q76 q77 q78 q79 s80 s81).bind fun(q82,q83,s84,q85,q86,q87,q88,q89,q90,q91,q92,q93,q94,q95,s96,s97)=>
 some (q82,q83,s84,q85,q86,q87,q88,q89,q90,q91,q92,q93,q94,q95,s96,s97)))))else(none)
def acn:dC:=⟨[(true,h0),(false,.x (.i .i64)),(false,.x (.i .i64))],[([],[h0])],false,[true,false,false],fun p=>match p with|(x_0_c,x_0_routes,x_0_l,x_0_at,x_0_volatile_phase,x_0_volatile_plan,x_0_volatile_cur,x_0_volatile_want,x_0_volatile_sent,x_0_volatile_rest,x_0_volatile_skip,x_0_volatile_healed,x_0_volatile_est,x_0_volatile_asked,x_0_volatile_out,x_0_volatile_events,now_1,up_2)=>pG x_0_c x_0_routes x_0_l x_0_at x_0_volatile_phase x_0_volatile_plan x_0_volatile_cur x_0_volatile_want x_0_volatile_sent x_0_volatile_rest x_0_volatile_skip x_0_volatile_healed x_0_volatile_est x_0_volatile_asked x_0_volatile_out x_0_volatile_events now_1 up_2⟩
theorem adT:aN prog 59 acn:=aH mixed (lp:=eg) (aR:=aR) (np:=3) (an:=[]) (.QS @Xk (.cons ZR (.cons ZQ (.cons ZS (.cons J5 (.cons Qe (.cons WW .nil))))))) (by kernel_rfl) (by kernel_rfl)
def ng(p_0:am)(i7:Int)(n9:Nat):(Int×Int×Arr 8 Int)->Option ((Int×Int×Arr 8 Int)⊕(Int×Arr 8 Int)):=fun(i15,i16,v17)=>
 bif decide (i16<(((aS.p8 (gt ((am.aY p_0).l) n9)).l).length:Int))then((cD i16 ((aS.p8 (gt ((am.aY p_0).l) n9)).l).length).bind fun n18=>
 (AF .i64 1 (gt ((aS.p8 (gt ((am.aY p_0).l) n9)).l) n18)).bind fun i19=>
 (cD (gt ((aS.p8 (gt ((am.aY p_0).l) n9)).l) n18) 8).bind fun n20=>
 (AF .i64 1 i7).bind fun i21=>
 (cD (gt ((aS.p8 (gt ((am.aY p_0).l) n9)).l) n18) 8).bind fun n22=>
 some (.inl (As .i64 i15 i19,wr .i64 (i16+1),Arr.set v17 n22 (As .i64 (gt v17.1 n20) i21))))else
 (some (.inr (i15,v17)))
def nf(p_0:am):(Int×Int×Arr 8 Int)->Option ((Int×Int×Arr 8 Int)⊕(Int×Arr 8 Int)):=fun(i6,i7,v8)=>
 bif decide (i7<(((am.aY p_0).l).length:Int))then((cD i7 ((am.aY p_0).l).length).bind fun n9=>
 (aU (ng p_0 i7 n9) (i6,0,v8)).bind fun(i23,v24)=>
 some (.inl (i23,wr .i64 (i7+1),v24)))else
 (some (.inr (i6,v8)))
def iU(p_0:am):Option (Int×Arr 8 Int):=
 (aU (nf p_0) (0,0,(pV (.ar 8 (.i .i64))))).bind fun(i25,v26)=>
 some (i25,v26)
def acm:dC:=⟨[(false,.x y7)],[([.x (.i .i64),.x (.ar 8 (.i .i64))],[])],true,[],fun p=>match p with|p_0=>iU p_0⟩
theorem WV:aN prog 67 acm:=aH mixed (lp:=eg) (aR:=aR) (np:=1) (an:=[(7,{j:=some {vs:=[(4,.x (.i .i64)),(5,.op 0 (.ar 8 (.i .i64)) []),(14,.x (.i .i64))],os:=[.bx (.ar 8 (.i .i64)) (.x (.ar 8 (.i .i64)))],kl:=[2]},e:=[(.exit 0,{vs:=[(4,.x (.i .i64)),(5,.op 0 (.ar 8 (.i .i64)) [])],os:=[.bx (.ar 8 (.i .i64)) (.x (.ar 8 (.i .i64)))],kl:=[2]})]}),(16,{j:=some {vs:=[(4,.x (.i .i64)),(5,.op 0 (.ar 8 (.i .i64)) []),(22,.x (.i .i64))],os:=[.bx (.ar 8 (.i .i64)) (.x (.ar 8 (.i .i64)))],kl:=[3]},e:=[(.exit 2,{vs:=[(4,.x (.i .i64)),(5,.op 0 (.ar 8 (.i .i64)) [])],os:=[.bx (.ar 8 (.i .i64)) (.x (.ar 8 (.i .i64)))],kl:=[3]})]})]) .nil (by kernel_rfl) (by kernel_rfl)
def qE(x_0_c:ai)(x_0_at:af)(r1:Int)(r2:Arr 8 Int):(Int×Sl aa)->Option ((Int×Sl aa)⊕(Sl aa)):=fun(i6,s7)=>
 bif decide (i6<(ao.au (ai.T x_0_c)))then(((AB .i64 r1 i6).bind fun i8=>
 bif((p7 .i64 i8 1)==1)then((cD i6 8).bind fun n9=>
 (ic (s7.l++[(⟨6,i6,af.U x_0_at,0,0,0,0,0,gt r2.1 n9,Sl.nil⟩:aa)])).bind fun l10=>
 some (Sl.mk l10))else
 (some s7):Option (Sl aa)).bind fun s11=>
 some (.inl (wr .i64 (i6+1),s11)))else
 (some (.inr s7))
def qO(x_0_c:ai)(x_0_routes:Sl (Sl (Sl Int)))(x_0_l:Sl aj)(x_0_at:af)(_x_0_volatile_phase:Int)(x_0_volatile_plan:am)(x_0_volatile_cur:Int)(x_0_volatile_want:Mp Int aa)(x_0_volatile_sent:Int)(x_0_volatile_rest:Int)(x_0_volatile_skip:Int)(x_0_volatile_healed:Int)(x_0_volatile_est:Arr 8 ak)(x_0_volatile_asked:Arr 8 Int)(x_0_volatile_out:Sl aa)(x_0_volatile_events:Sl ax)(now_1:Int):Option (ai×Sl (Sl (Sl Int))×Sl aj×af×Int×am×Int×Mp Int aa×Int×Int×Int×Int×Arr 8 ak×Arr 8 Int×Sl aa×Sl ax):=
 (iU x_0_volatile_plan).bind fun(r1,r2)=>
 (aU (qE x_0_c x_0_at r1 r2) (0,Sl.nil)).bind fun s12=>
 (jO x_0_c x_0_routes x_0_l x_0_at 4 x_0_volatile_plan x_0_volatile_cur x_0_volatile_want x_0_volatile_sent x_0_volatile_rest x_0_volatile_skip x_0_volatile_healed x_0_volatile_est x_0_volatile_asked x_0_volatile_out x_0_volatile_events now_1 s12).bind fun(q13,q14,s15,q16,q17,q18,q19,q20,q21,q22,q23,q24,q25,q26,s27,s28)=>
 some (q13,q14,s15,q16,q17,q18,q19,q20,q21,q22,q23,q24,q25,q26,s27,s28)
def acl:dC:=⟨[(true,h0),(false,.x (.i .i64))],[([],[h0])],false,[true,false],fun p=>match p with|(x_0_c,x_0_routes,x_0_l,x_0_at,x_0_volatile_phase,x_0_volatile_plan,x_0_volatile_cur,x_0_volatile_want,x_0_volatile_sent,x_0_volatile_rest,x_0_volatile_skip,x_0_volatile_healed,x_0_volatile_est,x_0_volatile_asked,x_0_volatile_out,x_0_volatile_events,now_1)=>qO x_0_c x_0_routes x_0_l x_0_at x_0_volatile_phase x_0_volatile_plan x_0_volatile_cur x_0_volatile_want x_0_volatile_sent x_0_volatile_rest x_0_volatile_skip x_0_volatile_healed x_0_volatile_est x_0_volatile_asked x_0_volatile_out x_0_volatile_events now_1⟩
theorem adS:aN prog 116 acl:=aH mixed (lp:=eg) (aR:=aR) (np:=2) (an:=[(9,{j:=some {vs:=[(6,.so 0),(27,.x (.i .i64))],os:=[.ar i_]},e:=[(.exit 0,{vs:=[(6,.so 0)],os:=[.ar i_]})]}),(13,{e:=[(.normal,{vs:=[(6,.so 0)],os:=[.ar i_],kl:=[88]})]})]) (.cons WV (.cons Tv .nil)) (by kernel_rfl) (by kernel_rfl)
def nZ(x_0_c:ai)(x_0_routes:Sl (Sl (Sl Int)))(x_0_l:Sl aj)(x_0_at:af)(x_0_volatile_phase:Int)(x_0_volatile_plan:am)(x_0_volatile_cur:Int)(x_0_volatile_want:Mp Int aa)(x_0_volatile_sent:Int)(x_0_volatile_rest:Int)(x_0_volatile_skip:Int)(x_0_volatile_healed:Int)(x_0_volatile_est:Arr 8 ak)(x_0_volatile_asked:Arr 8 Int)(x_0_volatile_out:Sl aa)(x_0_volatile_events:Sl ax)(now_1:Int)(up_2:Int):Option (ai×Sl (Sl (Sl Int))×Sl aj×af×Int×am×Int×Mp Int aa×Int×Int×Int×Int×Arr 8 ak×Arr 8 Int×Sl aa×Sl ax):=
 (iU x_0_volatile_plan).bind fun(r1,_)=>
 (bif(x_0_volatile_phase==2)then(some x_0_volatile_cur)else
 (some 0):Option Int).bind fun i3=>
 bif((gu .i64 r1 up_2) !=0)then((iL x_0_c x_0_routes x_0_l x_0_at x_0_volatile_phase x_0_volatile_plan x_0_volatile_cur x_0_volatile_want x_0_volatile_sent x_0_volatile_rest x_0_volatile_skip x_0_volatile_healed x_0_volatile_est x_0_volatile_asked x_0_volatile_out x_0_volatile_events now_1 up_2).bind fun(q4,q5,s6,q7,q8,q9,q10,q11,q12,q13,q14,q15,q16,q17,s18,s19)=>
 some (q4,q5,s6,q7,q8,q9,q10,q11,q12,q13,q14,q15,q16,q17,s18,s19))else
 ((bif decide (x_0_volatile_phase<=2)then((cD i3 ((am.aY x_0_volatile_plan).l).length).bind fun n20=>
 some (decide (now_1>=(wr .i64 ((aS.At (gt ((am.aY x_0_volatile_plan).l) n20))-(ai.KZ x_0_c))))))else
 (some false):Option Bool).bind fun b21=>
 bif b21 then((iL x_0_c x_0_routes x_0_l x_0_at x_0_volatile_phase x_0_volatile_plan x_0_volatile_cur x_0_volatile_want x_0_volatile_sent x_0_volatile_rest x_0_volatile_skip x_0_volatile_healed x_0_volatile_est x_0_volatile_asked x_0_volatile_out x_0_volatile_events now_1 up_2).bind fun(q22,q23,s24,q25,q26,q27,q28,q29,q30,q31,q32,q33,q34,q35,s36,s37)=>
 some (q22,q23,s24,q25,q26,q27,q28,q29,q30,q31,q32,q33,q34,q35,s36,s37))else
 (bif((x_0_volatile_phase==3)&&(decide (now_1>(am.To x_0_volatile_plan))))then((qO x_0_c x_0_routes x_0_l x_0_at x_0_volatile_phase x_0_volatile_plan x_0_volatile_cur x_0_volatile_want x_0_volatile_sent x_0_volatile_rest x_0_volatile_skip x_0_volatile_healed x_0_volatile_est x_0_volatile_asked x_0_volatile_out x_0_volatile_events now_1).bind fun(q38,q39,s40,q41,q42,q43,q44,q45,q46,q47,q48,q49,q50,q51,s52,s53)=>
 some (q38,q39,s40,q41,q42,q43,q44,q45,q46,q47,q48,q49,q50,q51,s52,s53))else
 ((n_ x_0_c x_0_routes x_0_l x_0_at x_0_volatile_phase x_0_volatile_plan x_0_volatile_cur x_0_volatile_want x_0_volatile_sent x_0_volatile_rest x_0_volatile_skip x_0_volatile_healed x_0_volatile_est x_0_volatile_asked x_0_volatile_out x_0_volatile_events now_1).bind fun(q54,q55,s56,q57,q58,q59,q60,q61,q62,q63,q64,q65,q66,q67,s68,s69)=>
 some (q54,q55,s56,q57,q58,q59,q60,q61,q62,q63,q64,q65,q66,q67,s68,s69))))
def ack:dC:=⟨[(true,h0),(false,.x (.i .i64)),(false,.x (.i .i64))],[([],[h0])],false,[true,false,false],fun p=>match p with|(x_0_c,x_0_routes,x_0_l,x_0_at,x_0_volatile_phase,x_0_volatile_plan,x_0_volatile_cur,x_0_volatile_want,x_0_volatile_sent,x_0_volatile_rest,x_0_volatile_skip,x_0_volatile_healed,x_0_volatile_est,x_0_volatile_asked,x_0_volatile_out,x_0_volatile_events,now_1,up_2)=>nZ x_0_c x_0_routes x_0_l x_0_at x_0_volatile_phase x_0_volatile_plan x_0_volatile_cur x_0_volatile_want x_0_volatile_sent x_0_volatile_rest x_0_volatile_skip x_0_volatile_healed x_0_volatile_est x_0_volatile_asked x_0_volatile_out x_0_volatile_events now_1 up_2⟩
theorem adR:aN prog 60 ack:=aH mixed (lp:=eg) (aR:=aR) (np:=3) (an:=[(4,{e:=[(.normal,{vs:=[(8,.x (.i .i64))]})]}),(12,{j:=some {vs:=[(41,.x .b)]}})]) (.cons WV (.cons Ts (.cons adS (.cons ZQ .nil)))) (by kernel_rfl) (by kernel_rfl)
def iV(x_0_c:ai)(x_0_routes:Sl (Sl (Sl Int)))(x_0_l:Sl aj)(x_0_at:af)(x_0_volatile_phase:Int)(x_0_volatile_plan:am)(x_0_volatile_cur:Int)(x_0_volatile_want:Mp Int aa)(x_0_volatile_sent:Int)(x_0_volatile_rest:Int)(x_0_volatile_skip:Int)(x_0_volatile_healed:Int)(x_0_volatile_est:Arr 8 ak)(x_0_volatile_asked:Arr 8 Int)(x_0_volatile_out:Sl aa)(x_0_volatile_events:Sl ax)(now_1:Int)(up_2:Int):Option (ai×Sl (Sl (Sl Int))×Sl aj×af×Int×am×Int×Mp Int aa×Int×Int×Int×Int×Arr 8 ak×Arr 8 Int×Sl aa×Sl ax):=
 (fG x_0_c x_0_routes x_0_l x_0_at x_0_volatile_phase x_0_volatile_plan x_0_volatile_cur x_0_volatile_want x_0_volatile_sent x_0_volatile_rest x_0_volatile_skip x_0_volatile_healed x_0_volatile_est x_0_volatile_asked x_0_volatile_out x_0_volatile_events).bind fun(r1,q2,q3,s4,q5,q6,q7,q8,q9,q10,q11,q12,q13,q14,q15,s16,s17)=>
 bif(r1==6)then(some (q2,q3,s4,q5,q6,q7,q8,q9,q10,q11,q12,q13,q14,q15,s16,s17))else
 ((lV q2 q3 s4 q5 q6 q7 q8 q9 q10 q11 q12 q13 q14 q15 s16 s17 now_1 up_2).bind fun(q18,q19,s20,q21,q22,q23,q24,q25,q26,q27,q28,q29,q30,q31,s32,s33)=>
 bif(q22==0)then((nh q18 q19 s20 q21 q22 q23 q24 q25 q26 q27 q28 q29 q30 q31 s32 s33 now_1 up_2).bind fun(q34,q35,s36,q37,q38,q39,q40,q41,q42,q43,q44,q45,q46,q47,s48,s49)=>
 some (q34,q35,s36,q37,q38,q39,q40,q41,q42,q43,q44,q45,q46,q47,s48,s49))else
 (bif(q22==5)then((pG q18 q19 s20 q21 q22 q23 q24 q25 q26 q27 q28 q29 q30 q31 s32 s33 now_1 up_2).bind fun(q50,q51,s52,q53,q54,q55,q56,q57,q58,q59,q60,q61,q62,q63,s64,s65)=>
 some (q50,q51,s52,q53,q54,q55,q56,q57,q58,q59,q60,q61,q62,q63,s64,s65))else
 ((nZ q18 q19 s20 q21 q22 q23 q24 q25 q26 q27 q28 q29 q30 q31 s32 s33 now_1 up_2).bind fun(q66,q67,s68,q69,q70,q71,q72,q73,q74,q75,q76,q77,q78,q79,s80,s81)=>
 some (q66,q67,s68,q69,q70,q71,q72,q73,q74,q75,q76,q77,q78,q79,s80,s81))))
def ZB:dC:=⟨[(true,h0),(false,.x (.i .i64)),(false,.x (.i .i64))],[([],[h0])],false,[true,false,false],fun p=>match p with|(x_0_c,x_0_routes,x_0_l,x_0_at,x_0_volatile_phase,x_0_volatile_plan,x_0_volatile_cur,x_0_volatile_want,x_0_volatile_sent,x_0_volatile_rest,x_0_volatile_skip,x_0_volatile_healed,x_0_volatile_est,x_0_volatile_asked,x_0_volatile_out,x_0_volatile_events,now_1,up_2)=>iV x_0_c x_0_routes x_0_l x_0_at x_0_volatile_phase x_0_volatile_plan x_0_volatile_cur x_0_volatile_want x_0_volatile_sent x_0_volatile_rest x_0_volatile_skip x_0_volatile_healed x_0_volatile_est x_0_volatile_asked x_0_volatile_out x_0_volatile_events now_1 up_2⟩
theorem VF:aN prog 24 ZB:=aH mixed (lp:=eg) (aR:=aR) (np:=3) (an:=[]) (.cons Tx (.cons ad4 (.cons ad3 (.cons adT (.cons adR .nil))))) (by kernel_rfl) (by kernel_rfl)
def E3(kind_0:Int):Option Int:=
 bif(kind_0==1)then(some 1)else
 (bif(kind_0==2)then(some 7)else
 (bif(kind_0==3)then(some 152)else
 (bif(kind_0==4)then(some 26)else
 (bif(kind_0==5)then(some 24)else
 (bif(kind_0==6)then(some 72)else
 (bif(kind_0==7)then(some 60)else
 (bif(kind_0==8)then(some 124)else
 (some 0))))))))
def ZA:dC:=⟨[(false,.x (.i .i64))],[([.x (.i .i64)],[])],true,[],fun p=>match p with|kind_0=>E3 kind_0⟩
theorem abc:aN prog 119 ZA:=aH mixed (lp:=eg) (aR:=aR) (np:=1) (an:=[]) .nil (by kernel_rfl) (by kernel_rfl)
theorem VK:EJ prog 119 (Vj [(1,1),(2,7),(3,152),(4,26),(5,24),(6,72),(7,60),(8,124)] 0):=O4 (fn:=E3) (ro:=true) abc fun x=>rfl
def f0(n_0:Int)(from_1:Int)(to_2:Int):Option Bool:=some ((decide (n_0>=from_1))&&(decide (n_0<=to_2)))
def Zz:dC:=⟨[(false,.x (.i .i64)),(false,.x (.i .i64)),(false,.x (.i .i64))],[([.x .b],[])],true,[],fun p=>match p with|(n_0,from_1,to_2)=>f0 n_0 from_1 to_2⟩
theorem VE:aN prog 120 Zz:=aH mixed (lp:=eg) (aR:=aR) (np:=3) (an:=[]) .nil (by kernel_rfl) (by kernel_rfl)
def qX(m_0:aa):Option aa:=
 bif((aa.cN m_0)==1)then(some (⟨aa.cN m_0,aa.Sw m_0,0,0,aa.T1 m_0,0,0,0,0,Sl.nil⟩:aa))else
 (bif((aa.cN m_0)==2)then(some (⟨aa.cN m_0,aa.Sw m_0,0,0,aa.T1 m_0,aa.T2 m_0,aa.Am m_0,0,0,Sl.nil⟩:aa))else
 (bif((aa.cN m_0)==3)then(some (⟨aa.cN m_0,aa.Sw m_0,aa.U m_0,aa.Rd m_0,0,0,0,0,0,aa.nq m_0⟩:aa))else
 (bif((aa.cN m_0)==4)then(some (⟨aa.cN m_0,aa.Sw m_0,aa.U m_0,aa.Rd m_0,0,aa.T2 m_0,0,0,0,Sl.nil⟩:aa))else
 (bif((aa.cN m_0)==5)then(some (⟨aa.cN m_0,aa.Sw m_0,aa.U m_0,aa.Rd m_0,0,0,0,0,0,Sl.nil⟩:aa))else
 (bif((aa.cN m_0)==6)then(some (⟨aa.cN m_0,aa.Sw m_0,aa.U m_0,0,0,0,0,0,aa.Code m_0,Sl.nil⟩:aa))else
 (bif((aa.cN m_0)==7)then(some (⟨aa.cN m_0,aa.Sw m_0,aa.U m_0,aa.Rd m_0,0,0,aa.Am m_0,aa.Of m_0,0,Sl.nil⟩:aa))else
 (bif((aa.cN m_0)==8)then(some (⟨aa.cN m_0,aa.Sw m_0,aa.U m_0,aa.Rd m_0,0,0,aa.Am m_0,aa.Of m_0,aa.Code m_0,Sl.nil⟩:aa))else
 (some (⟨aa.cN m_0,aa.Sw m_0,0,0,0,0,0,0,0,Sl.nil⟩:aa)))))))))
def Zy:dC:=⟨[(false,.x i_)],[([.x i_],[])],false,[],fun p=>match p with|m_0=>qX m_0⟩
theorem abb:aN prog 122 Zy:=aH mixed (lp:=eg) (aR:=adL) (np:=1) (an:=[(7,{u:=12})]) (.QS @VK .nil) (by kernel_rfl) (by kernel_rfl)
def CP(a_0:cX)(b_1:cX):Option Bool:=some (((cX.R_ a_0)==(cX.R_ b_1))&&(decide ((cX.M a_0)=(cX.M b_1))))
def Zx:dC:=⟨[(false,.x Vh),(false,.x Vh)],[([.x .b],[])],true,[],fun p=>match p with|(a_0,b_1)=>CP a_0 b_1⟩
theorem aba:aN prog 277 Zx:=aH mixed (lp:=eg) (aR:=aR) (np:=2) (an:=[]) .nil (by kernel_rfl) (by kernel_rfl)
def ko(s1_0:Sl dS)(s2_1:Sl dS):Int->Option (Int⊕(Bool⊕Unit)):=fun i2=>
 bif decide (i2<(s1_0.l.length:Int))then((cD i2 s1_0.l.length).bind fun n3=>
 (cD i2 s2_1.l.length).bind fun n4=>
 bif(!(decide ((gt s1_0.l n3)=(gt s2_1.l n4))))then(some (.inr (.inl false)))else
 (some (.inl (wr .i64 (i2+1)))))else
 (some (.inr (.inr ())))
def iq(s1_0:Sl dS)(s2_1:Sl dS):Option Bool:=
 bif((s1_0.l.length:Int) !=(s2_1.l.length:Int))then(some false)else
 ((aU (ko s1_0 s2_1) 0).bind fun
 |.inl b5=>(some b5)
 |.inr _=>(some true))
def Zw:dC:=⟨[(false,.x (.sl y3)),(false,.x (.sl y3))],[([.x .b],[])],true,[],fun p=>match p with|(s1_0,s2_1)=>iq s1_0 s2_1⟩
theorem aa_:aN prog 322 Zw:=aH mixed (lp:=eg) (aR:=aR) (np:=2) (an:=[(10,{j:=some {vs:=[(13,.x (.i .i64))]},e:=[(.ret,{vs:=[(4,.x .b)]}),(.exit 0,{})]})]) .nil (by kernel_rfl) (by kernel_rfl)
def Ag(a_0:Sl dS)(b_1:Sl dS):Option Bool:=
 (iq a_0 b_1).bind fun r1=>
 some r1
def Zv:dC:=⟨[(false,.x (.sl y3)),(false,.x (.sl y3))],[([.x .b],[])],true,[],fun p=>match p with|(a_0,b_1)=>Ag a_0 b_1⟩
theorem aa9:aN prog 278 Zv:=aH mixed (lp:=eg) (aR:=aR) (np:=2) (an:=[]) (.cons aa_ .nil) (by kernel_rfl) (by kernel_rfl)
def AH(a_0:cX)(b_1:cX):Option Bool:=
 ((CP a_0 b_1).bind fun r1=>
 bif r1 then((Ag (cX.GK a_0) (cX.GK b_1)).bind fun r2=>
 some r2)else
 (some false):Option Bool).bind fun b3=>
 some b3
def Zu:dC:=⟨[(false,.x Vh),(false,.x Vh)],[([.x .b],[])],true,[],fun p=>match p with|(a_0,b_1)=>AH a_0 b_1⟩
theorem aa8:aN prog 240 Zu:=aH mixed (lp:=eg) (aR:=aR) (np:=2) (an:=[(3,{j:=some {vs:=[(4,.x .b)]}})]) (.cons aba (.cons aa9 .nil)) (by kernel_rfl) (by kernel_rfl)
def mF(a_0:bl)(b_1:bl):Option Bool:=
 (bif(((bl.cN a_0)==(bl.cN b_1))&&((bl.V8 a_0)==(bl.V8 b_1)))then((AH (bl.R a_0) (bl.R b_1)).bind fun r1=>
 some r1)else
 (some false):Option Bool).bind fun b2=>
 some b2
def Zt:dC:=⟨[(false,.x K5),(false,.x K5)],[([.x .b],[])],true,[],fun p=>match p with|(a_0,b_1)=>mF a_0 b_1⟩
theorem aa7:aN prog 181 Zt:=aH mixed (lp:=eg) (aR:=aR) (np:=2) (an:=[(3,{j:=some {vs:=[(4,.x .b)]}})]) (.cons aa8 .nil) (by kernel_rfl) (by kernel_rfl)
def bI(s1_0:Sl bl)(s2_1:Sl bl):Int->Option (Int⊕(Bool⊕Unit)):=fun i2=>
 bif decide (i2<(s1_0.l.length:Int))then((cD i2 s1_0.l.length).bind fun n3=>
 (cD i2 s2_1.l.length).bind fun n4=>
 (mF (gt s1_0.l n3) (gt s2_1.l n4)).bind fun r5=>
 bif(!r5)then(some (.inr (.inl false)))else
 (some (.inl (wr .i64 (i2+1)))))else
 (some (.inr (.inr ())))
def bm(s1_0:Sl bl)(s2_1:Sl bl):Option Bool:=
 bif((s1_0.l.length:Int) !=(s2_1.l.length:Int))then(some false)else
 ((aU (bI s1_0 s2_1) 0).bind fun
 |.inl b6=>(some b6)
 |.inr _=>(some true))
def Zs:dC:=⟨[(false,.x (.sl K5)),(false,.x (.sl K5)),(false,.fn 181 .ni)],[([.x .b],[])],true,[],fun p=>match p with|(s1_0,s2_1)=>bm s1_0 s2_1⟩
theorem aa6:aN prog 180 Zs:=aH mixed (lp:=eg) (aR:=aR) (np:=3) (an:=[(10,{j:=some {vs:=[(17,.x (.i .i64))]},e:=[(.ret,{vs:=[(6,.x .b)]}),(.exit 0,{})]})]) (.cons aa7 .nil) (by kernel_rfl) (by kernel_rfl)
def qp(a_0:aa)(b_1:aa):Option Bool:=
 (bif((((((((((aa.cN a_0)==(aa.cN b_1))&&((aa.Sw a_0)==(aa.Sw b_1)))&&((aa.U a_0)==(aa.U b_1)))&&((aa.Rd a_0)==(aa.Rd b_1)))&&((aa.T1 a_0)==(aa.T1 b_1)))&&((aa.T2 a_0)==(aa.T2 b_1)))&&((aa.Am a_0)==(aa.Am b_1)))&&((aa.Of a_0)==(aa.Of b_1)))&&((aa.Code a_0)==(aa.Code b_1)))then((bm (aa.nq a_0) (aa.nq b_1)).bind fun r1=>
 some r1)else
 (some false):Option Bool).bind fun b2=>
 some b2
def Zr:dC:=⟨[(false,.x i_),(false,.x i_)],[([.x .b],[])],true,[],fun p=>match p with|(a_0,b_1)=>qp a_0 b_1⟩
theorem aa5:aN prog 121 Zr:=aH mixed (lp:=eg) (aR:=aR) (np:=2) (an:=[(3,{j:=some {vs:=[(4,.x .b)]}})]) (.cons aa6 .nil) (by kernel_rfl) (by kernel_rfl)
def tR(f_0:Int):Option Int:=
 (bif(f_0==0)then(some (f_0==0))else
 (bif(f_0==1)then(some (f_0==1))else
 (some (f_0==3))):Option Bool).bind fun b1=>
 bif b1 then(some 8)else
 (bif(f_0==2)then(some 4)else
 (some 0))
def Zq:dC:=⟨[(false,.x (.i .i64))],[([.x (.i .i64)],[])],true,[],fun p=>match p with|f_0=>tR f_0⟩
theorem aa4:aN prog 323 Zq:=aH mixed (lp:=eg) (aR:=aR) (np:=1) (an:=[(5,{e:=[(.normal,{vs:=[(4,.x .b)]})]})]) .nil (by kernel_rfl) (by kernel_rfl)
def mG(f_0:Int):Option Int:=
 (tR f_0).bind fun r1=>
 (AF .i64 1 r1).bind fun i2=>
 some (wr .i64 (i2-1))
def Zp:dC:=⟨[(false,.x (.i .i64))],[([.x (.i .i64)],[])],true,[],fun p=>match p with|f_0=>mG f_0⟩
theorem Qh:aN prog 279 Zp:=aH mixed (lp:=eg) (aR:=aR) (np:=1) (an:=[]) (.cons aa4 .nil) (by kernel_rfl) (by kernel_rfl)
def wX(m_0:dO):Int->Option (Int⊕(Bool⊕Unit)):=fun i2=>
 bif decide (i2<4)then((cD i2 4).bind fun n3=>
 (bif decide ((gt ((dO.Vd m_0).1) n3)<0)then(some true)else
 ((mG i2).bind fun r4=>
 bif decide ((gt ((dO.Vd m_0).1) n3)>r4)then(some true)else
 ((cD i2 4).bind fun n5=>
 bif decide ((gt ((dO.Val m_0).1) n5)<0)then(some true)else
 ((cD i2 4).bind fun n6=>
 some ((gu .i64 (gt ((dO.Val m_0).1) n6) (gt ((dO.Vd m_0).1) n3)) !=0)))):Option Bool).bind fun b7=>
 bif b7 then(some (.inr (.inl false)))else
 (some (.inl (wr .i64 (i2+1)))))else
 (some (.inr (.inr ())))
def tT(m_0:dO):Option Bool:=
 bif((decide ((dO.gi m_0)<(-1)))||(decide ((dO.gi m_0)>=8)))then(some false)else
 ((aU (wX m_0) 0).bind fun
 |.inl b8=>(some b8)
 |.inr _=>(some true))
def Zo:dC:=⟨[(false,.x Wb)],[([.x .b],[])],true,[],fun p=>match p with|m_0=>tT m_0⟩
theorem aa3:aN prog 241 Zo:=aH mixed (lp:=eg) (aR:=aR) (np:=1) (an:=[(10,{j:=some {vs:=[(15,.x (.i .i64))]},e:=[(.ret,{vs:=[(2,.x .b)]}),(.exit 0,{})]}),(18,{j:=some {vs:=[(42,.x .b)]}})]) (.cons Qh .nil) (by kernel_rfl) (by kernel_rfl)
set_option synthInstance.maxSize 1000 in
def xG(a_0:dS)(ports_1:Int):Option Bool:=
 bif((dS.cN a_0)==1)then((bif(((decide ((dS.F a_0)>=0))&&(decide ((dS.F a_0)<4)))&&(decide ((dS.V a_0)>=0)))then((mG (dS.F a_0)).bind fun r1=>
 some (decide ((dS.V a_0)<=r1)))else
 (some false):Option Bool).bind fun b2=>
 some b2)else
 (bif((dS.cN a_0)==2)then(some ((((dS.F a_0)==0)&&(decide ((dS.V a_0)>=0)))&&(decide ((dS.V a_0)<ports_1))))else
 (some (decide (a_0=(⟨3,0,0⟩:dS)))))
def Zn:dC:=⟨[(false,.x y3),(false,.x (.i .i64))],[([.x .b],[])],true,[],fun p=>match p with|(a_0,ports_1)=>xG a_0 ports_1⟩
theorem aa2:aN prog 282 Zn:=aH mixed (lp:=eg) (aR:=aR) (np:=2) (an:=[(8,{j:=some {vs:=[(4,.x .b)]}})]) (.cons Qh .nil) (by kernel_rfl) (by kernel_rfl)
def t_(a_0:dS)(c_1:Int):Option Bool:=
 (xG a_0 c_1).bind fun r1=>
 some (!r1)
def Zm:dC:=⟨[(false,.x y3),(false,.pt (.i .i64))],[([.x .b],[])],true,[],fun p=>match p with|(a_0,c_1)=>t_ a_0 c_1⟩
theorem aa1:aN prog 281 Zm:=aH mixed (lp:=eg) (aR:=aR) (np:=2) (an:=[]) (.cons aa2 .nil) (by kernel_rfl) (by kernel_rfl)
def fV(s_0:Sl dS)(f_1_c0:Int):Int->Option (Int⊕(Int⊕Unit)):=fun i2=>
 bif decide (i2<(s_0.l.length:Int))then((cD i2 s_0.l.length).bind fun n3=>
 (t_ (gt s_0.l n3) f_1_c0).bind fun r4=>
 bif r4 then(some (.inr (.inl i2)))else
 (some (.inl (wr .i64 (i2+1)))))else
 (some (.inr (.inr ())))
def ew(s_0:Sl dS)(f_1_c0:Int):Option Int:=
 (aU (fV s_0 f_1_c0) 0).bind fun
 |.inl i5=>(some i5)
 |.inr _=>(some (-1))
def Zl:dC:=⟨[(false,.x (.sl y3)),(false,.fn 281 (.pr (.pt (.i .i64)) .ni))],[([.x (.i .i64)],[])],true,[],fun p=>match p with|(s_0,f_1_c0)=>ew s_0 f_1_c0⟩
theorem aa0:aN prog 324 Zl:=aH mixed (lp:=eg) (aR:=aR) (np:=2) (an:=[(5,{j:=some {vs:=[(8,.x (.i .i64))]},e:=[(.ret,{vs:=[(4,.x (.i .i64))]}),(.exit 0,{})]})]) (.cons aa1 .nil) (by kernel_rfl) (by kernel_rfl)
def d9(s_0:Sl dS)(f_1_c0:Int):Option Bool:=
 (ew s_0 f_1_c0).bind fun r1=>
 some (decide (r1>=0))
def Zk:dC:=⟨[(false,.x (.sl y3)),(false,.fn 281 (.pr (.pt (.i .i64)) .ni))],[([.x .b],[])],true,[],fun p=>match p with|(s_0,f_1_c0)=>d9 s_0 f_1_c0⟩
theorem aaZ:aN prog 280 Zk:=aH mixed (lp:=eg) (aR:=aR) (np:=2) (an:=[]) (.cons aa0 .nil) (by kernel_rfl) (by kernel_rfl)
def xH(l_0:Sl dS)(ports_1:Int):Option Bool:=
 (bif decide ((l_0.l.length:Int)<=16)then((d9 l_0 ports_1).bind fun r1=>
 some (!r1))else
 (some false):Option Bool).bind fun b2=>
 some b2
def Zj:dC:=⟨[(false,.x (.sl y3)),(false,.x (.i .i64))],[([.x .b],[])],true,[],fun p=>match p with|(l_0,ports_1)=>xH l_0 ports_1⟩
theorem aaY:aN prog 242 Zj:=aH mixed (lp:=eg) (aR:=aR) (np:=2) (an:=[(3,{j:=some {vs:=[(4,.x .b)]}})]) (.cons aaZ .nil) (by kernel_rfl) (by kernel_rfl)
def vv(x_0:cX)(ports_1:Int):Option Bool:=
 (bif((decide ((cX.R_ x_0)>=0))&&(decide ((cX.R_ x_0)<65536)))then((tT (cX.M x_0)).bind fun r1=>
 bif r1 then((xH (cX.GK x_0) ports_1).bind fun r2=>
 some r2)else
 (some false))else
 (some false):Option Bool).bind fun b3=>
 some b3
def Zi:dC:=⟨[(false,.x Vh),(false,.x (.i .i64))],[([.x .b],[])],true,[],fun p=>match p with|(x_0,ports_1)=>vv x_0 ports_1⟩
theorem aaX:aN prog 183 Zi:=aH mixed (lp:=eg) (aR:=aR) (np:=2) (an:=[(3,{j:=some {vs:=[(4,.x .b)]}})]) (.cons aa3 (.cons aaY .nil)) (by kernel_rfl) (by kernel_rfl)
def rP(m_0:bl):Option Bool:=
 ((f0 (bl.cN m_0) 1 5).bind fun r1=>
 bif r1 then((vv (bl.R m_0) 8).bind fun r2=>
 some r2)else
 (some false):Option Bool).bind fun b3=>
 some b3
def Zh:dC:=⟨[(false,.x K5)],[([.x .b],[])],true,[],fun p=>match p with|m_0=>rP m_0⟩
theorem aaW:aN prog 125 Zh:=aH mixed (lp:=eg) (aR:=aR) (np:=1) (an:=[(3,{j:=some {vs:=[(2,.x .b)]}})]) (.cons VE (.cons aaX .nil)) (by kernel_rfl) (by kernel_rfl)
def nR(x_0:bl):Option Bool:=
 (rP x_0).bind fun r1=>
 some (!r1)
def Zg:dC:=⟨[(false,.x K5)],[([.x .b],[])],true,[],fun p=>match p with|x_0=>nR x_0⟩
theorem aaV:aN prog 124 Zg:=aH mixed (lp:=eg) (aR:=aR) (np:=1) (an:=[]) (.cons aaW .nil) (by kernel_rfl) (by kernel_rfl)
def cO(s_0:Sl bl):Int->Option (Int⊕(Int⊕Unit)):=fun i2=>
 bif decide (i2<(s_0.l.length:Int))then((cD i2 s_0.l.length).bind fun n3=>
 (nR (gt s_0.l n3)).bind fun r4=>
 bif r4 then(some (.inr (.inl i2)))else
 (some (.inl (wr .i64 (i2+1)))))else
 (some (.inr (.inr ())))
def cA(s_0:Sl bl):Option Int:=
 (aU (cO s_0) 0).bind fun
 |.inl i5=>(some i5)
 |.inr _=>(some (-1))
def Zf:dC:=⟨[(false,.x (.sl K5)),(false,.fn 124 .ni)],[([.x (.i .i64)],[])],true,[],fun p=>match p with|s_0=>cA s_0⟩
theorem aaU:aN prog 182 Zf:=aH mixed (lp:=eg) (aR:=aR) (np:=2) (an:=[(5,{j:=some {vs:=[(8,.x (.i .i64))]},e:=[(.ret,{vs:=[(4,.x (.i .i64))]}),(.exit 0,{})]})]) (.cons aaV .nil) (by kernel_rfl) (by kernel_rfl)
def bG(s_0:Sl bl):Option Bool:=
 (cA s_0).bind fun r1=>
 some (decide (r1>=0))
def Ze:dC:=⟨[(false,.x (.sl K5)),(false,.fn 124 .ni)],[([.x .b],[])],true,[],fun p=>match p with|s_0=>bG s_0⟩
theorem aaT:aN prog 123 Ze:=aH mixed (lp:=eg) (aR:=aR) (np:=2) (an:=[]) (.cons aaU .nil) (by kernel_rfl) (by kernel_rfl)
def oV(m_0:aa):Option Bool:=
 (bif((aa.cN m_0)==1)then(some 1)else
 (bif((aa.cN m_0)==2)then(some 7)else
 (bif((aa.cN m_0)==3)then(some 152)else
 (bif((aa.cN m_0)==4)then(some 26)else
 (bif((aa.cN m_0)==5)then(some 24)else
 (bif((aa.cN m_0)==6)then(some 72)else
 (bif((aa.cN m_0)==7)then(some 60)else
 (bif((aa.cN m_0)==8)then(some 124)else
 (some 0)))))))):Option Int).bind fun i1=>
 (bif(i1==0)then(some true)else
 ((f0 (aa.Sw m_0) 0 7).bind fun r2=>
 bif(!r2)then(some true)else
 ((qX m_0).bind fun r3=>
 (qp r3 m_0).bind fun r4=>
 some (!r4))):Option Bool).bind fun b5=>
 bif b5 then(some false)else
 ((bif((((aa.cN m_0)==5)||((aa.cN m_0)==7))||((aa.cN m_0)==8))then(some (-1))else
 (some 0):Option Int).bind fun i6=>
 ((f0 (aa.T1 m_0) 0 1125899906842624).bind fun r7=>
 bif(!r7)then(some true)else
 ((f0 (aa.T2 m_0) (-1125899906842624) 1125899906842624).bind fun r8=>
 bif(!r8)then(some true)else
 ((f0 (aa.Am m_0) 0 65535).bind fun r9=>
 some (!r9))):Option Bool).bind fun b10=>
 bif b10 then(some false)else
 (((bif((p7 .i64 i1 8) !=0)then((f0 (aa.U m_0) 1 65535).bind fun r11=>
 some (!r11))else
 (some false):Option Bool).bind fun b12=>
 bif b12 then(some b12)else
 ((bif((p7 .i64 i1 16) !=0)then((f0 (aa.Rd m_0) i6 7).bind fun r13=>
 some (!r13))else
 (some false):Option Bool).bind fun b14=>
 bif b14 then(some b14)else
 ((bif((p7 .i64 i1 32) !=0)then((f0 (aa.Of m_0) 3 6).bind fun r15=>
 some (!r15))else
 (some false):Option Bool).bind fun b16=>
 some b16)):Option Bool).bind fun b17=>
 bif b17 then(some false)else
 ((f0 (aa.Code m_0) 0 255).bind fun r18=>
 bif((!r18)||(decide ((((aa.nq m_0).l).length:Int)>16)))then(some false)else
 ((bG (aa.nq m_0)).bind fun r19=>
 some (!r19)))))
def Zd:dC:=⟨[(false,.x i_)],[([.x .b],[])],true,[],fun p=>match p with|m_0=>oV m_0⟩
theorem aaS:aN prog 63 Zd:=aH mixed (lp:=eg) (aR:=aR) (np:=1) (an:=[(3,{j:=some {vs:=[(3,.x (.i .i64))]}}),(6,{j:=some {vs:=[(22,.x .b)]}}),(11,{e:=[(.normal,{vs:=[(4,.x (.i .i64))]})]}),(17,{j:=some {vs:=[(36,.x .b)]}}),(20,{e:=[(.normal,{vs:=[(53,.x .b)]})]}),(22,{j:=some {vs:=[(53,.x .b)]}}),(24,{j:=some {vs:=[(53,.x .b)]}}),(25,{j:=some {vs:=[(53,.x .b)]}})]) (.QS @VK (.cons VE (.cons abb (.cons aa5 (.cons aaT .nil))))) (by kernel_rfl) (by kernel_rfl)
def vn(t1_0:Int)(t2_1:Int)(t4_2:Int)(most_3:Int):Option bA:=
 (re (wr .i64 (t4_2-t1_0)) most_3).bind fun r1=>
 (sE (⟨wr .i64 (t2_1-t4_2),wr .i64 (t2_1-t1_0)⟩:bA) r1).bind fun r2=>
 some r2
def Zc:dC:=⟨[(false,.x (.i .i64)),(false,.x (.i .i64)),(false,.x (.i .i64)),(false,.x (.i .i64))],[([.x y0],[])],true,[],fun p=>match p with|(t1_0,t2_1,t4_2,most_3)=>vn t1_0 t2_1 t4_2 most_3⟩
theorem aaR:aN prog 126 Zc:=aH mixed (lp:=eg) (aR:=aR) (np:=4) (an:=[]) (.cons ZZ (.cons ZX .nil)) (by kernel_rfl) (by kernel_rfl)
def xp(a_0:bA)(b_1:bA):Option bA:=
 (ja a_0).bind fun r1=>
 (ja b_1).bind fun r2=>
 (ja (⟨(if(bA.Lo r2)>(bA.Lo r1)then(bA.Lo r2)else(bA.Lo r1)),(if(bA.Hi r2)<(bA.Hi r1)then(bA.Hi r2)else(bA.Hi r1))⟩:bA)).bind fun r3=>
 some r3
def Zb:dC:=⟨[(false,.x y0),(false,.x y0)],[([.x y0],[])],true,[],fun p=>match p with|(a_0,b_1)=>xp a_0 b_1⟩
theorem aaQ:aN prog 127 Zb:=aH mixed (lp:=eg) (aR:=aR) (np:=2) (an:=[]) (.cons Qf .nil) (by kernel_rfl) (by kernel_rfl)
def uM(e_0:ak)(t1_1:Int)(t2_2:Int)(t4_3:Int)(most_4:Int):Option (ak×Int):=
 bif(((((decide (t1_1<0))||(decide (t4_3<t1_1)))||(decide (t4_3>1099511627776)))||(decide (t2_2<(-1125899906842624))))||(decide (t2_2>1125899906842624)))then(some (e_0,2))else
 (bif((ak.Mw e_0)&&(decide (t4_3<(ak.At e_0))))then(some (e_0,2))else
 ((vn t1_1 t2_2 t4_3 most_4).bind fun r1=>
 (bif ak.Mw e_0 then((zi e_0 t4_3 most_4).bind fun r2=>
 (xp r1 r2).bind fun r3=>
 some r3)else
 (some r1):Option bA).bind fun x4=>
 (oC x4).bind fun r5=>
 bif r5 then(some (e_0,16))else
 (some ((⟨true,x4,t4_3⟩:ak),0))))
def Za:dC:=⟨[(false,.x y5),(false,.x (.i .i64)),(false,.x (.i .i64)),(false,.x (.i .i64)),(false,.x (.i .i64))],[([.x y5,.x (.i .i64)],[])],true,[],fun p=>match p with|(e_0,t1_1,t2_2,t4_3,most_4)=>uM e_0 t1_1 t2_2 t4_3 most_4⟩
theorem aaP:aN prog 64 Za:=aH mixed (lp:=eg) (aR:=aR) (np:=5) (an:=[(13,{e:=[(.normal,{vs:=[(12,.op 0 y0 [])],os:=[.bx y0 (.x y0)],kl:=[4]})]})]) (.cons aaR (.cons ZW (.cons aaQ (.cons Tw .nil)))) (by kernel_rfl) (by kernel_rfl)
def kL(x_0_c:ai)(x_0_routes:Sl (Sl (Sl Int)))(x_0_l:Sl aj)(x_0_at:af)(x_0_volatile_phase:Int)(x_0_volatile_plan:am)(x_0_volatile_cur:Int)(x_0_volatile_want:Mp Int aa)(x_0_volatile_sent:Int)(x_0_volatile_rest:Int)(x_0_volatile_skip:Int)(x_0_volatile_healed:Int)(x_0_volatile_est:Arr 8 ak)(x_0_volatile_asked:Arr 8 Int)(x_0_volatile_out:Sl aa)(x_0_volatile_events:Sl ax)(m_1:aa):Option (Bool×ai×Sl (Sl (Sl Int))×Sl aj×af×Int×am×Int×Mp Int aa×Int×Int×Int×Int×Arr 8 ak×Arr 8 Int×Sl aa×Sl ax):=
 (tY (aa.Rd m_1) (aa.Sw m_1)).bind fun r1=>
 (bif((Df x_0_volatile_want r1)&&((aa.cN (kp x_0_volatile_want (⟨0,0,0,0,0,0,0,0,0,Sl.nil⟩:aa) r1))==(aa.Of m_1)))then(some ((((decide (x_0_volatile_phase>=1))&&(decide (x_0_volatile_phase<=2)))||(x_0_volatile_phase==4))||(x_0_volatile_phase==5)))else
 (some false):Option Bool).bind fun b2=>
 some (b2,x_0_c,x_0_routes,x_0_l,x_0_at,x_0_volatile_phase,x_0_volatile_plan,x_0_volatile_cur,x_0_volatile_want,x_0_volatile_sent,x_0_volatile_rest,x_0_volatile_skip,x_0_volatile_healed,x_0_volatile_est,x_0_volatile_asked,x_0_volatile_out,x_0_volatile_events)
def Y_:dC:=⟨[(true,h0),(false,.x i_)],[([.x .b],[h0])],false,[true,false],fun p=>match p with|(x_0_c,x_0_routes,x_0_l,x_0_at,x_0_volatile_phase,x_0_volatile_plan,x_0_volatile_cur,x_0_volatile_want,x_0_volatile_sent,x_0_volatile_rest,x_0_volatile_skip,x_0_volatile_healed,x_0_volatile_est,x_0_volatile_asked,x_0_volatile_out,x_0_volatile_events,m_1)=>kL x_0_c x_0_routes x_0_l x_0_at x_0_volatile_phase x_0_volatile_plan x_0_volatile_cur x_0_volatile_want x_0_volatile_sent x_0_volatile_rest x_0_volatile_skip x_0_volatile_healed x_0_volatile_est x_0_volatile_asked x_0_volatile_out x_0_volatile_events m_1⟩
theorem VD:aN prog 66 Y_:=aH mixed (lp:=eg) (aR:=aR) (np:=2) (an:=[(5,{j:=some {vs:=[(4,.x .b)]}})]) (.cons WX .nil) (by kernel_rfl) (by kernel_rfl)
def oc(x_0_c:ai)(x_0_routes:Sl (Sl (Sl Int)))(x_0_l:Sl aj)(x_0_at:af)(x_0_volatile_phase:Int)(x_0_volatile_plan:am)(x_0_volatile_cur:Int)(x_0_volatile_want:Mp Int aa)(x_0_volatile_sent:Int)(x_0_volatile_rest:Int)(x_0_volatile_skip:Int)(x_0_volatile_healed:Int)(x_0_volatile_est:Arr 8 ak)(x_0_volatile_asked:Arr 8 Int)(x_0_volatile_out:Sl aa)(x_0_volatile_events:Sl ax)(now_1:Int)(m_2:aa)(up_3:Int):Option (ai×Sl (Sl (Sl Int))×Sl aj×af×Int×am×Int×Mp Int aa×Int×Int×Int×Int×Arr 8 ak×Arr 8 Int×Sl aa×Sl ax):=
 bif(x_0_volatile_phase==0)then((bif(((aa.Of m_2)==5)&&((aa.Rd m_2)==(-1)))then((AB .i64 (af.og x_0_at) (aa.Sw m_2)).bind fun i1=>
 some ((p7 .i64 i1 1)==1))else
 (some false):Option Bool).bind fun b2=>
 bif b2 then((eD x_0_c x_0_routes x_0_l x_0_at x_0_volatile_phase x_0_volatile_plan x_0_volatile_cur x_0_volatile_want x_0_volatile_sent x_0_volatile_rest x_0_volatile_skip x_0_volatile_healed x_0_volatile_est x_0_volatile_asked x_0_volatile_out x_0_volatile_events 7 (af.U x_0_at) (aa.Sw m_2) 0).bind fun(q3,q4,s5,q6,q7,q8,q9,q10,q11,q12,q13,q14,q15,q16,s17,s18)=>
 (iM q3 q4 s5 q6 q7 q8 q9 q10 q11 q12 q13 q14 q15 q16 s17 s18 now_1 11 (aa.Sw m_2) 0 0).bind fun(q19,q20,s21,q22,q23,q24,q25,q26,q27,q28,q29,q30,q31,q32,s33,s34)=>
 some (q19,q20,s21,q22,q23,q24,q25,q26,q27,q28,q29,q30,q31,q32,s33,s34))else
 (some (x_0_c,x_0_routes,x_0_l,x_0_at,x_0_volatile_phase,x_0_volatile_plan,x_0_volatile_cur,x_0_volatile_want,x_0_volatile_sent,x_0_volatile_rest,x_0_volatile_skip,x_0_volatile_healed,x_0_volatile_est,x_0_volatile_asked,x_0_volatile_out,x_0_volatile_events)))else
 ((kL x_0_c x_0_routes x_0_l x_0_at x_0_volatile_phase x_0_volatile_plan x_0_volatile_cur x_0_volatile_want x_0_volatile_sent x_0_volatile_rest x_0_volatile_skip x_0_volatile_healed x_0_volatile_est x_0_volatile_asked x_0_volatile_out x_0_volatile_events m_2).bind fun(r35,q36,q37,s38,q39,q40,q41,q42,q43,q44,q45,q46,q47,q48,q49,s50,s51)=>
 bif(!r35)then(some (q36,q37,s38,q39,q40,q41,q42,q43,q44,q45,q46,q47,q48,q49,s50,s51))else
 ((tY (aa.Rd m_2) (aa.Sw m_2)).bind fun r52=>
 bif(((wb q43 r52).es.length:Int)==0)then((pF q36 q37 s38 q39 q40 q41 q42 (wb q43 r52) q44 q45 q46 q47 q48 q49 s50 s51 now_1 up_3).bind fun(q53,q54,s55,q56,q57,q58,q59,q60,q61,q62,q63,q64,q65,q66,s67,s68)=>
 some (q53,q54,s55,q56,q57,q58,q59,q60,q61,q62,q63,q64,q65,q66,s67,s68))else
 (some (q36,q37,s38,q39,q40,q41,q42,(wb q43 r52),q44,q45,q46,q47,q48,q49,s50,s51))))
def Y9:dC:=⟨[(true,h0),(false,.x (.i .i64)),(false,.x i_),(false,.x (.i .i64))],[([],[h0])],false,[true,false,false,false],fun p=>match p with|(x_0_c,x_0_routes,x_0_l,x_0_at,x_0_volatile_phase,x_0_volatile_plan,x_0_volatile_cur,x_0_volatile_want,x_0_volatile_sent,x_0_volatile_rest,x_0_volatile_skip,x_0_volatile_healed,x_0_volatile_est,x_0_volatile_asked,x_0_volatile_out,x_0_volatile_events,now_1,m_2,up_3)=>oc x_0_c x_0_routes x_0_l x_0_at x_0_volatile_phase x_0_volatile_plan x_0_volatile_cur x_0_volatile_want x_0_volatile_sent x_0_volatile_rest x_0_volatile_skip x_0_volatile_healed x_0_volatile_est x_0_volatile_asked x_0_volatile_out x_0_volatile_events now_1 m_2 up_3⟩
theorem aaO:aN prog 65 Y9:=aH mixed (lp:=eg) (aR:=aR) (np:=4) (an:=[(7,{j:=some {vs:=[(33,.x .b)]}})]) (.cons J5 (.cons Qe (.cons VD (.cons WX (.cons ZR .nil))))) (by kernel_rfl) (by kernel_rfl)
def jQ(x_0_c:ai)(x_0_routes:Sl (Sl (Sl Int)))(x_0_l:Sl aj)(x_0_at:af)(x_0_volatile_phase:Int)(x_0_volatile_plan:am)(x_0_volatile_cur:Int)(x_0_volatile_want:Mp Int aa)(x_0_volatile_sent:Int)(x_0_volatile_rest:Int)(x_0_volatile_skip:Int)(x_0_volatile_healed:Int)(x_0_volatile_est:Arr 8 ak)(x_0_volatile_asked:Arr 8 Int)(x_0_volatile_out:Sl aa)(x_0_volatile_events:Sl ax)(now_1:Int)(m_2:aa)(up_3:Int):Option (ai×Sl (Sl (Sl Int))×Sl aj×af×Int×am×Int×Mp Int aa×Int×Int×Int×Int×Arr 8 ak×Arr 8 Int×Sl aa×Sl ax):=
 ((fG x_0_c x_0_routes x_0_l x_0_at x_0_volatile_phase x_0_volatile_plan x_0_volatile_cur x_0_volatile_want x_0_volatile_sent x_0_volatile_rest x_0_volatile_skip x_0_volatile_healed x_0_volatile_est x_0_volatile_asked x_0_volatile_out x_0_volatile_events).bind fun(r1,q2,q3,s4,q5,q6,q7,q8,q9,q10,q11,q12,q13,q14,q15,s16,s17)=>
 bif(r1==6)then(some (true,q2,q3,q5,q6,q7,q8,q10,q11,q12,q13,q14,q15,s4,q9,s16,s17))else
 ((oV m_2).bind fun r18=>
 some (((!r18)||(decide ((aa.Sw m_2)>=(ao.au (ai.T q2))))),q2,q3,q5,q6,q7,q8,q10,q11,q12,q13,q14,q15,s4,q9,s16,s17)):Option (Bool×ai×Sl (Sl (Sl Int))×af×Int×am×Int×Int×Int×Int×Int×Arr 8 ak×Arr 8 Int×Sl aj×Mp Int aa×Sl aa×Sl ax)).bind fun(b19,x20,s21,x22,i23,x24,i25,i26,i27,i28,i29,v30,v31,s32,m33,s34,s35)=>
 bif b19 then(some (x20,s21,s32,x22,i23,x24,i25,m33,i26,i27,i28,i29,v30,v31,s34,s35))else
 (bif((aa.cN m_2)==2)then((cD (aa.Sw m_2) 8).bind fun n36=>
 (uM (gt v30.1 n36) (aa.T1 m_2) (aa.T2 m_2) now_1 (ai.R9 x20)).bind fun(r37,r38)=>
 bif(r38==0)then((cD (aa.Sw m_2) 8).bind fun n39=>
 some (x20,s21,s32,x22,i23,x24,i25,m33,i26,i27,i28,i29,Arr.set v30 n39 r37,v31,s34,s35))else
 (some (x20,s21,s32,x22,i23,x24,i25,m33,i26,i27,i28,i29,v30,v31,s34,s35)))else
 (bif((aa.U m_2) !=(af.U x22))then(some (x20,s21,s32,x22,i23,x24,i25,m33,i26,i27,i28,i29,v30,v31,s34,s35))else
 (bif((aa.cN m_2)==7)then((oc x20 s21 s32 x22 i23 x24 i25 m33 i26 i27 i28 i29 v30 v31 s34 s35 now_1 m_2 up_3).bind fun(q40,q41,s42,q43,q44,q45,q46,q47,q48,q49,q50,q51,q52,q53,s54,s55)=>
 some (q40,q41,s42,q43,q44,q45,q46,q47,q48,q49,q50,q51,q52,q53,s54,s55))else
 ((bif(((aa.cN m_2)==8)&&((aa.Of m_2) !=5))then((kL x20 s21 s32 x22 i23 x24 i25 m33 i26 i27 i28 i29 v30 v31 s34 s35 m_2).bind fun(r56,q57,q58,s59,q60,q61,q62,q63,q64,q65,q66,q67,q68,q69,q70,s71,s72)=>
 some (r56,q57,q58,q60,q61,q62,q63,q65,q66,q67,q68,q69,q70,s59,q64,s71,s72))else
 (some (false,x20,s21,x22,i23,x24,i25,i26,i27,i28,i29,v30,v31,s32,m33,s34,s35)):Option (Bool×ai×Sl (Sl (Sl Int))×af×Int×am×Int×Int×Int×Int×Int×Arr 8 ak×Arr 8 Int×Sl aj×Mp Int aa×Sl aa×Sl ax)).bind fun(b73,x74,s75,x76,i77,x78,i79,i80,i81,i82,i83,v84,v85,s86,m87,s88,s89)=>
 bif b73 then((iL x74 s75 s86 x76 i77 x78 i79 m87 i80 i81 i82 i83 v84 v85 s88 s89 now_1 up_3).bind fun(q90,q91,s92,q93,q94,q95,q96,q97,q98,q99,q100,q101,q102,q103,s104,s105)=>
 some (q90,q91,s92,q93,q94,q95,q96,q97,q98,q99,q100,q101,q102,q103,s104,s105))else
 (some (x74,s75,s86,x76,i77,x78,i79,m87,i80,i81,i82,i83,v84,v85,s88,s89))))))
def Y8:dC:=⟨[(true,h0),(false,.x (.i .i64)),(false,.x i_),(false,.x (.i .i64))],[([],[h0])],false,[true,false,false,false],fun p=>match p with|(x_0_c,x_0_routes,x_0_l,x_0_at,x_0_volatile_phase,x_0_volatile_plan,x_0_volatile_cur,x_0_volatile_want,x_0_volatile_sent,x_0_volatile_rest,x_0_volatile_skip,x_0_volatile_healed,x_0_volatile_est,x_0_volatile_asked,x_0_volatile_out,x_0_volatile_events,now_1,m_2,up_3)=>jQ x_0_c x_0_routes x_0_l x_0_at x_0_volatile_phase x_0_volatile_plan x_0_volatile_cur x_0_volatile_want x_0_volatile_sent x_0_volatile_rest x_0_volatile_skip x_0_volatile_healed x_0_volatile_est x_0_volatile_asked x_0_volatile_out x_0_volatile_events now_1 m_2 up_3⟩
theorem VC:aN prog 27 Y8:=aH mixed (lp:=eg) (aR:=aR) (np:=4) (an:=[(4,{j:=some {vs:=[(0,.op 0 mw []),(28,.x .b)],gs:=(.co (.op 0 mw []) .ni),os:=[.bx mw (.rc (.co (.x y4) (.co (.x (.sl (.sl (.sl (.i .i64))))) (.co (.so 1) (.co (.x tm) (.co (.rc (.co (.x (.i .i64)) (.co (.x y7) (.co (.x (.i .i64)) (.co (.om 2) (.co (.x (.i .i64)) (.co (.x (.i .i64)) (.co (.x (.i .i64)) (.co (.x (.i .i64)) (.co (.x (.ar 8 y5)) (.co (.x (.ar 8 (.i .i64))) (.co (.so 3) (.co (.so 4) .ni))))))))))))) .ni)))))),.ar y8,.mp (.i .i64) i_,.ar i_,.ar y2],kl:=[0,13,31,76,77]}}),(18,{j:=some {vs:=[(0,.op 0 mw []),(83,.x .b)],gs:=(.co (.op 0 mw []) .ni),os:=[.bx mw (.rc (.co (.x y4) (.co (.x (.sl (.sl (.sl (.i .i64))))) (.co (.so 1) (.co (.x tm) (.co (.rc (.co (.x (.i .i64)) (.co (.x y7) (.co (.x (.i .i64)) (.co (.om 2) (.co (.x (.i .i64)) (.co (.x (.i .i64)) (.co (.x (.i .i64)) (.co (.x (.i .i64)) (.co (.x (.ar 8 y5)) (.co (.x (.ar 8 (.i .i64))) (.co (.so 3) (.co (.so 4) .ni))))))))))))) .ni)))))),.ar y8,.mp (.i .i64) i_,.ar i_,.ar y2],kl:=[79,80,81,82,83]}})]) (.cons Tx (.cons aaS (.cons aaP (.cons aaO (.cons VD (.cons Ts .nil)))))) (by kernel_rfl) (by kernel_rfl)
def kh(x_0_c:ai)(x_0_routes:Sl (Sl (Sl Int)))(x_0_l:Sl aj)(x_0_at:af)(x_0_volatile_phase:Int)(x_0_volatile_plan:am)(x_0_volatile_cur:Int)(x_0_volatile_want:Mp Int aa)(x_0_volatile_sent:Int)(x_0_volatile_rest:Int)(x_0_volatile_skip:Int)(x_0_volatile_healed:Int)(x_0_volatile_est:Arr 8 ak)(x_0_volatile_asked:Arr 8 Int)(x_0_volatile_out:Sl aa)(x_0_volatile_events:Sl ax):Option (Sl aa×Sl ax×ai×Sl (Sl (Sl Int))×Sl aj×af×Int×am×Int×Mp Int aa×Int×Int×Int×Int×Arr 8 ak×Arr 8 Int×Sl aa×Sl ax):=some (x_0_volatile_out,x_0_volatile_events,x_0_c,x_0_routes,x_0_l,x_0_at,x_0_volatile_phase,x_0_volatile_plan,x_0_volatile_cur,x_0_volatile_want,x_0_volatile_sent,x_0_volatile_rest,x_0_volatile_skip,x_0_volatile_healed,x_0_volatile_est,x_0_volatile_asked,Sl.nil,Sl.nil)
def Y7:dC:=⟨[(true,h0)],[([.x (.sl i_),.x (.sl y2)],[h0])],false,[true],fun p=>match p with|(x_0_c,x_0_routes,x_0_l,x_0_at,x_0_volatile_phase,x_0_volatile_plan,x_0_volatile_cur,x_0_volatile_want,x_0_volatile_sent,x_0_volatile_rest,x_0_volatile_skip,x_0_volatile_healed,x_0_volatile_est,x_0_volatile_asked,x_0_volatile_out,x_0_volatile_events)=>kh x_0_c x_0_routes x_0_l x_0_at x_0_volatile_phase x_0_volatile_plan x_0_volatile_cur x_0_volatile_want x_0_volatile_sent x_0_volatile_rest x_0_volatile_skip x_0_volatile_healed x_0_volatile_est x_0_volatile_asked x_0_volatile_out x_0_volatile_events⟩
theorem VB:aN prog 11 Y7:=aH mixed (lp:=eg) (aR:=aR) (np:=1) (an:=[]) .nil (by kernel_rfl) (by kernel_rfl)
def uL(half_0:Int):Option Int:=some (wr .i64 ((wr .i64 (2*(if 1073741824<(if 0>half_0 then 0 else half_0)then 1073741824 else(if 0>half_0 then 0 else half_0))))+2))
def Y6:dC:=⟨[(false,.x (.i .i64))],[([.x (.i .i64)],[])],true,[],fun p=>match p with|half_0=>uL half_0⟩
theorem aaN:aN prog 118 Y6:=aH mixed (lp:=eg) (aR:=aR) (np:=1) (an:=[]) .nil (by kernel_rfl) (by kernel_rfl)
def pz(n_0:Int)(most_1:Int):Option Bool:=some ((decide (n_0>=0))&&(decide (n_0<=most_1)))
def Y5:dC:=⟨[(false,.x (.i .i64)),(false,.x (.i .i64))],[([.x .b],[])],true,[],fun p=>match p with|(n_0,most_1)=>pz n_0 most_1⟩
theorem aaM:aN prog 173 Y5:=aH mixed (lp:=eg) (aR:=aR) (np:=2) (an:=[]) .nil (by kernel_rfl) (by kernel_rfl)
def ul(p_0:Int):Option Bool:=some ((decide (p_0<0))||(decide (p_0>=8)))
def Y4:dC:=⟨[(false,.x (.i .i64))],[([.x .b],[])],true,[],fun p=>match p with|p_0=>ul p_0⟩
theorem aaL:aN prog 299 Y4:=aH mixed (lp:=eg) (aR:=aR) (np:=1) (an:=[]) .nil (by kernel_rfl) (by kernel_rfl)
def cR(s_0:Sl Int):Int->Option (Int⊕(Int⊕Unit)):=fun i2=>
 bif decide (i2<(s_0.l.length:Int))then((cD i2 s_0.l.length).bind fun n3=>
 (ul (gt s_0.l n3)).bind fun r4=>
 bif r4 then(some (.inr (.inl i2)))else
 (some (.inl (wr .i64 (i2+1)))))else
 (some (.inr (.inr ())))
def dc(s_0:Sl Int):Option Int:=
 (aU (cR s_0) 0).bind fun
 |.inl i5=>(some i5)
 |.inr _=>(some (-1))
def Y3:dC:=⟨[(false,.x (.sl (.i .i64))),(false,.fn 299 .ni)],[([.x (.i .i64)],[])],true,[],fun p=>match p with|s_0=>dc s_0⟩
theorem aaK:aN prog 101 Y3:=aH mixed (lp:=eg) (aR:=aR) (np:=2) (an:=[(5,{j:=some {vs:=[(8,.x (.i .i64))]},e:=[(.ret,{vs:=[(4,.x (.i .i64))]}),(.exit 0,{})]})]) (.cons aaL .nil) (by kernel_rfl) (by kernel_rfl)
def cq(s_0:Sl Int):Option Bool:=
 (dc s_0).bind fun r1=>
 some (decide (r1>=0))
def Y2:dC:=⟨[(false,.x (.sl (.i .i64))),(false,.fn 299 .ni)],[([.x .b],[])],true,[],fun p=>match p with|s_0=>cq s_0⟩
theorem aaJ:aN prog 50 Y2:=aH mixed (lp:=eg) (aR:=aR) (np:=2) (an:=[]) (.cons aaK .nil) (by kernel_rfl) (by kernel_rfl)
def kG(t_0:ao)(r_1:Sl (Sl Int)):Int->Option (Int⊕(Bool⊕Unit)):=fun i3=>
 bif decide (i3<(r_1.l.length:Int))then((cD i3 r_1.l.length).bind fun n4=>
 (bif((((gt r_1.l n4).l).length:Int) !=(((ao.bn t_0).l).length:Int))then(some true)else
 ((cq (gt r_1.l n4)).bind fun r5=>
 some r5):Option Bool).bind fun b6=>
 bif b6 then(some (.inr (.inl false)))else
 (some (.inl (wr .i64 (i3+1)))))else
 (some (.inr (.inr ())))
def jJ(t_0:ao)(r_1:Sl (Sl Int)):Option Bool:=
 (mB t_0).bind fun r1=>
 bif((!r1)||((r_1.l.length:Int) !=(ao.au t_0)))then(some false)else
 ((aU (kG t_0 r_1) 0).bind fun
 |.inl b7=>(some b7)
 |.inr _=>(some true))
def Y1:dC:=⟨[(false,.x y1),(false,.x (.sl (.sl (.i .i64))))],[([.x .b],[])],true,[],fun p=>match p with|(t_0,r_1)=>jJ t_0 r_1⟩
theorem Qg:aN prog 270 Y1:=aH mixed (lp:=eg) (aR:=aR) (np:=2) (an:=[(10,{j:=some {vs:=[(19,.x (.i .i64))]},e:=[(.ret,{vs:=[(4,.x .b)]}),(.exit 0,{})]}),(18,{j:=some {vs:=[(32,.x .b)]}})]) (.cons ok1 (.cons aaJ .nil)) (by kernel_rfl) (by kernel_rfl)
def oD(r_0:Sl (Sl Int))(sw_1:Int)(h_2:Int):Option (Int×Bool):=
 (bif(((decide (sw_1<0))||(decide (sw_1>=(r_0.l.length:Int))))||(decide (h_2<0)))then(some true)else
 ((cD sw_1 r_0.l.length).bind fun n1=>
 some (decide (h_2>=(((gt r_0.l n1).l).length:Int)))):Option Bool).bind fun b2=>
 bif b2 then(some (0,false))else
 ((cD sw_1 r_0.l.length).bind fun n3=>
 (cD h_2 ((gt r_0.l n3).l).length).bind fun n4=>
 some (gt ((gt r_0.l n3).l) n4,true))
def Y0:dC:=⟨[(false,.x (.sl (.sl (.i .i64)))),(false,.x (.i .i64)),(false,.x (.i .i64))],[([.x (.i .i64),.x .b],[])],true,[],fun p=>match p with|(r_0,sw_1,h_2)=>oD r_0 sw_1 h_2⟩
theorem VA:aN prog 300 Y0:=aH mixed (lp:=eg) (aR:=aR) (np:=3) (an:=[(4,{j:=some {vs:=[(28,.x .b)]}})]) .nil (by kernel_rfl) (by kernel_rfl)
def ir(l_0:Sl Int):Option Bool:=
 (bif decide ((l_0.l.length:Int)>0)then((nD l_0.l 0 (wr .i64 ((l_0.l.length:Int)-1))).bind fun l1=>
 (cD (wr .i64 ((l_0.l.length:Int)-1)) l_0.l.length).bind fun n2=>
 (bJ (l_0.to l1) (gt l_0.l n2)).bind fun r3=>
 some r3)else
 (some false):Option Bool).bind fun b4=>
 some b4
def YZ:dC:=⟨[(false,.x (.sl (.i .i64)))],[([.x .b],[])],true,[],fun p=>match p with|l_0=>ir l_0⟩
theorem aaI:aN prog 301 YZ:=aH mixed (lp:=eg) (aR:=aR) (np:=1) (an:=[(3,{j:=some {vs:=[(2,.x .b)]}})]) (.cons Nw .nil) (by kernel_rfl) (by kernel_rfl)
def pn(t_0:ao)(sw_1:Int)(port_2:Int):Int->Option (Int⊕((Int×Int×Int×Bool)⊕Unit)):=fun i2=>
 bif decide (i2<(((ao.aZ t_0).l).length:Int))then((cD i2 ((ao.aZ t_0).l).length).bind fun n3=>
 bif decide ((⟨sw_1,port_2⟩:bq)=(⟨a8.A (gt ((ao.aZ t_0).l) n3),a8.lO (gt ((ao.aZ t_0).l) n3)⟩:bq))then(some (.inr (.inl (a8.B (gt ((ao.aZ t_0).l) n3),a8.lN (gt ((ao.aZ t_0).l) n3),i2,true))))else
 (bif decide ((⟨sw_1,port_2⟩:bq)=(⟨a8.B (gt ((ao.aZ t_0).l) n3),a8.lN (gt ((ao.aZ t_0).l) n3)⟩:bq))then(some (.inr (.inl (a8.A (gt ((ao.aZ t_0).l) n3),a8.lO (gt ((ao.aZ t_0).l) n3),i2,true))))else
 (some (.inl (wr .i64 (i2+1))))))else
 (some (.inr (.inr ())))
def sf(t_0:ao)(sw_1:Int)(port_2:Int):Option (Int×Int×Int×Bool):=
 (aU (pn t_0 sw_1 port_2) 0).bind fun
 |.inl (i4,i5,i6,b7)=>(some (i4,i5,i6,b7))
 |.inr _=>(some (0,0,0,false))
def YY:dC:=⟨[(false,.x y1),(false,.x (.i .i64)),(false,.x (.i .i64))],[([.x (.i .i64),.x (.i .i64),.x (.i .i64),.x .b],[])],true,[],fun p=>match p with|(t_0,sw_1,port_2)=>sf t_0 sw_1 port_2⟩
theorem aaH:aN prog 333 YY:=aH mixed (lp:=eg) (aR:=aR) (np:=3) (an:=[(7,{j:=some {vs:=[(21,.x (.i .i64))]},e:=[(.ret,{vs:=[(6,.x (.i .i64)),(7,.x (.i .i64)),(8,.x (.i .i64)),(9,.x .b)]}),(.exit 0,{})]})]) .nil (by kernel_rfl) (by kernel_rfl)
def qn(t_0:ao)(r_1:Sl (Sl Int))(sw_2:Int)(h_3:Int):Option (Int×Bool):=
 (oD r_1 sw_2 h_3).bind fun(r1,r2)=>
 bif(!r2)then(some (0,false))else
 ((sf t_0 sw_2 r1).bind fun(r3,_,_,r6)=>
 some (r3,r6))
def YX:dC:=⟨[(false,.x y1),(false,.x (.sl (.sl (.i .i64)))),(false,.x (.i .i64)),(false,.x (.i .i64))],[([.x (.i .i64),.x .b],[])],true,[],fun p=>match p with|(t_0,r_1,sw_2,h_3)=>qn t_0 r_1 sw_2 h_3⟩
theorem aaG:aN prog 302 YX:=aH mixed (lp:=eg) (aR:=aR) (np:=4) (an:=[]) (.cons VA (.cons aaH .nil)) (by kernel_rfl) (by kernel_rfl)
def j_(t_0:ao)(r_1:Sl (Sl Int))(h_3:Int):(Sl Int)->Option (Sl Int⊕((Int×Sl Int)⊕Unit)):=fun s6=>
 (ir s6).bind fun r7=>
 bif(!r7)then((cD (wr .i64 ((s6.l.length:Int)-1)) s6.l.length).bind fun n8=>
 (cD h_3 ((ao.bn t_0).l).length).bind fun n9=>
 (cD (gt s6.l n8) r_1.l.length).bind fun n10=>
 (cD h_3 ((gt r_1.l n10).l).length).bind fun n11=>
 bif decide ((gt ((ao.bn t_0).l) n9)=(⟨gt s6.l n8,gt ((gt r_1.l n10).l) n11⟩:fR))then(some (.inr (.inl (0,s6))))else
 ((qn t_0 r_1 (gt s6.l n8) h_3).bind fun(r12,r13)=>
 bif(!r13)then(some (.inr (.inl (13,Sl.nil))))else
 ((ic (s6.l++[r12])).bind fun l14=>
 some (.inl (Sl.mk l14)))))else
 (some (.inr (.inr ())))
def ql(t_0:ao)(r_1:Sl (Sl Int))(sw_2:Int)(h_3:Int):Option (Sl Int×Int):=
 (oD r_1 sw_2 h_3).bind fun(_,r2)=>
 (bif(!r2)then(some true)else
 ((jJ t_0 r_1).bind fun r3=>
 some (!r3)):Option Bool).bind fun b4=>
 bif b4 then(some (Sl.nil,2))else
 ((aU (j_ t_0 r_1 h_3) (Sl.mk [sw_2])).bind fun
 |.inl (i15,s16)=>(some (s16,i15))
 |.inr _=>(some (Sl.nil,12)))
def YW:dC:=⟨[(false,.x y1),(false,.x (.sl (.sl (.i .i64)))),(false,.x (.i .i64)),(false,.x (.i .i64))],[([.x (.sl (.i .i64)),.x (.i .i64)],[])],false,[],fun p=>match p with|(t_0,r_1,sw_2,h_3)=>ql t_0 r_1 sw_2 h_3⟩
theorem aaF:aN prog 271 YW:=aH mixed (lp:=eg) (aR:=aR) (np:=4) (an:=[(6,{j:=some {vs:=[(30,.x .b)]}}),(12,{j:=some {vs:=[(12,.so 0)],os:=[.ar (.i .i64)],kl:=[3]},e:=[(.ret,{vs:=[(8,.so 0),(9,.x (.i .i64))],os:=[.ar (.i .i64)],kl:=[3]}),(.exit 0,{kl:=[3]})]})]) (.cons VA (.cons Qg (.cons aaI (.cons aaG .nil)))) (by kernel_rfl) (by kernel_rfl)
def k_(t_0:ao)(r_1:Sl (Sl Int))(h_2:Int):(Int×Sl Int)->Option ((Int×Sl Int)⊕(Sl Int)):=fun(i5,s6)=>
 bif decide (i5<(r_1.l.length:Int))then((ql t_0 r_1 i5 h_2).bind fun(r7,_)=>
 (ic (s6.l++[wr .i64 ((r7.l.length:Int)-1)])).bind fun l9=>
 some (.inl (wr .i64 (i5+1),(Sl.mk l9))))else
 (some (.inr s6))
def qo(t_0:ao)(r_1:Sl (Sl Int))(h_2:Int):Option (Sl Int):=
 (jJ t_0 r_1).bind fun r1=>
 bif(((!r1)||(decide (h_2<0)))||(decide (h_2>=(((ao.bn t_0).l).length:Int))))then(some Sl.nil)else
 ((aU (k_ t_0 r_1 h_2) (0,Sl.nil)).bind fun s10=>
 some s10)
def YV:dC:=⟨[(false,.x y1),(false,.x (.sl (.sl (.i .i64)))),(false,.x (.i .i64))],[([.x (.sl (.i .i64))],[])],false,[],fun p=>match p with|(t_0,r_1,h_2)=>qo t_0 r_1 h_2⟩
theorem Vz:aN prog 233 YV:=aH mixed (lp:=eg) (aR:=aR) (np:=3) (an:=[(12,{j:=some {vs:=[(7,.so 0),(28,.x (.i .i64))],os:=[.ar (.i .i64)]},e:=[(.exit 0,{vs:=[(7,.so 0)],os:=[.ar (.i .i64)]})]})]) (.cons Qg (.cons aaF .nil)) (by kernel_rfl) (by kernel_rfl)
def lQ(t_0:ao)(r_1:Sl (Sl Int)):Int->Option (Int⊕(Bool⊕Unit)):=fun i3=>
 bif decide (i3<(((ao.bn t_0).l).length:Int))then((qo t_0 r_1 i3).bind fun r4=>
 (bJ r4 (-1)).bind fun r5=>
 bif r5 then(some (.inr (.inl false)))else
 (some (.inl (wr .i64 (i3+1)))))else
 (some (.inr (.inr ())))
def oE(t_0:ao)(r_1:Sl (Sl Int)):Option Bool:=
 (jJ t_0 r_1).bind fun r1=>
 bif(!r1)then(some false)else
 ((aU (lQ t_0 r_1) 0).bind fun
 |.inl b6=>(some b6)
 |.inr _=>(some true))
def YU:dC:=⟨[(false,.x y1),(false,.x (.sl (.sl (.i .i64))))],[([.x .b],[])],true,[],fun p=>match p with|(t_0,r_1)=>oE t_0 r_1⟩
theorem aaE:aN prog 232 YU:=aH mixed (lp:=eg) (aR:=aR) (np:=2) (an:=[(10,{j:=some {vs:=[(13,.x (.i .i64))]},e:=[(.ret,{vs:=[(4,.x .b)]}),(.exit 0,{})]})]) (.cons Qg (.cons Vz (.cons Nw .nil))) (by kernel_rfl) (by kernel_rfl)
theorem aaD:aN prog 234 (xu y8 235 jp):=MU
def jd(old_1:Sl (Sl Int))(now_2:Sl (Sl Int))(i7:Int)(r9:Sl Int):(Int×Sl aE)->Option ((Int×Sl aE)⊕(Sl aE)):=fun(i12,s13)=>
 bif decide (i12<(now_2.l.length:Int))then(((cD i12 now_2.l.length).bind fun n14=>
 (cD i7 ((gt now_2.l n14).l).length).bind fun n15=>
 (cD i12 old_1.l.length).bind fun n16=>
 (cD i7 ((gt old_1.l n16).l).length).bind fun n17=>
 bif((gt ((gt now_2.l n14).l) n15) !=(gt ((gt old_1.l n16).l) n17))then((cD i12 now_2.l.length).bind fun n18=>
 (cD i7 ((gt now_2.l n18).l).length).bind fun n19=>
 (cD i12 r9.l.length).bind fun n20=>
 (ic (s13.l++[(⟨i12,i7,gt ((gt now_2.l n18).l) n19,gt r9.l n20⟩:aE)])).bind fun l21=>
 some (Sl.mk l21))else
 (some s13):Option (Sl aE)).bind fun s22=>
 some (.inl (wr .i64 (i12+1),s22)))else
 (some (.inr s13))
def kJ(t_0:ao)(old_1:Sl (Sl Int))(now_2:Sl (Sl Int)):(Int×Sl aE)->Option ((Int×Sl aE)⊕(Sl aE)):=fun(i7,s8)=>
 bif decide (i7<(((ao.bn t_0).l).length:Int))then((qo t_0 now_2 i7).bind fun r9=>
 (aU (jd old_1 now_2 i7 r9) (0,s8)).bind fun s23=>
 some (.inl (wr .i64 (i7+1),s23)))else
 (some (.inr s8))
def oY(t_0:ao)(old_1:Sl (Sl Int))(now_2:Sl (Sl Int)):Option (Sl aE×Int):=
 ((oE t_0 old_1).bind fun r1=>
 bif(!r1)then(some true)else
 ((oE t_0 now_2).bind fun r2=>
 some (!r2)):Option Bool).bind fun b3=>
 bif b3 then(some (Sl.nil,2))else
 ((aU (kJ t_0 old_1 now_2) (0,Sl.nil)).bind fun s24=>
 (tM jp s24).bind fun s25=>
 (my s25 s24).bind fun _=>
 some (s25,0))
def YT:dC:=⟨[(false,.x y1),(false,.x (.sl (.sl (.i .i64)))),(false,.x (.sl (.sl (.i .i64))))],[([.x (.sl y8),.x (.i .i64)],[])],false,[],fun p=>match p with|(t_0,old_1,now_2)=>oY t_0 old_1 now_2⟩
theorem aaC:aN prog 174 YT:=aH mixed (lp:=eg) (aR:=aR) (np:=3) (an:=[(4,{j:=some {vs:=[(21,.x .b)]}}),(12,{j:=some {vs:=[(8,.so 0),(25,.x (.i .i64))],os:=[.ar y8]},e:=[(.exit 0,{vs:=[(8,.so 0)],os:=[.ar y8]})]}),(23,{j:=some {vs:=[(8,.so 0),(34,.x (.i .i64))],os:=[.ar y8],kl:=[1]},e:=[(.exit 2,{vs:=[(8,.so 0)],os:=[.ar y8],kl:=[1]})]}),(27,{e:=[(.normal,{vs:=[(8,.so 0)],os:=[.ar y8],kl:=[3]})]})]) (.cons aaE (.cons Vz (.cons aaD .nil))) (by kernel_rfl) (by kernel_rfl)
def jB(t_0:ao):(Int×Int)->Option ((Int×Int)⊕Int):=fun(i3,i4)=>
 bif decide (i4<(((ao.aZ t_0).l).length:Int))then((cD i4 ((ao.aZ t_0).l).length).bind fun n5=>
 some (.inl ((if(a8.tI (gt ((ao.aZ t_0).l) n5))>i3 then(a8.tI (gt ((ao.aZ t_0).l) n5))else i3),wr .i64 (i4+1))))else
 (some (.inr i3))
def mV(t_0:ao):Option Int:=
 (aU (jB t_0) (0,0)).bind fun i6=>
 some i6
def YS:dC:=⟨[(false,.x y1)],[([.x (.i .i64)],[])],true,[],fun p=>match p with|t_0=>mV t_0⟩
theorem aaB:aN prog 236 YS:=aH mixed (lp:=eg) (aR:=aR) (np:=1) (an:=[(7,{j:=some {vs:=[(3,.x (.i .i64)),(9,.x (.i .i64))]},e:=[(.exit 0,{vs:=[(3,.x (.i .i64))]})]})]) .nil (by kernel_rfl) (by kernel_rfl)
def qs(t_0:ao):Option Int:=
 (mV t_0).bind fun r1=>
 some (wr .i64 ((ao.au t_0)*r1))
def YR:dC:=⟨[(false,.x y1)],[([.x (.i .i64)],[])],true,[],fun p=>match p with|t_0=>qs t_0⟩
theorem Vy:aN prog 175 YR:=aH mixed (lp:=eg) (aR:=aR) (np:=1) (an:=[]) (.cons aaB .nil) (by kernel_rfl) (by kernel_rfl)
theorem aaA:aN prog 237 (uJ (.i .i64) uh):=Ph
theorem aaz:aN prog 238 (KF (.i .i64) p_):=Rv
def lJ(l_0:Sl aE):(Int×Sl Int)->Option ((Int×Sl Int)⊕(Sl Int)):=fun(i4,s5)=>
 bif decide (i4<(l_0.l.length:Int))then((cD i4 l_0.l.length).bind fun n6=>
 (ic (s5.l++[aE.DW (gt l_0.l n6)])).bind fun l7=>
 some (.inl (wr .i64 (i4+1),(Sl.mk l7))))else
 (some (.inr s5))
def lf(l_0:Sl aE):Option (Sl Int):=
 (aU (lJ l_0) (0,Sl.nil)).bind fun s8=>
 (tM uh s8).bind fun s9=>
 (my s9 s8).bind fun _=>
 (N9 p_ s9).bind fun s10=>
 some s10
def YQ:dC:=⟨[(false,.x (.sl y8))],[([.x (.sl (.i .i64))],[])],false,[],fun p=>match p with|l_0=>lf l_0⟩
theorem aay:aN prog 176 YQ:=aH mixed (lp:=eg) (aR:=aR) (np:=1) (an:=[(7,{j:=some {vs:=[(3,.so 0),(8,.x (.i .i64))],os:=[.ar (.i .i64)]},e:=[(.exit 0,{vs:=[(3,.so 0)],os:=[.ar (.i .i64)]})]})]) (.cons aaA (.cons aaz .nil)) (by kernel_rfl) (by kernel_rfl)
def uS(t_0:ao)(miss_1:Int):Option Int:=
 (qs t_0).bind fun r1=>
 some (wr .i64 ((wr .i64 ((wr .i64 (2*miss_1))+r1))+1))
def YP:dC:=⟨[(false,.x y1),(false,.x (.i .i64))],[([.x (.i .i64)],[])],true,[],fun p=>match p with|(t_0,miss_1)=>uS t_0 miss_1⟩
theorem aax:aN prog 178 YP:=aH mixed (lp:=eg) (aR:=aR) (np:=2) (an:=[]) (.cons Vy .nil) (by kernel_rfl) (by kernel_rfl)
def vS(a_0:a7)(c_1:Int):Option Bool:=some ((((((decide ((a7.I a_0)<0))||(decide ((a7.I a_0)>=c_1)))||(decide ((a7.J a_0)<0)))||(decide ((a7.J a_0)>=c_1)))||(decide ((a7.Gap a_0)<(-1073741824))))||(decide ((a7.Gap a_0)>1073741824)))
def YO:dC:=⟨[(false,.x y3),(false,.pt (.i .i64))],[([.x .b],[])],true,[],fun p=>match p with|(a_0,c_1)=>vS a_0 c_1⟩
theorem aaw:aN prog 321 YO:=aH mixed (lp:=eg) (aR:=aR) (np:=2) (an:=[]) .nil (by kernel_rfl) (by kernel_rfl)
def bK(s_0:Sl a7)(f_1_c0:Int):Int->Option (Int⊕(Int⊕Unit)):=fun i2=>
 bif decide (i2<(s_0.l.length:Int))then((cD i2 s_0.l.length).bind fun n3=>
 (vS (gt s_0.l n3) f_1_c0).bind fun r4=>
 bif r4 then(some (.inr (.inl i2)))else
 (some (.inl (wr .i64 (i2+1)))))else
 (some (.inr (.inr ())))
def bU(s_0:Sl a7)(f_1_c0:Int):Option Int:=
 (aU (bK s_0 f_1_c0) 0).bind fun
 |.inl i5=>(some i5)
 |.inr _=>(some (-1))
def YN:dC:=⟨[(false,.x (.sl y3)),(false,.fn 321 (.pr (.pt (.i .i64)) .ni))],[([.x (.i .i64)],[])],true,[],fun p=>match p with|(s_0,f_1_c0)=>bU s_0 f_1_c0⟩
theorem aav:aN prog 340 YN:=aH mixed (lp:=eg) (aR:=aR) (np:=2) (an:=[(5,{j:=some {vs:=[(8,.x (.i .i64))]},e:=[(.ret,{vs:=[(4,.x (.i .i64))]}),(.exit 0,{})]})]) (.cons aaw .nil) (by kernel_rfl) (by kernel_rfl)
def bL(s_0:Sl a7)(f_1_c0:Int):Option Bool:=
 (bU s_0 f_1_c0).bind fun r1=>
 some (decide (r1>=0))
def YM:dC:=⟨[(false,.x (.sl y3)),(false,.fn 321 (.pr (.pt (.i .i64)) .ni))],[([.x .b],[])],true,[],fun p=>match p with|(s_0,f_1_c0)=>bL s_0 f_1_c0⟩
theorem aau:aN prog 320 YM:=aH mixed (lp:=eg) (aR:=aR) (np:=2) (an:=[]) (.cons aav .nil) (by kernel_rfl) (by kernel_rfl)
def qC(n_0:Int)(l_1:Sl a7):Option Bool:=
 bif(((decide (n_0<0))||(decide (n_0>64)))||(decide ((l_1.l.length:Int)>256)))then(some false)else
 ((bL l_1 n_0).bind fun r1=>
 some (!r1))
def YL:dC:=⟨[(false,.x (.i .i64)),(false,.x (.sl y3))],[([.x .b],[])],true,[],fun p=>match p with|(n_0,l_1)=>qC n_0 l_1⟩
theorem aat:aN prog 275 YL:=aH mixed (lp:=eg) (aR:=aR) (np:=2) (an:=[]) (.cons aau .nil) (by kernel_rfl) (by kernel_rfl)
def gY(l_1:Sl a7):(Int×Int×Sl Int×Sl Int)->Option ((Int×Int×Sl Int×Sl Int)⊕(Int×Sl Int×Sl Int)):=fun(i19,i20,s21,s22)=>
 bif decide (i20<(l_1.l.length:Int))then(((cD i20 l_1.l.length).bind fun n23=>
 (cD (a7.I (gt l_1.l n23)) s21.l.length).bind fun n24=>
 (cD (a7.J (gt l_1.l n23)) s21.l.length).bind fun n25=>
 bif decide ((wr .i64 ((gt s21.l n24)+(a7.Gap (gt l_1.l n23))))>(gt s21.l n25))then((cD (a7.J (gt l_1.l n23)) s21.l.length).bind fun n26=>
 (cD (a7.J (gt l_1.l n23)) s22.l.length).bind fun n27=>
 some (a7.J (gt l_1.l n23),(Sl.mk (s21.l.set n26 (wr .i64 ((gt s21.l n24)+(a7.Gap (gt l_1.l n23)))))),(Sl.mk (s22.l.set n27 i20))))else
 (some (i19,s21,s22)):Option (Int×Sl Int×Sl Int)).bind fun(i28,s29,s30)=>
 some (.inl (i28,wr .i64 (i20+1),s29,s30)))else
 (some (.inr (i19,s21,s22)))
def ll(n_0:Int)(l_1:Sl a7):(Int×Int×Sl Int×Sl Int)->Option ((Int×Int×Sl Int×Sl Int)⊕(Int×Sl Int×Sl Int)):=fun(i9,i10,s11,s12)=>
 bif decide (i10<(wr .i64 (n_0+1)))then((aU (gY l_1) ((-1),0,s11,s12)).bind fun(i31,s32,s33)=>
 bif decide (i31<0)then(some (.inr (i31,s32,s33)))else
 (some (.inl (i31,wr .i64 (i10+1),s32,s33))))else
 (some (.inr (i9,s11,s12)))
def sA(n_0:Int)(l_1:Sl a7):Option (Sl Int×Sl Int×Int):=
 (yT 0 n_0 n_0).bind fun l1=>
 (yT 0 n_0 n_0).bind fun l2=>
 (aU (ll n_0 l_1) ((-1),0,(Sl.mk l1),(Sl.mk l2))).bind fun(i34,s35,s36)=>
 some (s35,s36,i34)
def YK:dC:=⟨[(false,.x (.i .i64)),(false,.x (.sl y3))],[([.x (.sl (.i .i64)),.x (.sl (.i .i64)),.x (.i .i64)],[])],false,[],fun p=>match p with|(n_0,l_1)=>sA n_0 l_1⟩
theorem aas:aN prog 276 YK:=aH mixed (lp:=eg) (aR:=aR) (np:=2) (an:=[(10,{j:=some {vs:=[(7,.so 0),(8,.so 1),(9,.x (.i .i64)),(19,.x (.i .i64))],os:=[.ar (.i .i64),.ar (.i .i64)],kl:=[1000000,3000000]},e:=[(.exit 0,{vs:=[(7,.so 0),(8,.so 1),(9,.x (.i .i64))],os:=[.ar (.i .i64),.ar (.i .i64)],kl:=[1000000,3000000]})]}),(20,{j:=some {vs:=[(7,.so 0),(8,.so 1),(9,.x (.i .i64)),(23,.x (.i .i64))],os:=[.ar (.i .i64),.ar (.i .i64)],kl:=[6000000,6000001]},e:=[(.exit 2,{vs:=[(7,.so 0),(8,.so 1),(9,.x (.i .i64))],os:=[.ar (.i .i64),.ar (.i .i64)],kl:=[6000000,6000001]})]}),(24,{e:=[(.normal,{vs:=[(7,.so 0),(8,.so 1),(9,.x (.i .i64))],os:=[.ar (.i .i64),.ar (.i .i64)],kl:=[6000002,6000003]})]})]) .nil (by kernel_rfl) (by kernel_rfl)
def nY(n_0:Int)(l_1:Sl a7):Option (Sl Int×Bool):=
 (qC n_0 l_1).bind fun r1=>
 bif(!r1)then(some (Sl.nil,false))else
 ((sA n_0 l_1).bind fun(r2,_,r4)=>
 bif decide (r4>=0)then(some (Sl.nil,false))else
 (some (r2,true)))
def YJ:dC:=⟨[(false,.x (.i .i64)),(false,.x (.sl y3))],[([.x (.sl (.i .i64)),.x .b],[])],false,[],fun p=>match p with|(n_0,l_1)=>nY n_0 l_1⟩
theorem aar:aN prog 239 YJ:=aH mixed (lp:=eg) (aR:=aR) (np:=2) (an:=[]) (.cons aat (.cons aas .nil)) (by kernel_rfl) (by kernel_rfl)
def lR(n_0:Int)(gap_1:Int):(Int×Sl a7)->Option ((Int×Sl a7)⊕(Sl a7)):=fun(i4,s5)=>
 bif decide (i4<n_0)then((ic (s5.l++[(⟨wr .i64 (i4-1),i4,gap_1⟩:a7)])).bind fun l6=>
 some (.inl (wr .i64 (i4+1),(Sl.mk l6))))else
 (some (.inr s5))
def oG(n_0:Int)(gap_1:Int):Option (Sl Int):=
 (aU (lR n_0 gap_1) (1,Sl.nil)).bind fun s7=>
 (nY n_0 s7).bind fun(r8,_)=>
 some r8
def YI:dC:=⟨[(false,.x (.i .i64)),(false,.x (.i .i64))],[([.x (.sl (.i .i64))],[])],false,[],fun p=>match p with|(n_0,gap_1)=>oG n_0 gap_1⟩
theorem aaq:aN prog 177 YI:=aH mixed (lp:=eg) (aR:=aR) (np:=2) (an:=[(7,{j:=some {vs:=[(5,.so 0),(6,.x (.i .i64))],os:=[.ar y3]},e:=[(.exit 0,{vs:=[(5,.so 0)],os:=[.ar y3]})]})]) (.cons aar .nil) (by kernel_rfl) (by kernel_rfl)
def jK(l_0:Sl aE)(round_1:Int):(Int×Sl Int)->Option ((Int×Sl Int)⊕(Sl Int)):=fun(i4,s5)=>
 bif decide (i4<(l_0.l.length:Int))then(((cD i4 l_0.l.length).bind fun n6=>
 (bif((aE.DW (gt l_0.l n6))==round_1)then((bJ s5 (aE.Sw (gt l_0.l n6))).bind fun r7=>
 some (!r7))else
 (some false):Option Bool).bind fun b8=>
 bif b8 then((ic (s5.l++[aE.Sw (gt l_0.l n6)])).bind fun l9=>
 some (Sl.mk l9))else
 (some s5):Option (Sl Int)).bind fun s10=>
 some (.inl (wr .i64 (i4+1),s10)))else
 (some (.inr s5))
def uR(l_0:Sl aE)(round_1:Int):Option (Sl Int):=
 (aU (jK l_0 round_1) (0,Sl.nil)).bind fun s11=>
 some s11
def YH:dC:=⟨[(false,.x (.sl y8)),(false,.x (.i .i64))],[([.x (.sl (.i .i64))],[])],false,[],fun p=>match p with|(l_0,round_1)=>uR l_0 round_1⟩
theorem aap:aN prog 179 YH:=aH mixed (lp:=eg) (aR:=aR) (np:=2) (an:=[(7,{j:=some {vs:=[(5,.so 0),(10,.x (.i .i64))],os:=[.ar (.i .i64)]},e:=[(.exit 0,{vs:=[(5,.so 0)],os:=[.ar (.i .i64)]})]}),(11,{e:=[(.normal,{vs:=[(5,.so 0)],os:=[.ar (.i .i64)],kl:=[0]})]}),(15,{j:=some {vs:=[(24,.x .b)]}})]) (.cons Nw .nil) (by kernel_rfl) (by kernel_rfl)
def lc(at_3:Int)(miss_4:Int)(lead_5:Int)(r5:Sl aE)(r7:Int)(r8:Sl Int)(r10:Sl Int):(Int×Sl aE×Int×Int×Int×Int×Sl aS)->Option ((Int×Sl aE×Int×Int×Int×Int×Sl aS)⊕(Sl aE×Int×Int×Int×Int×Sl aS)):=fun(i19,s20,i21,i22,i23,i24,s25)=>
 bif decide (i19<(r10.l.length:Int))then((cD i19 r10.l.length).bind fun n26=>
 (cD i19 r8.l.length).bind fun n27=>
 (cD i19 r8.l.length).bind fun n28=>
 (uR r5 (gt r8.l n28)).bind fun r29=>
 (ic (s25.l++[(⟨gt r8.l n27,wr .i64 ((wr .i64 ((wr .i64 ((wr .i64 ((wr .i64 (at_3+lead_5))+miss_4))+r7))+1))+(gt r10.l n26)),r29⟩:aS)])).bind fun l30=>
 some (.inl (wr .i64 (i19+1),s20,i21,i22,i23,i24,(Sl.mk l30))))else
 (some (.inr (s20,i21,i22,i23,i24,s25)))
def kH(t_0:ao)(old_1:Sl (Sl Int))(now_2:Sl (Sl Int))(at_3:Int)(miss_4:Int)(lead_5:Int):Option (am×Int):=
 ((pz at_3 1099511627776).bind fun r1=>
 bif(!r1)then(some true)else
 ((pz miss_4 1048576).bind fun r2=>
 bif(!r2)then(some true)else
 ((pz lead_5 1048576).bind fun r3=>
 some (!r3))):Option Bool).bind fun b4=>
 bif b4 then(some ((⟨Sl.nil,Sl.nil,0,0,0,0⟩:am),2))else
 ((oY t_0 old_1 now_2).bind fun(r5,r6)=>
 bif(r6 !=0)then(some ((⟨Sl.nil,Sl.nil,0,0,0,0⟩:am),r6))else
 (bif((r5.l.length:Int)==0)then(some ((⟨Sl.nil,Sl.nil,0,0,0,0⟩:am),7))else
 ((qs t_0).bind fun r7=>
 (lf r5).bind fun r8=>
 (uS t_0 miss_4).bind fun r9=>
 (oG (r8.l.length:Int) r9).bind fun r10=>
 (aU (lc at_3 miss_4 lead_5 r5 r7 r8 r10) (0,r5,miss_4,r7,0,0,Sl.nil)).bind fun(s31,i32,i33,_,_,s36)=>
 (cD (wr .i64 ((s36.l.length:Int)-1)) s36.l.length).bind fun n37=>
 bif decide ((wr .i64 ((aS.At (gt s36.l n37))+miss_4))>1099511627776)then(some ((⟨Sl.nil,Sl.nil,0,0,0,0⟩:am),11))else
 (some ((⟨s31,s36,i32,i33,wr .i64 ((wr .i64 ((wr .i64 ((wr .i64 ((wr .i64 ((wr .i64 (at_3+lead_5))+miss_4))+r7))+1))-miss_4))-i33),wr .i64 ((aS.At (gt s36.l n37))+miss_4)⟩:am),0)))))
def YG:dC:=⟨[(false,.x y1),(false,.x (.sl (.sl (.i .i64)))),(false,.x (.sl (.sl (.i .i64)))),(false,.x (.i .i64)),(false,.x (.i .i64)),(false,.x (.i .i64))],[([.x y7,.x (.i .i64)],[])],false,[],fun p=>match p with|(t_0,old_1,now_2,at_3,miss_4,lead_5)=>kH t_0 old_1 now_2 at_3 miss_4 lead_5⟩
theorem aao:aN prog 117 YG:=aH mixed (lp:=eg) (aR:=aR) (np:=6) (an:=[(4,{j:=some {vs:=[(33,.x .b)]}}),(27,{j:=some {vs:=[(16,.op 0 y7 []),(75,.x (.i .i64))],os:=[.bx y7 (.rc (.co (.x (.sl y8)) (.co (.so 1) (.co (.x (.i .i64)) (.co (.x (.i .i64)) (.co (.x (.i .i64)) (.co (.x (.i .i64)) .ni))))))),.ar y9],kl:=[5]},e:=[(.exit 1,{vs:=[(16,.op 0 y7 [])],os:=[.bx y7 (.rc (.co (.x (.sl y8)) (.co (.so 1) (.co (.x (.i .i64)) (.co (.x (.i .i64)) (.co (.x (.i .i64)) (.co (.x (.i .i64)) .ni))))))),.ar y9],kl:=[5]})]})]) (.cons aaM (.cons aaC (.cons Vy (.cons aay (.cons aax (.cons aaq (.cons aap .nil))))))) (by kernel_rfl) (by kernel_rfl)
def lq(x_0_c:ai)(x_0_routes:Sl (Sl (Sl Int)))(x_0_l:Sl aj)(x_0_at:af)(x_0_volatile_phase:Int)(x_0_volatile_plan:am)(x_0_volatile_cur:Int)(x_0_volatile_want:Mp Int aa)(x_0_volatile_sent:Int)(x_0_volatile_rest:Int)(x_0_volatile_skip:Int)(x_0_volatile_healed:Int)(x_0_volatile_est:Arr 8 ak)(x_0_volatile_asked:Arr 8 Int)(x_0_volatile_out:Sl aa)(x_0_volatile_events:Sl ax)(target_1:Int)(at_2:Int):Option (am×Int×ai×Sl (Sl (Sl Int))×Sl aj×af×Int×am×Int×Mp Int aa×Int×Int×Int×Int×Arr 8 ak×Arr 8 Int×Sl aa×Sl ax):=
 (cD (af.pk x_0_at) x_0_routes.l.length).bind fun n1=>
 (cD target_1 x_0_routes.l.length).bind fun n2=>
 (uL (ai.uD x_0_c)).bind fun r3=>
 (kH (ai.T x_0_c) (gt x_0_routes.l n1) (gt x_0_routes.l n2) at_2 r3 (ai.xW x_0_c)).bind fun(r4,r5)=>
 some (r4,r5,x_0_c,x_0_routes,x_0_l,x_0_at,x_0_volatile_phase,x_0_volatile_plan,x_0_volatile_cur,x_0_volatile_want,x_0_volatile_sent,x_0_volatile_rest,x_0_volatile_skip,x_0_volatile_healed,x_0_volatile_est,x_0_volatile_asked,x_0_volatile_out,x_0_volatile_events)
def YF:dC:=⟨[(true,h0),(false,.x (.i .i64)),(false,.x (.i .i64))],[([.x y7,.x (.i .i64)],[h0])],false,[true,false,false],fun p=>match p with|(x_0_c,x_0_routes,x_0_l,x_0_at,x_0_volatile_phase,x_0_volatile_plan,x_0_volatile_cur,x_0_volatile_want,x_0_volatile_sent,x_0_volatile_rest,x_0_volatile_skip,x_0_volatile_healed,x_0_volatile_est,x_0_volatile_asked,x_0_volatile_out,x_0_volatile_events,target_1,at_2)=>lq x_0_c x_0_routes x_0_l x_0_at x_0_volatile_phase x_0_volatile_plan x_0_volatile_cur x_0_volatile_want x_0_volatile_sent x_0_volatile_rest x_0_volatile_skip x_0_volatile_healed x_0_volatile_est x_0_volatile_asked x_0_volatile_out x_0_volatile_events target_1 at_2⟩
theorem Vx:aN prog 61 YF:=aH mixed (lp:=eg) (aR:=aR) (np:=3) (an:=[]) (.cons aaN (.cons aao .nil)) (by kernel_rfl) (by kernel_rfl)
def AS:Option dO:=some (⟨(-1),(pV (.ar 4 (.i .i64))),(pV (.ar 4 (.i .i64)))⟩:dO)
def YE:dC:=⟨[],[([.x Wb],[])],true,[],fun p=>match p with|_=>AS⟩
theorem aan:aN prog 325 YE:=aH mixed (lp:=eg) (aR:=aR) (np:=0) (an:=[]) .nil (by kernel_rfl) (by kernel_rfl)
def Dh(f_0:Int)(v_1:Int):Option dO:=
 (AS).bind fun r1=>
 ((bif(((decide (f_0>=0))&&(decide (f_0<4)))&&(decide (v_1>=0)))then((mG f_0).bind fun r2=>
 some (decide (v_1<=r2)))else
 (some false):Option Bool).bind fun b3=>
 bif b3 then((mG f_0).bind fun r4=>
 (cD f_0 4).bind fun n5=>
 (cD f_0 4).bind fun n6=>
 some (⟨dO.gi r1,Arr.set (dO.Val r1) n5 v_1,Arr.set (dO.Vd r1) n6 r4⟩:dO))else
 (some r1):Option dO).bind fun x7=>
 some x7
def YD:dC:=⟨[(false,.x (.i .i64)),(false,.x (.i .i64))],[([.x Wb],[])],true,[],fun p=>match p with|(f_0,v_1)=>Dh f_0 v_1⟩
theorem aam:aN prog 283 YD:=aH mixed (lp:=eg) (aR:=aR) (np:=2) (an:=[(4,{e:=[(.normal,{vs:=[(5,.op 0 Wb [])],os:=[.bx Wb (.x Wb)],kl:=[10]})]}),(6,{j:=some {vs:=[(22,.x .b)]}})]) (.cons aan (.cons Qh .nil)) (by kernel_rfl) (by kernel_rfl)
def AI(f_0:Int)(v_1:Int)(prio_2:Int):Option cX:=
 (Dh f_0 v_1).bind fun r1=>
 some (⟨prio_2,r1,Sl.nil⟩:cX)
def YC:dC:=⟨[(false,.x (.i .i64)),(false,.x (.i .i64)),(false,.x (.i .i64))],[([.x Vh],[])],false,[],fun p=>match p with|(f_0,v_1,prio_2)=>AI f_0 v_1 prio_2⟩
theorem aal:aN prog 244 YC:=aH mixed (lp:=eg) (aR:=aR) (np:=3) (an:=[]) (.cons aam .nil) (by kernel_rfl) (by kernel_rfl)
def vw(f_0:Int)(v_1:Int)(prio_2:Int)(port_3:Int):Option cX:=
 (AI f_0 v_1 prio_2).bind fun r1=>
 some (⟨cX.R_ r1,cX.M r1,(Sl.mk [(⟨2,0,port_3⟩:dS)])⟩:cX)
def YB:dC:=⟨[(false,.x (.i .i64)),(false,.x (.i .i64)),(false,.x (.i .i64)),(false,.x (.i .i64))],[([.x Vh],[])],false,[],fun p=>match p with|(f_0,v_1,prio_2,port_3)=>vw f_0 v_1 prio_2 port_3⟩
theorem aak:aN prog 190 YB:=aH mixed (lp:=eg) (aR:=aR) (np:=4) (an:=[]) (.cons aal .nil) (by kernel_rfl) (by kernel_rfl)
def kf(l_0:Sl aE)(round_1:Int)(sw_2:Int):(Int×Sl bl)->Option ((Int×Sl bl)⊕(Sl bl)):=fun(i4,s5)=>
 bif decide (i4<(l_0.l.length:Int))then(((cD i4 l_0.l.length).bind fun n6=>
 bif(((aE.DW (gt l_0.l n6))==round_1)&&((aE.Sw (gt l_0.l n6))==sw_2))then((vw 1 (aE.ae9 (gt l_0.l n6)) 10 (aE.gi (gt l_0.l n6))).bind fun r7=>
 (ic (s5.l++[(⟨3,r7,false⟩:bl)])).bind fun l8=>
 some (Sl.mk l8))else
 (some s5):Option (Sl bl)).bind fun s9=>
 some (.inl (wr .i64 (i4+1),s9)))else
 (some (.inr s5))
def qv(l_0:Sl aE)(round_1:Int)(sw_2:Int):Option (Sl bl):=
 (aU (kf l_0 round_1 sw_2) (0,Sl.nil)).bind fun s10=>
 some s10
def YA:dC:=⟨[(false,.x (.sl y8)),(false,.x (.i .i64)),(false,.x (.i .i64))],[([.x (.sl K5)],[])],false,[],fun p=>match p with|(l_0,round_1,sw_2)=>qv l_0 round_1 sw_2⟩
theorem aaj:aN prog 132 YA:=aH mixed (lp:=eg) (aR:=aR) (np:=3) (an:=[(7,{j:=some {vs:=[(7,.so 0),(12,.x (.i .i64))],os:=[.ar K5]},e:=[(.exit 0,{vs:=[(7,.so 0)],os:=[.ar K5]})]}),(11,{e:=[(.normal,{vs:=[(7,.so 0)],os:=[.ar K5],kl:=[0]})]})]) (.cons aak .nil) (by kernel_rfl) (by kernel_rfl)
def qK(p_0:am)(k_1:Int)(n1:Nat):(Int×Sl fZ)->Option ((Int×Sl fZ)⊕(Sl fZ)):=fun(i5,s6)=>
 bif decide (i5<(((aS.p8 (gt ((am.aY p_0).l) n1)).l).length:Int))then((cD i5 ((aS.p8 (gt ((am.aY p_0).l) n1)).l).length).bind fun n7=>
 (cD k_1 ((am.aY p_0).l).length).bind fun n8=>
 (qv (am.Jd p_0) (aS.No (gt ((am.aY p_0).l) n8)) (gt ((aS.p8 (gt ((am.aY p_0).l) n1)).l) n7)).bind fun r9=>
 (ic (s6.l++[(⟨gt ((aS.p8 (gt ((am.aY p_0).l) n1)).l) n7,r9⟩:fZ)])).bind fun l10=>
 some (.inl (wr .i64 (i5+1),(Sl.mk l10))))else
 (some (.inr s6))
def qr(p_0:am)(k_1:Int):Option (Sl fZ):=
 bif((decide (k_1<0))||(decide (k_1>=(((am.aY p_0).l).length:Int))))then(some Sl.nil)else
 ((cD k_1 ((am.aY p_0).l).length).bind fun n1=>
 (aU (qK p_0 k_1 n1) (0,Sl.nil)).bind fun s11=>
 some s11)
def Yz:dC:=⟨[(false,.x y7),(false,.x (.i .i64))],[([.x (.sl y17)],[])],false,[],fun p=>match p with|(p_0,k_1)=>qr p_0 k_1⟩
theorem aai:aN prog 69 Yz:=aH mixed (lp:=eg) (aR:=aR) (np:=2) (an:=[(12,{j:=some {vs:=[(5,.so 0),(24,.x (.i .i64))],os:=[.ar y17]},e:=[(.exit 0,{vs:=[(5,.so 0)],os:=[.ar y17]})]})]) (.cons aaj .nil) (by kernel_rfl) (by kernel_rfl)
def mq(i59:Int)(q83:af)(r96:Sl fZ):(Int×Sl aa)->Option ((Int×Sl aa)⊕(Sl aa)):=fun(i99,s100)=>
 bif decide (i99<(r96.l.length:Int))then((cD i99 r96.l.length).bind fun n101=>
 (ic (s100.l++[(⟨3,fZ.Sw (gt r96.l n101),wr .i64 ((af.U q83)+1),i59,0,0,0,0,0,fZ.nq (gt r96.l n101)⟩:aa)])).bind fun l102=>
 some (.inl (wr .i64 (i99+1),(Sl.mk l102))))else
 (some (.inr s100))
def mo(r20:am):(Int×ai×Sl (Sl (Sl Int))×af×Int×am×Int×Int×Int×Int×Int×Arr 8 ak×Arr 8 Int×Sl aa×Sl aj×Mp Int aa×Sl aa×Sl ax)->Option ((Int×ai×Sl (Sl (Sl Int))×af×Int×am×Int×Int×Int×Int×Int×Arr 8 ak×Arr 8 Int×Sl aa×Sl aj×Mp Int aa×Sl aa×Sl ax)⊕((Int×ai×Sl (Sl (Sl Int))×af×Int×am×Int×Int×Int×Int×Int×Arr 8 ak×Arr 8 Int×Sl aj×Mp Int aa×Sl aa×Sl ax)⊕(ai×Sl (Sl (Sl Int))×af×Int×am×Int×Int×Int×Int×Int×Arr 8 ak×Arr 8 Int×Sl aa×Sl aj×Mp Int aa×Sl aa×Sl ax))):=fun(i59,x60,s61,x62,i63,x64,i65,i66,i67,i68,i69,v70,v71,s72,s73,m74,s75,s76)=>
 bif decide (i59<(((am.aY r20).l).length:Int))then((cD i59 ((am.aY r20).l).length).bind fun n77=>
 (mO x60 s61 s73 x62 i63 x64 i65 m74 i66 i67 i68 i69 v70 v71 s75 s76 (gt ((am.aY r20).l) n77)).bind fun(_,r79,q80,q81,s82,q83,q84,q85,q86,q87,q88,q89,q90,q91,q92,q93,s94,s95)=>
 bif(!r79)then(some (.inr (.inl (15,q80,q81,q83,q84,q85,q86,q88,q89,q90,q91,q92,q93,s82,q87,s94,s95))))else
 ((qr r20 i59).bind fun r96=>
 (aU (mq i59 q83 r96) (0,s72)).bind fun s103=>
 some (.inl (wr .i64 (i59+1),q80,q81,q83,q84,q85,q86,q88,q89,q90,q91,q92,q93,s103,s82,q87,s94,s95))))else
 (some (.inr (.inr (x60,s61,x62,i63,x64,i65,i66,i67,i68,i69,v70,v71,s72,s73,m74,s75,s76))))
def ia(x_0_c:ai)(x_0_routes:Sl (Sl (Sl Int)))(x_0_l:Sl aj)(x_0_at:af)(x_0_volatile_phase:Int)(x_0_volatile_plan:am)(x_0_volatile_cur:Int)(x_0_volatile_want:Mp Int aa)(x_0_volatile_sent:Int)(x_0_volatile_rest:Int)(x_0_volatile_skip:Int)(x_0_volatile_healed:Int)(x_0_volatile_est:Arr 8 ak)(x_0_volatile_asked:Arr 8 Int)(x_0_volatile_out:Sl aa)(x_0_volatile_events:Sl ax)(now_1:Int)(k_2:Int)(up_3:Int):Option (Int×ai×Sl (Sl (Sl Int))×Sl aj×af×Int×am×Int×Mp Int aa×Int×Int×Int×Int×Arr 8 ak×Arr 8 Int×Sl aa×Sl ax):=
 (fG x_0_c x_0_routes x_0_l x_0_at x_0_volatile_phase x_0_volatile_plan x_0_volatile_cur x_0_volatile_want x_0_volatile_sent x_0_volatile_rest x_0_volatile_skip x_0_volatile_healed x_0_volatile_est x_0_volatile_asked x_0_volatile_out x_0_volatile_events).bind fun(r1,q2,q3,s4,q5,q6,q7,q8,q9,q10,q11,q12,q13,q14,q15,s16,s17)=>
 bif(((r1 !=0)||((af.og q5) !=0))||(decide ((af.U q5)>=65535)))then(some (16,q2,q3,s4,q5,q6,q7,q8,q9,q10,q11,q12,q13,q14,q15,s16,s17))else
 ((bif((decide (k_2<0))||(decide (k_2>=(q3.l.length:Int))))then(some true)else
 ((mL now_1 0 1099511627776).bind fun r18=>
 some (!r18)):Option Bool).bind fun b19=>
 bif b19 then(some (2,q2,q3,s4,q5,q6,q7,q8,q9,q10,q11,q12,q13,q14,q15,s16,s17))else
 ((lq q2 q3 s4 q5 q6 q7 q8 q9 q10 q11 q12 q13 q14 q15 s16 s17 k_2 now_1).bind fun(r20,r21,q22,q23,s24,q25,q26,q27,q28,q29,q30,q31,q32,q33,q34,q35,s36,s37)=>
 bif(r21 !=0)then(some (r21,q22,q23,s24,q25,q26,q27,q28,q29,q30,q31,q32,q33,q34,q35,s36,s37))else
 ((iU r20).bind fun(r38,_)=>
 bif((gu .i64 r38 up_3) !=0)then(some (16,q22,q23,s24,q25,q26,q27,q28,q29,q30,q31,q32,q33,q34,q35,s36,s37))else
 ((aU (mo r20) (0,q22,q23,q25,q26,q27,q28,q30,q31,q32,q33,q34,q35,Sl.nil,s24,q29,s36,s37)).bind fun
 |.inl (i104,x105,s106,x107,i108,x109,i110,i111,i112,i113,i114,v115,v116,s117,m118,s119,s120)=>(some (i104,x105,s106,s117,x107,i108,x109,i110,m118,i111,i112,i113,i114,v115,v116,s119,s120))
 |.inr (x121,s122,x123,i124,x125,i126,i127,i128,i129,i130,v131,v132,s133,s134,m135,s136,s137)=>((eD x121 s122 s134 x123 i124 x125 i126 m135 i127 i128 i129 i130 v131 v132 s136 s137 1 (wr .i64 ((af.U x123)+1)) k_2 now_1).bind fun(q138,q139,s140,q141,q142,_,q144,q145,q146,q147,_,q149,q150,q151,s152,s153)=>
 (iM q138 q139 s140 q141 q142 r20 q144 q145 q146 q147 0 q149 q150 q151 s152 s153 now_1 8 0 (am.X5 r20) (am.To r20)).bind fun(q154,q155,s156,q157,_,q159,q160,q161,q162,q163,q164,q165,q166,q167,s168,s169)=>
 (jO q154 q155 s156 q157 1 q159 q160 q161 q162 q163 q164 q165 q166 q167 s168 s169 now_1 s133).bind fun(q170,q171,s172,q173,q174,q175,q176,q177,q178,q179,q180,q181,q182,q183,s184,s185)=>
 some (0,q170,q171,s172,q173,q174,q175,q176,q177,q178,q179,q180,q181,q182,q183,s184,s185))))))
def Yy:dC:=⟨[(true,h0),(false,.x (.i .i64)),(false,.x (.i .i64)),(false,.x (.i .i64))],[([.x (.i .i64)],[h0])],false,[true,false,false,false],fun p=>match p with|(x_0_c,x_0_routes,x_0_l,x_0_at,x_0_volatile_phase,x_0_volatile_plan,x_0_volatile_cur,x_0_volatile_want,x_0_volatile_sent,x_0_volatile_rest,x_0_volatile_skip,x_0_volatile_healed,x_0_volatile_est,x_0_volatile_asked,x_0_volatile_out,x_0_volatile_events,now_1,k_2,up_3)=>ia x_0_c x_0_routes x_0_l x_0_at x_0_volatile_phase x_0_volatile_plan x_0_volatile_cur x_0_volatile_want x_0_volatile_sent x_0_volatile_rest x_0_volatile_skip x_0_volatile_healed x_0_volatile_est x_0_volatile_asked x_0_volatile_out x_0_volatile_events now_1 k_2 up_3⟩
theorem Vw:aN prog 28 Yy:=aH mixed (lp:=eg) (aR:=aR) (np:=4) (an:=[(9,{j:=some {vs:=[(54,.x .b)]}}),(31,{j:=some {vs:=[(0,.op 0 mw []),(13,.so 1),(77,.x (.i .i64))],gs:=(.co (.op 0 mw []) .ni),os:=[.bx mw (.rc (.co (.x y4) (.co (.x (.sl (.sl (.sl (.i .i64))))) (.co (.so 2) (.co (.x tm) (.co (.rc (.co (.x (.i .i64)) (.co (.x y7) (.co (.x (.i .i64)) (.co (.om 3) (.co (.x (.i .i64)) (.co (.x (.i .i64)) (.co (.x (.i .i64)) (.co (.x (.i .i64)) (.co (.x (.ar 8 y5)) (.co (.x (.ar 8 (.i .i64))) (.co (.so 4) (.co (.so 5) .ni))))))))))))) .ni)))))),.ar i_,.ar y8,.mp (.i .i64) i_,.ar i_,.ar y2],kl:=[0,168,186,231,232]},e:=[(.ret,{vs:=[(8,.x (.i .i64))],gs:=(.co (.op 0 mw []) .ni),os:=[.bx mw (.rc (.co (.x y4) (.co (.x (.sl (.sl (.sl (.i .i64))))) (.co (.so 1) (.co (.x tm) (.co (.rc (.co (.x (.i .i64)) (.co (.x y7) (.co (.x (.i .i64)) (.co (.om 2) (.co (.x (.i .i64)) (.co (.x (.i .i64)) (.co (.x (.i .i64)) (.co (.x (.i .i64)) (.co (.x (.ar 8 y5)) (.co (.x (.ar 8 (.i .i64))) (.co (.so 3) (.co (.so 4) .ni))))))))))))) .ni)))))),.ar y8,.mp (.i .i64) i_,.ar i_,.ar y2],kl:=[0,168,186,231,232]}),(.exit 0,{vs:=[(0,.op 0 mw []),(13,.so 1)],gs:=(.co (.op 0 mw []) .ni),os:=[.bx mw (.rc (.co (.x y4) (.co (.x (.sl (.sl (.sl (.i .i64))))) (.co (.so 2) (.co (.x tm) (.co (.rc (.co (.x (.i .i64)) (.co (.x y7) (.co (.x (.i .i64)) (.co (.om 3) (.co (.x (.i .i64)) (.co (.x (.i .i64)) (.co (.x (.i .i64)) (.co (.x (.i .i64)) (.co (.x (.ar 8 y5)) (.co (.x (.ar 8 (.i .i64))) (.co (.so 4) (.co (.so 5) .ni))))))))))))) .ni)))))),.ar i_,.ar y8,.mp (.i .i64) i_,.ar i_,.ar y2],kl:=[0,168,186,231,232]})]}),(47,{j:=some {vs:=[(13,.so 0),(94,.x (.i .i64))],os:=[.ar i_],kl:=[252]},e:=[(.exit 2,{vs:=[(13,.so 0)],os:=[.ar i_],kl:=[252]})]})]) (.cons Tx (.cons W6 (.cons Vx (.cons WV (.cons ZU (.cons aai (.cons J5 (.cons Qe (.cons Tv .nil))))))))) (by kernel_rfl) (by kernel_rfl)
def iC(s_0:Sl aj):Option (Sl aj):=
 bif s_0.nw then(some Sl.nil)else
 ((ic ([]++s_0.l)).bind fun l1=>
 some (Bi (Sl.mk []) s_0.l l1))
def Yx:dC:=⟨[(false,.x (.sl y8))],[([.os y8],[])],true,[],fun p=>match p with|s_0=>iC s_0⟩
theorem aah:aN prog 35 Yx:=aH mixed (lp:=eg) (aR:=aR) (np:=1) (an:=[]) .nil (by kernel_rfl) (by kernel_rfl)
def rG(x_0_c:ai)(x_0_routes:Sl (Sl (Sl Int)))(x_0_l:Sl aj)(x_0_at:af)(x_0_volatile_phase:Int)(x_0_volatile_plan:am)(x_0_volatile_cur:Int)(x_0_volatile_want:Mp Int aa)(x_0_volatile_sent:Int)(x_0_volatile_rest:Int)(x_0_volatile_skip:Int)(x_0_volatile_healed:Int)(x_0_volatile_est:Arr 8 ak)(x_0_volatile_asked:Arr 8 Int)(x_0_volatile_out:Sl aa)(x_0_volatile_events:Sl ax):Option (Sl aj×ai×Sl (Sl (Sl Int))×Sl aj×af×Int×am×Int×Mp Int aa×Int×Int×Int×Int×Arr 8 ak×Arr 8 Int×Sl aa×Sl ax):=
 (iC x_0_l).bind fun s1=>
 some (s1,x_0_c,x_0_routes,x_0_l,x_0_at,x_0_volatile_phase,x_0_volatile_plan,x_0_volatile_cur,x_0_volatile_want,x_0_volatile_sent,x_0_volatile_rest,x_0_volatile_skip,x_0_volatile_healed,x_0_volatile_est,x_0_volatile_asked,x_0_volatile_out,x_0_volatile_events)
def Yw:dC:=⟨[(true,h0)],[([.os y8],[h0])],false,[true],fun p=>match p with|(x_0_c,x_0_routes,x_0_l,x_0_at,x_0_volatile_phase,x_0_volatile_plan,x_0_volatile_cur,x_0_volatile_want,x_0_volatile_sent,x_0_volatile_rest,x_0_volatile_skip,x_0_volatile_healed,x_0_volatile_est,x_0_volatile_asked,x_0_volatile_out,x_0_volatile_events)=>rG x_0_c x_0_routes x_0_l x_0_at x_0_volatile_phase x_0_volatile_plan x_0_volatile_cur x_0_volatile_want x_0_volatile_sent x_0_volatile_rest x_0_volatile_skip x_0_volatile_healed x_0_volatile_est x_0_volatile_asked x_0_volatile_out x_0_volatile_events⟩
theorem aag:aN prog 13 Yw:=aH mixed (lp:=eg) (aR:=aR) (np:=1) (an:=[]) (.cons aah .nil) (by kernel_rfl) (by kernel_rfl)
def sQ:(Int×ai×Sl (Sl (Sl Int))×af×Int×am×Int×Int×Int×Int×Int×Arr 8 ak×Arr 8 Int×Sl aj×Mp Int aa×Sl aa×Sl ax)->Option ((Int×ai×Sl (Sl (Sl Int))×af×Int×am×Int×Int×Int×Int×Int×Arr 8 ak×Arr 8 Int×Sl aj×Mp Int aa×Sl aa×Sl ax)⊕(ai×Sl (Sl (Sl Int))×af×Int×am×Int×Int×Int×Int×Int×Arr 8 ak×Arr 8 Int×Sl aj×Mp Int aa×Sl aa×Sl ax)):=fun(i106,x107,s108,x109,i110,x111,i112,i113,i114,i115,i116,v117,v118,s119,m120,s121,s122)=>
 bif decide (i106<3)then((jQ x107 s108 s119 x109 i110 x111 i112 m120 i113 i114 i115 i116 v117 v118 s121 s122 0 (⟨2,i106,0,0,0,wr .i64 (3*i106),0,0,0,Sl.nil⟩:aa) 7).bind fun(q123,q124,s125,q126,q127,q128,q129,q130,q131,q132,q133,q134,q135,q136,s137,s138)=>
 some (.inl (wr .i64 (i106+1),q123,q124,q126,q127,q128,q129,q131,q132,q133,q134,q135,q136,s125,q130,s137,s138)))else
 (some (.inr (x107,s108,x109,i110,x111,i112,i113,i114,i115,i116,v117,v118,s119,m120,s121,s122)))
def jL:Option Bool:=
 (w5).bind fun r1=>
 (rX r1).bind fun
 |.inl r2=>((rX (⟨(⟨1,Sl.nil,Sl.nil⟩:ao),(Sl.mk [Sl.nil,Sl.nil]),(Sl.mk [0]),0,0,0,0,0,1⟩:ai)).bind fun
 |.inl r3=>(bif((r2 !=0)||(r3 !=0))then(some false)else
 ((jP 0 7).bind fun _=>
 none))
 |.inr (_,_,_,_,_,_,_,_,_,_,_,_,_,_,_,_,r20)=>(bif((r2 !=0)||(r20 !=0))then(some false)else
 ((jP 0 7).bind fun _=>
 none)))
 |.inr (r21,r22,s23,r24,r25,r26,r27,r28,r29,r30,r31,r32,r33,r34,s35,s36,r37)=>((rX (⟨(⟨1,Sl.nil,Sl.nil⟩:ao),(Sl.mk [Sl.nil,Sl.nil]),(Sl.mk [0]),0,0,0,0,0,1⟩:ai)).bind fun
 |.inl r38=>(bif((r37 !=0)||(r38 !=0))then(some false)else
 ((iV r21 r22 s23 r24 r25 r26 r27 r28 r29 r30 r31 r32 r33 r34 s35 s36 0 7).bind fun(_,_,_,_,_,_,_,_,_,_,_,_,_,_,_,_)=>
 none))
 |.inr (r55,r56,s57,r58,r59,r60,r61,r62,r63,r64,r65,r66,r67,r68,s69,s70,r71)=>(bif((r37 !=0)||(r71 !=0))then(some false)else
 ((iV r21 r22 s23 r24 r25 r26 r27 r28 r29 r30 r31 r32 r33 r34 s35 s36 0 7).bind fun(q72,q73,s74,q75,q76,q77,q78,q79,q80,q81,q82,q83,q84,q85,s86,s87)=>
 (aU (sQ) (0,q72,q73,q75,q76,q77,q78,q80,q81,q82,q83,q84,q85,s74,q79,s86,s87)).bind fun(x139,s140,x141,i142,x143,i144,i145,i146,i147,i148,v149,v150,s151,m152,s153,s154)=>
 (kh x139 s140 s151 x141 i142 x143 i144 m152 i145 i146 i147 i148 v149 v150 s153 s154).bind fun(r155,_,q157,q158,s159,q160,q161,q162,q163,q164,q165,q166,q167,q168,q169,q170,s171,s172)=>
 (ia q157 q158 s159 q160 q161 q162 q163 q164 q165 q166 q167 q168 q169 q170 s171 s172 1 1 7).bind fun(r173,q174,q175,s176,q177,q178,q179,q180,q181,q182,q183,q184,q185,q186,q187,s188,s189)=>
 (kh q174 q175 s176 q177 q178 q179 q180 q181 q182 q183 q184 q185 q186 q187 s188 s189).bind fun(r190,r191,q192,q193,s194,q195,q196,q197,q198,q199,q200,q201,q202,q203,q204,q205,s206,s207)=>
 (bif(((r155.l.length:Int)==3)&&(r173==0))then((fG q192 q193 s194 q195 q196 q197 q198 q199 q200 q201 q202 q203 q204 q205 s206 s207).bind fun(r208,q209,q210,s211,q212,q213,q214,q215,q216,q217,q218,q219,q220,q221,q222,s223,s224)=>
 bif(((r208==1)&&((r190.l.length:Int)==2))&&((r191.l.length:Int)==1))then((cD 0 r191.l.length).bind fun n225=>
 bif((ax.cN (gt r191.l n225))==8)then((ia r55 r56 s57 r58 r59 r60 r61 r62 r63 r64 r65 r66 r67 r68 s69 s70 0 1 1).bind fun(r226,_,_,_,_,_,_,_,_,_,_,_,_,_,_,_,_)=>
 bif(r226==7)then((rG q209 q210 s211 q212 q213 q214 q215 q216 q217 q218 q219 q220 q221 q222 s223 s224).bind fun(s243,_,_,_,_,_,_,_,_,_,_,_,_,_,_,_,_)=>
 some ((s243.l.length:Int)==1))else
 (some false))else
 (some false))else
 (some false))else
 (some false):Option Bool).bind fun b260=>
 some b260)))
def Yv:dC:=⟨[],[([.x .b],[])],true,[],fun p=>match p with|_=>jL⟩
theorem aaf:aN prog 9 Yv:=aH mixed (lp:=eg) (aR:=aR) (np:=0) (an:=[(16,{j:=some {vs:=[(1,.op 0 mw []),(5,.x (.i .i64))],os:=[.bx mw (.rc (.co (.x y4) (.co (.x (.sl (.sl (.sl (.i .i64))))) (.co (.so 1) (.co (.x tm) (.co (.rc (.co (.x (.i .i64)) (.co (.x y7) (.co (.x (.i .i64)) (.co (.om 2) (.co (.x (.i .i64)) (.co (.x (.i .i64)) (.co (.x (.i .i64)) (.co (.x (.i .i64)) (.co (.x (.ar 8 y5)) (.co (.x (.ar 8 (.i .i64))) (.co (.so 3) (.co (.so 4) .ni))))))))))))) .ni)))))),.ar y8,.mp (.i .i64) i_,.ar i_,.ar y2],kl:=[11,183,201,246,247]},e:=[(.exit 0,{vs:=[(1,.op 0 mw [])],os:=[.bx mw (.rc (.co (.x y4) (.co (.x (.sl (.sl (.sl (.i .i64))))) (.co (.so 1) (.co (.x tm) (.co (.rc (.co (.x (.i .i64)) (.co (.x y7) (.co (.x (.i .i64)) (.co (.om 2) (.co (.x (.i .i64)) (.co (.x (.i .i64)) (.co (.x (.i .i64)) (.co (.x (.i .i64)) (.co (.x (.ar 8 y5)) (.co (.x (.ar 8 (.i .i64))) (.co (.so 3) (.co (.so 4) .ni))))))))))))) .ni)))))),.ar y8,.mp (.i .i64) i_,.ar i_,.ar y2],kl:=[11,183,201,246,247]})]}),(30,{j:=some {vs:=[(0,.x .b)],kl:=[92,105,123,168,169,248,422,440,485,486]}})]) (.cons ad7 (.cons Z0 (.cons ad5 (.cons VF (.cons VC (.cons VB (.cons Vw (.cons Tx (.cons aag .nil))))))))) (by kernel_rfl) (by kernel_rfl)
def sP(l_0:Sl aa)(n_1:Int):Option (aa×Bool×Sl aa):=
 bif(((l_0.l.length:Int)==0)||(decide (n_1<0)))then(some ((⟨0,0,0,0,0,0,0,0,0,Sl.nil⟩:aa),false,l_0))else
 ((PJ .i64 n_1 (l_0.l.length:Int)).bind fun i1=>
 (cD i1 l_0.l.length).bind fun n2=>
 some (gt l_0.l n2,true,l_0))
def Yu:dC:=⟨[(true,.os i_),(false,.x (.i .i64))],[([.x i_,.x .b],[.os i_])],false,[true,false],fun p=>match p with|(l_0,n_1)=>sP l_0 n_1⟩
theorem aae:aN prog 33 Yu:=aH mixed (lp:=eg) (aR:=aR) (np:=2) (an:=[]) .nil (by kernel_rfl) (by kernel_rfl)
def rU(m_0:aa):Option aa:=
 bif((aa.cN m_0)==1)then(some (⟨2,aa.Sw m_0,0,0,aa.T1 m_0,wr .i64 ((aa.T1 m_0)+(wr .i64 (3*(aa.Sw m_0)))),0,0,0,Sl.nil⟩:aa))else
 (some (⟨7,aa.Sw m_0,aa.U m_0,aa.Rd m_0,0,0,0,aa.cN m_0,0,Sl.nil⟩:aa))
def Yt:dC:=⟨[(false,.x i_)],[([.x i_],[])],false,[],fun p=>match p with|m_0=>rU m_0⟩
theorem aad:aN prog 34 Yt:=aH mixed (lp:=eg) (aR:=aR) (np:=1) (an:=[]) .nil (by kernel_rfl) (by kernel_rfl)
def qQ(x_0_c:ai)(x_0_routes:Sl (Sl (Sl Int)))(x_0_l:Sl aj)(x_0_at:af)(_x_0_volatile_phase:Int)(_x_0_volatile_plan:am)(_x_0_volatile_cur:Int)(_x_0_volatile_want:Mp Int aa)(_x_0_volatile_sent:Int)(_x_0_volatile_rest:Int)(_x_0_volatile_skip:Int)(_x_0_volatile_healed:Int)(_x_0_volatile_est:Arr 8 ak)(_x_0_volatile_asked:Arr 8 Int)(_x_0_volatile_out:Sl aa)(_x_0_volatile_events:Sl ax):Option (ai×Sl (Sl (Sl Int))×Sl aj×af×Int×am×Int×Mp Int aa×Int×Int×Int×Int×Arr 8 ak×Arr 8 Int×Sl aa×Sl ax):=
 (o9).bind fun(_,r2,r3,r4,r5,r6,r7,r8,r9,r10,s11,s12)=>
 some (x_0_c,x_0_routes,x_0_l,x_0_at,6,r2,r3,r4,r5,r6,r7,r8,r9,r10,s11,s12)
def Ys:dC:=⟨[(true,h0)],[([],[h0])],false,[true],fun p=>match p with|(x_0_c,x_0_routes,x_0_l,x_0_at,x_0_volatile_phase,x_0_volatile_plan,x_0_volatile_cur,x_0_volatile_want,x_0_volatile_sent,x_0_volatile_rest,x_0_volatile_skip,x_0_volatile_healed,x_0_volatile_est,x_0_volatile_asked,x_0_volatile_out,x_0_volatile_events)=>qQ x_0_c x_0_routes x_0_l x_0_at x_0_volatile_phase x_0_volatile_plan x_0_volatile_cur x_0_volatile_want x_0_volatile_sent x_0_volatile_rest x_0_volatile_skip x_0_volatile_healed x_0_volatile_est x_0_volatile_asked x_0_volatile_out x_0_volatile_events⟩
theorem aac:aN prog 25 Ys:=aH mixed (lp:=eg) (aR:=aR) (np:=1) (an:=[]) (.cons Z1 .nil) (by kernel_rfl) (by kernel_rfl)
end Go.Proofs.YtoekkpmeeclpeaaGreat.S
