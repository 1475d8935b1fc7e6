/- What functions of the program compute, and that the model's run computes it. Conditions: as stated. -/
import Derived.Test.YtoekkpmeeclpeaaGreatCz
import Derived.Test.YtoekkpmeeclpeaaGreatChecked
import Derived.KernelRfl
open Go.Ev Go
noncomputable section
namespace Go.Proofs.YtoekkpmeeclpeaaGreat.S
abbrev prog:Program:=Tryz.prog
theorem mixed:prog.follows .mixedOrders=true:=by kernel_rfl
def aS:C5:=fun f=>([3,4,6,8,9,14,35,36,47,48,49,50,51,54,55,63,64,67,74,75,76,99,101,102,104,105,107,118,119,120,121,123,124,125,126,127,128,129,130,131,134,135,158,159,161,165,167,171,173,175,178,180,181,182,183,184,185,186,187,188,189,211,212,213,214,215,216,217,218,219,220,221,222,223,224,225,226,227,228,229,230,231,232,236,240,241,242,243,258,259,260,261,262,263,264,265,266,267,269,270,275,277,278,279,280,281,282,283,286,295,296,298,299,300,301,302,320,321,322,323,324,325,331,332,333,340].contains f,(gI [(10,[true,false,true]),(11,[true]),(12,[true]),(13,[true]),(15,[true]),(24,[true,false,false]),(25,[true]),(26,[true,false,false]),(27,[true,false,false,false]),(28,[true,false,false,false]),(29,[true,false]),(30,[true]),(33,[true,false]),(57,[true,false,false]),(58,[true,false,false]),(59,[true,false,false]),(60,[true,false,false]),(61,[true,false,false]),(62,[true,false,false]),(65,[true,false,false,false]),(66,[true,false]),(68,[true,false]),(70,[true,false,false,false,false]),(71,[true,false,false,false,false,false]),(72,[true,false,false]),(109,[true,false,false]),(112,[true,false,false]),(113,[true,false]),(114,[true,false,false,false]),(115,[true]),(116,[true,false]),(133,[true,false]),(172,[true,false,false,false]),(212,[true,false]),(220,[true,false]),(234,[true,false]),(237,[true]),(238,[true]),(259,[true,false,false,false,false]),(263,[true,false,false]),(286,[true,false,false,false]),(296,[true,false,false,false]),(331,[true,false,false,false,false])] f).getD [])
def ael:C5:=fun f=>if f=1000000000 then(true,[])else aS f
def aek:C5:=fun f=>if f=1000000002 then(true,[])else aS f
@[reducible] def a_:Type:=Int×Int×Int×Int×Int×Int
@[reducible] def a_.A (x:a_):Int:=x.1
@[reducible] def a_.mq (x:a_):Int:=x.2.1
@[reducible] def a_.B (x:a_):Int:=x.2.2.1
@[reducible] def a_.mo (x:a_):Int:=x.2.2.2.1
@[reducible] def a_.Ci (x:a_):Int:=x.2.2.2.2.1
@[reducible] def a_.uw (x:a_):Int:=x.2.2.2.2.2
@[reducible] def fZ:Type:=Int×Int
@[reducible] def fZ.At (x:fZ):Int:=x.1
@[reducible] def fZ.gk (x:fZ):Int:=x.2
@[reducible] def ao:Type:=Int×Sl a_×Sl fZ
@[reducible] def ao.au (x:ao):Int:=x.1
@[reducible] def ao.a7 (x:ao):Sl a_:=x.2.1
@[reducible] def ao.bn (x:ao):Sl fZ:=x.2.2
@[reducible] def aj:Type:=ao×Sl (Sl Int)×Sl Int×Int×Int×Int×Int×Int×Int
@[reducible] def aj.T (x:aj):ao:=x.1
@[reducible] def aj.eA (x:aj):Sl (Sl Int):=x.2.1
@[reducible] def aj.wN (x:aj):Sl Int:=x.2.2.1
@[reducible] def aj.SW (x:aj):Int:=x.2.2.2.1
@[reducible] def aj.Lz (x:aj):Int:=x.2.2.2.2.1
@[reducible] def aj.vi (x:aj):Int:=x.2.2.2.2.2.1
@[reducible] def aj.yH (x:aj):Int:=x.2.2.2.2.2.2.1
@[reducible] def aj.Ho (x:aj):Int:=x.2.2.2.2.2.2.2.1
@[reducible] def aj.SV (x:aj):Int:=x.2.2.2.2.2.2.2.2
@[reducible] def cz:Type:=Int×Arr 4 Int×Arr 4 Int
@[reducible] def cz.gk (x:cz):Int:=x.1
@[reducible] def cz.Val (x:cz):Arr 4 Int:=x.2.1
@[reducible] def cz.LC (x:cz):Arr 4 Int:=x.2.2
@[reducible] def cI:Type:=Int×Int×Int
@[reducible] def cI.cY (x:cI):Int:=x.1
@[reducible] def cI.F (x:cI):Int:=x.2.1
@[reducible] def cI.V (x:cI):Int:=x.2.2
@[reducible] def bT:Type:=Int×cz×Sl cI
@[reducible] def bT.LB (x:bT):Int:=x.1
@[reducible] def bT.M (x:bT):cz:=x.2.1
@[reducible] def bT.CL (x:bT):Sl cI:=x.2.2
@[reducible] def aY:Type:=Int×bT×Bool
@[reducible] def aY.cY (x:aY):Int:=x.1
@[reducible] def aY.R (x:aY):bT:=x.2.1
@[reducible] def aY.Nc (x:aY):Bool:=x.2.2
@[reducible] def aa:Type:=Int×Int×Int×Int×Int×Int×Int×Int×Int×Sl aY
@[reducible] def aa.cY (x:aa):Int:=x.1
@[reducible] def aa.Sw (x:aa):Int:=x.2.1
@[reducible] def aa.U (x:aa):Int:=x.2.2.1
@[reducible] def aa.Rd (x:aa):Int:=x.2.2.2.1
@[reducible] def aa.T1 (x:aa):Int:=x.2.2.2.2.1
@[reducible] def aa.T2 (x:aa):Int:=x.2.2.2.2.2.1
@[reducible] def aa.yG (x:aa):Int:=x.2.2.2.2.2.2.1
@[reducible] def aa.Of (x:aa):Int:=x.2.2.2.2.2.2.2.1
@[reducible] def aa.Code (x:aa):Int:=x.2.2.2.2.2.2.2.2.1
@[reducible] def aa.ny (x:aa):Sl aY:=x.2.2.2.2.2.2.2.2.2
@[reducible] def bg:Type:=Int×Int×Int×Int×aa
@[reducible] def bg.cY (x:bg):Int:=x.1
@[reducible] def bg.pU (x:bg):Int:=x.2.1
@[reducible] def bg.N (x:bg):Int:=x.2.2.1
@[reducible] def bg.Up (x:bg):Int:=x.2.2.2.1
@[reducible] def bg.M (x:bg):aa:=x.2.2.2.2
@[reducible] def bp:Type:=Int×Int
@[reducible] def bp.sw (x:bp):Int:=x.1
@[reducible] def bp.EZ (x:bp):Int:=x.2
@[reducible] def y0:Ty:=.st (.pr (.i .i64) (.i .i64))
@[reducible] def y2:Ty:=.st (.pr (.i .i64) (.pr (.i .i64) (.pr (.i .i64) (.pr (.i .i64) (.pr (.i .i64) (.i .i64))))))
@[reducible] def y1:Ty:=.st (.pr (.i .i64) (.pr (.sl y2) (.sl y0)))
@[reducible] def aD:Type:=Int×Int×Int
@[reducible] def aD.gk (x:aD):Int:=x.1
@[reducible] def aD.To (x:aD):Int:=x.2.1
@[reducible] def aD.rF (x:aD):Int:=x.2.2
@[reducible] def y3:Ty:=.st (.pr (.i .i64) (.pr (.i .i64) (.i .i64)))
@[reducible] def y4:Ty:=.st (.pr y1 (.pr (.sl (.sl (.i .u64))) (.pr (.sl (.i .i64)) (.pr (.i .i64) (.pr (.i .i64) (.pr (.i .i64) (.pr (.i .i64) (.pr (.i .i64) (.i .i64)))))))))
@[reducible] def aE:Type:=Int×Int×Int×Int
@[reducible] def aE.Sw (x:aE):Int:=x.1
@[reducible] def aE.afF (x:aE):Int:=x.2.1
@[reducible] def aE.gk (x:aE):Int:=x.2.2.1
@[reducible] def aE.ED (x:aE):Int:=x.2.2.2
@[reducible] def aQ:Type:=Int×Int×Sl Int
@[reducible] def aQ.No (x:aQ):Int:=x.1
@[reducible] def aQ.At (x:aQ):Int:=x.2.1
@[reducible] def aQ.pT (x:aQ):Sl Int:=x.2.2
@[reducible] def am:Type:=Sl aE×Sl aQ×Int×Int×Int×Int
@[reducible] def am.JS (x:am):Sl aE:=x.1
@[reducible] def am.aV (x:am):Sl aQ:=x.2.1
@[reducible] def am.yG (x:am):Int:=x.2.2.2.1
@[reducible] def am.YB (x:am):Int:=x.2.2.2.2.1
@[reducible] def am.To (x:am):Int:=x.2.2.2.2.2
@[reducible] def y5:Ty:=.st (.pr .b (.pr y0 (.i .i64)))
@[reducible] def y8:Ty:=.st (.pr (.i .i64) (.pr (.i .i64) (.pr (.i .i64) (.i .i64))))
@[reducible] def y9:Ty:=.st (.pr (.i .i64) (.pr (.i .i64) (.sl (.i .i64))))
@[reducible] def y7:Ty:=.st (.pr (.sl y8) (.pr (.sl y9) (.pr (.i .i64) (.pr (.i .i64) (.pr (.i .i64) (.i .i64))))))
@[reducible] def WN:Ty:=.st (.pr (.i .i64) (.pr (.ar 4 (.i .i64)) (.ar 4 (.i .i64))))
@[reducible] def VR:Ty:=.st (.pr (.i .i64) (.pr WN (.sl y3)))
@[reducible] def LJ:Ty:=.st (.pr (.i .i64) (.pr VR .b))
@[reducible] def iX:Ty:=.st (.pr (.i .i64) (.pr (.i .i64) (.pr (.i .i64) (.pr (.i .i64) (.pr (.i .i64) (.pr (.i .i64) (.pr (.i .i64) (.pr (.i .i64) (.pr (.i .i64) (.sl LJ))))))))))
@[reducible] def y6:Ty:=.st (.pr (.i .i64) (.pr y7 (.pr (.i .i64) (.pr (.mp (.i .i64) iX) (.pr (.i .i64) (.pr (.i .i64) (.pr (.i .i64) (.pr (.i .i64) (.pr (.ar 8 y5) (.pr (.ar 8 (.i .i64)) (.pr (.sl iX) (.sl y2))))))))))))
@[reducible] def bA:Type:=Int×Int
@[reducible] def bA.Lo (x:bA):Int:=x.1
@[reducible] def bA.Hi (x:bA):Int:=x.2
@[reducible] def ak:Type:=Bool×bA×Int
@[reducible] def ak.M_ (x:ak):Bool:=x.1
@[reducible] def ak.S (x:ak):bA:=x.2.1
@[reducible] def ak.At (x:ak):Int:=x.2.2
@[reducible] def aw:Type:=Int×Int×Int×Int×Int×Int
@[reducible] def aw.cY (x:aw):Int:=x.1
@[reducible] def aw.U (x:aw):Int:=x.2.2.1
@[reducible] def aw.Sw (x:aw):Int:=x.2.2.2.1
@[reducible] def aw.X (x:aw):Int:=x.2.2.2.2.1
@[reducible] def aw.Y (x:aw):Int:=x.2.2.2.2.2
@[reducible] def ad:Type:=Int×Int×Bool×Int×Int×Int×Bool×Bool×Int
@[reducible] def ad.U (x:ad):Int:=x.1
@[reducible] def ad.pU (x:ad):Int:=x.2.1
@[reducible] def ad.jz (x:ad):Bool:=x.2.2.1
@[reducible] def ad.eQ (x:ad):Int:=x.2.2.2.1
@[reducible] def ad.At (x:ad):Int:=x.2.2.2.2.1
@[reducible] def ad.f9 (x:ad):Int:=x.2.2.2.2.2.1
@[reducible] def ad.oU (x:ad):Bool:=x.2.2.2.2.2.2.1
@[reducible] def ad.bH (x:ad):Bool:=x.2.2.2.2.2.2.2.1
@[reducible] def ad.oD (x:ad):Int:=x.2.2.2.2.2.2.2.2
@[reducible] def ai:Type:=Int×Int×Int×Int
@[reducible] def ai.cY (x:ai):Int:=x.1
@[reducible] def ai.U (x:ai):Int:=x.2.1
@[reducible] def ai.A (x:ai):Int:=x.2.2.1
@[reducible] def ai.B (x:ai):Int:=x.2.2.2
@[reducible] def pg:Ty:=.st (.pr (.i .i64) (.pr (.i .i64) (.pr .b (.pr (.i .i64) (.pr (.i .i64) (.pr (.i .i64) (.pr .b (.pr .b (.i .i64)))))))))
@[reducible] def mH:Ty:=.st (.pr y4 (.pr (.sl (.sl (.sl (.i .i64)))) (.pr (.sl y8) (.pr pg y6))))
def h0:Sh:=.pb mH (.st (.pr (.x y4) (.pr (.x (.sl (.sl (.sl (.i .i64))))) (.pr (.os y8) (.pr (.x pg) (.pr (.st (.pr (.x (.i .i64)) (.pr (.x y7) (.pr (.x (.i .i64)) (.pr (.mp (.i .i64) iX) (.pr (.x (.i .i64)) (.pr (.x (.i .i64)) (.pr (.x (.i .i64)) (.pr (.x (.i .i64)) (.pr (.x (.ar 8 y5)) (.pr (.x (.ar 8 (.i .i64))) (.pr (.os iX) (.pr (.os y2) .ni))))))))))))) .ni))))))
@[reducible] def y16:Ty:=.st (.pr (.i .i64) (.pr (.i .i64) (.pr (.i .i64) (.pr (.i .i64) iX))))
@[reducible] def a8:Type:=Int×Int×Int
@[reducible] def a8.I (x:a8):Int:=x.1
@[reducible] def a8.J (x:a8):Int:=x.2.1
@[reducible] def a8.Gap (x:a8):Int:=x.2.2
@[reducible] def gi:Type:=Int×Sl aY
@[reducible] def gi.Sw (x:gi):Int:=x.1
@[reducible] def gi.ny (x:gi):Sl aY:=x.2
@[reducible] def y17:Ty:=.st (.pr (.i .i64) (.sl LJ))
@[reducible] def fN:Type:=Int×Int×Int×Int
@[reducible] def fN.u (x:fN):Int:=x.1
@[reducible] def fN.rd (x:fN):Int:=x.2.1
@[reducible] def fN.sw (x:fN):Int:=x.2.2.1
@[reducible] def fN.cF (x:fN):Int:=x.2.2.2
def m_(t_0:ao):(Int×Sl bp)->Option ((Int×Sl bp)⊕(Sl bp)):=fun(i4,s5)=>
 bif decide (i4<(((ao.a7 t_0).l).length:Int))then((cH i4 ((ao.a7 t_0).l).length).bind fun n6=>
 (g_ (s5.l++[(⟨a_.A (gt ((ao.a7 t_0).l) n6),a_.mq (gt ((ao.a7 t_0).l) n6)⟩:bp),(⟨a_.B (gt ((ao.a7 t_0).l) n6),a_.mo (gt ((ao.a7 t_0).l) n6)⟩:bp)])).bind fun l7=>
 some (.inl (wr .i64 (i4+1),(Sl.mk l7))))else
 (some (.inr s5))
def m9(t_0:ao):(Int×Sl bp)->Option ((Int×Sl bp)⊕(Sl bp)):=fun(i11,s12)=>
 bif decide (i11<(((ao.bn t_0).l).length:Int))then((cH i11 ((ao.bn t_0).l).length).bind fun n13=>
 (g_ (s12.l++[gt ((ao.bn t_0).l) n13])).bind fun l14=>
 some (.inl (wr .i64 (i11+1),(Sl.mk l14))))else
 (some (.inr s12))
def pH(t_0:ao):Option (Sl bp):=
 (aU (m_ t_0) (0,Sl.nil)).bind fun s8=>
 (aU (m9 t_0) (0,s8)).bind fun s15=>
 some s15
def sp0:dG:=⟨[(false,.x y1)],[([.x (.sl y0)],[])],false,[],fun p=>match p with|t_0=>pH t_0⟩
theorem ok0:aL prog 98 sp0:=aH mixed (lp:=ek) (aS:=aS) (np:=1) (an:=[(7,{j:=some {vs:=[(3,.so 0),(11,.x (.i .i64))],os:=[.ar y0]},e:=[(.exit 0,{vs:=[(3,.so 0)],os:=[.ar y0]})]}),(19,{j:=some {vs:=[(3,.so 0),(32,.x (.i .i64))],os:=[.ar y0],kl:=[1]},e:=[(.exit 2,{vs:=[(3,.so 0)],os:=[.ar y0],kl:=[1]})]})]) .nil (by kernel_rfl) (by kernel_rfl)
def oF(t_0:ao):Int->Option (Int⊕(Bool⊕Unit)):=fun i2=>
 bif decide (i2<(((ao.a7 t_0).l).length:Int))then((cH i2 ((ao.a7 t_0).l).length).bind fun n3=>
 bif(((((a_.A (gt ((ao.a7 t_0).l) n3))==(a_.B (gt ((ao.a7 t_0).l) n3)))||(decide ((a_.Ci (gt ((ao.a7 t_0).l) n3))<1)))||(decide ((a_.Ci (gt ((ao.a7 t_0).l) n3))>(a_.uw (gt ((ao.a7 t_0).l) n3)))))||(decide ((a_.uw (gt ((ao.a7 t_0).l) n3))>1000)))then(some (.inr (.inl false)))else
 (some (.inl (wr .i64 (i2+1)))))else
 (some (.inr (.inr ())))
def iZ(t_0:ao)(r5:Sl bp):(Int×Mp bp Int)->Option ((Int×Mp bp Int)⊕(Bool⊕Unit)):=fun(i9,m10)=>
 bif decide (i9<(r5.l.length:Int))then((cH i9 r5.l.length).bind fun n11=>
 (DM ((l_ m10 0 (gt r5.l n11)).1) ((l_ m10 0 (gt r5.l n11)).2.2) (wr .i64 ((kF m10 0 (gt r5.l n11))+1))).bind fun m12=>
 bif(((((decide ((bp.sw (gt r5.l n11))<0))||(decide ((bp.sw (gt r5.l n11))>=(ao.au t_0))))||(decide ((bp.EZ (gt r5.l n11))<0)))||(decide ((bp.EZ (gt r5.l n11))>=8)))||(decide ((kF m12 0 (gt r5.l n11))>1)))then(some (.inr (.inl false)))else
 (some (.inl (wr .i64 (i9+1),m12))))else
 (some (.inr (.inr ())))
def nc(t_0:ao):Option Bool:=
 bif((((decide ((ao.au t_0)<1))||(decide ((ao.au t_0)>8)))||(decide ((((ao.a7 t_0).l).length:Int)>24)))||(decide ((((ao.bn t_0).l).length:Int)>8)))then(some false)else
 ((aU (oF t_0) 0).bind fun
 |.inl b4=>(some b4)
 |.inr _=>((pH t_0).bind fun r5=>
 (aU (iZ t_0 r5) (0,(Mp.none:Mp bp Int))).bind fun
 |.inl b13=>(some b13)
 |.inr _=>(some true)))
def sp1:dG:=⟨[(false,.x y1)],[([.x .b],[])],true,[],fun p=>match p with|t_0=>nc t_0⟩
theorem ok1:aL prog 47 sp1:=aH mixed (lp:=ek) (aS:=aS) (np:=1) (an:=[(10,{j:=some {vs:=[(31,.x (.i .i64))]},e:=[(.ret,{vs:=[(2,.x .b)]}),(.exit 0,{})]}),(27,{j:=some {vs:=[(5,.om 0),(62,.x (.i .i64))],os:=[.mp y0 (.i .i64)],kl:=[1]},e:=[(.ret,{vs:=[(2,.x .b)],kl:=[1]}),(.exit 2,{kl:=[1]})]})]) (.cons ok0 .nil) (by kernel_rfl) (by kernel_rfl)
def mc(x_0:Int)(y_1:Int):Option (Int×Int):=some (wr .u64 ((wr .u64 ((wr .u64 ((oT .u64 x_0 32)*(oT .u64 y_1 32)))+(oT .u64 (wr .u64 ((wr .u64 ((oT .u64 x_0 32)*(qO .u64 y_1 4294967295)))+(oT .u64 (wr .u64 ((qO .u64 x_0 4294967295)*(qO .u64 y_1 4294967295))) 32))) 32)))+(oT .u64 (wr .u64 ((qO .u64 (wr .u64 ((wr .u64 ((oT .u64 x_0 32)*(qO .u64 y_1 4294967295)))+(oT .u64 (wr .u64 ((qO .u64 x_0 4294967295)*(qO .u64 y_1 4294967295))) 32))) 4294967295)+(wr .u64 ((qO .u64 x_0 4294967295)*(oT .u64 y_1 32))))) 32)),wr .u64 (x_0*y_1))
def sp2:dG:=⟨[(false,.x (.i .u64)),(false,.x (.i .u64))],[([.x (.i .u64),.x (.i .u64)],[])],true,[],fun p=>match p with|(x_0,y_1)=>mc x_0 y_1⟩
theorem ok2:aL prog 258 sp2:=aH mixed (lp:=ek) (aS:=aS) (np:=2) (an:=[]) .nil (by kernel_rfl) (by kernel_rfl)
def ja(x_0:Int)(y_1:Int):Option (Int×Int):=
 (mc x_0 y_1).bind fun(r1,r2)=>
 some (r1,r2)
def sp3:dG:=⟨[(false,.x (.i .u64)),(false,.x (.i .u64))],[([.x (.i .u64),.x (.i .u64)],[])],true,[],fun p=>match p with|(x_0,y_1)=>ja x_0 y_1⟩
theorem ok3:aL prog 211 sp3:=aH mixed (lp:=ek) (aS:=aS) (np:=2) (an:=[]) (.cons ok2 .nil) (by kernel_rfl) (by kernel_rfl)
def oG:(Int×Sl Int)->Option ((Int×Sl Int)⊕(Sl Int)):=fun(i7,s8)=>
 bif decide (i7<(s8.l.length:Int))then((ou s8.l i7 s8.l.length).bind fun l9=>
 (ou s8.l 0 i7).bind fun l10=>
 some (.inl (wr .i64 (i7+((min ((s8.to l10).l).length ((s8.to l9).l).length:Nat):Int)),(s8.to (CI s8.l i7.toNat ((s8.to l9).l).length ((s8.to l10).l))))))else
 (some (.inr s8))
def dN(x_0:Sl Int)(count_1:Int):Option (Sl Int):=
 bif decide (count_1<0)then(none)else
 ((ja (wr .u64 (x_0.l.length:Int)) (wr .u64 count_1)).bind fun(r1,r2)=>
 bif((decide (r1>0))||(decide (r2>9223372036854775807)))then(none)else
 ((zQ 0 (wr .i64 r2) (wr .i64 r2)).bind fun l3=>
 (aU (oG) (((min x_0.l.length l3.length:Nat):Int),(Sl.mk (CI l3 0 l3.length x_0.l)))).bind fun s11=>
 some s11))
def sp4:dG:=⟨[(false,.x (.sl (.i .i64))),(false,.x (.i .i64))],[([.os (.i .i64)],[])],true,[],fun p=>match p with|(x_0,count_1)=>dN x_0 count_1⟩
theorem ok4:aL prog 159 sp4:=aH mixed (lp:=ek) (aS:=aS) (np:=2) (an:=[(17,{j:=some {vs:=[(7,.so 0),(8,.x (.i .i64))],os:=[.ar (.i .i64)],kl:=[2]},e:=[(.exit 0,{vs:=[(7,.so 0)],os:=[.ar (.i .i64)],kl:=[2]})]})]) (.cons ok3 .nil) (by kernel_rfl) (by kernel_rfl)
def wS(x_0:Int):Option Int:=
 (bif decide (x_0>=4294967296)then(some (oT .u64 x_0 32,32))else
 (some (x_0,0)):Option (Int×Int)).bind fun(i1,i2)=>
 (bif decide (i1>=65536)then(some (oT .u64 i1 16,wr .i64 (i2+16)))else
 (some (i1,i2)):Option (Int×Int)).bind fun(i3,i4)=>
 (bif decide (i3>=256)then(some (oT .u64 i3 8,wr .i64 (i4+8)))else
 (some (i3,i4)):Option (Int×Int)).bind fun(i5,i6)=>
 (atS (⟨#[0,1,2,2,3,3,3,3,4,4,4,4,4,4,4,4,5,5,5,5,5,5,5,5,5,5,5,5,5,5,5,5,6,6,6,6,6,6,6,6,6,6,6,6,6,6,6,6,6,6,6,6,6,6,6,6,6,6,6,6,6,6,6,6,7,7,7,7,7,7,7,7,7,7,7,7,7,7,7,7,7,7,7,7,7,7,7,7,7,7,7,7,7,7,7,7,7,7,7,7,7,7,7,7,7,7,7,7,7,7,7,7,7,7,7,7,7,7,7,7,7,7,7,7,7,7,7,7,8,8,8,8,8,8,8,8,8,8,8,8,8,8,8,8,8,8,8,8,8,8,8,8,8,8,8,8,8,8,8,8,8,8,8,8,8,8,8,8,8,8,8,8,8,8,8,8,8,8,8,8,8,8,8,8,8,8,8,8,8,8,8,8,8,8,8,8,8,8,8,8,8,8,8,8,8,8,8,8,8,8,8,8,8,8,8,8,8,8,8,8,8,8,8,8,8,8,8,8,8,8,8,8,8,8,8,8,8,8,8,8,8,8,8,8,8,8,8,8,8,8,8,8,8,8,8,8]⟩:ByteArray) (wr .u8 i5)).bind fun b7=>
 some (wr .i64 (i6+(wr .i64 b7)))
def sp5:dG:=⟨[(false,.x (.i .u64))],[([.x (.i .i64)],[])],true,[],fun p=>match p with|x_0=>wS x_0⟩
theorem ok5:aL prog 295 sp5:=aH mixed (lp:=ek) (aS:=aS) (np:=1) (an:=[(2,{e:=[(.normal,{vs:=[(0,.x (.i .u64)),(2,.x (.i .i64))]})]}),(8,{e:=[(.normal,{vs:=[(0,.x (.i .u64)),(2,.x (.i .i64))]})]}),(14,{e:=[(.normal,{vs:=[(0,.x (.i .u64)),(2,.x (.i .i64))]})]})]) .nil (by kernel_rfl) (by kernel_rfl)
def oN(x_0:Int):Option Int:=
 (wS x_0).bind fun r1=>
 some r1
def sp6:dG:=⟨[(false,.x (.i .u64))],[([.x (.i .i64)],[])],true,[],fun p=>match p with|x_0=>oN x_0⟩
theorem ok6:aL prog 260 sp6:=aH mixed (lp:=ek) (aS:=aS) (np:=1) (an:=[]) (.cons ok5 .nil) (by kernel_rfl) (by kernel_rfl)
def rP(x_0:Int):Option Bool:=some (x_0 !=x_0)
def sp7:dG:=⟨[(false,.x (.i .i64))],[([.x .b],[])],true,[],fun p=>match p with|x_0=>rP x_0⟩
theorem ok7:aL prog 261 sp7:=aH mixed (lp:=ek) (aS:=aS) (np:=1) (an:=[]) .nil (by kernel_rfl) (by kernel_rfl)
def jN(x_0:Int)(y_1:Int):Option Int:=
 (rP x_0).bind fun r1=>
 (rP y_1).bind fun r2=>
 bif r1 then(bif r2 then(some 0)else
 (some (-1)))else
 (bif r2 then(some 1)else
 (bif decide (x_0<y_1)then(some (-1))else
 (bif decide (x_0>y_1)then(some 1)else
 (some 0))))
def sp8:dG:=⟨[(false,.x (.i .i64)),(false,.x (.i .i64))],[([.x (.i .i64)],[])],true,[],fun p=>match p with|(x_0,y_1)=>jN x_0 y_1⟩
theorem ok8:aL prog 214 sp8:=aH mixed (lp:=ek) (aS:=aS) (np:=2) (an:=[]) (.cons ok7 .nil) (by kernel_rfl) (by kernel_rfl)
def uy(a_0:aD)(b_1:aD):Option Int:=
 (jN (aD.gk a_0) (aD.gk b_1)).bind fun r1=>
 some r1
def sp9:dG:=⟨[(false,.x y3),(false,.x y3)],[([.x (.i .i64)],[])],true,[],fun p=>match p with|(a_0,b_1)=>uy a_0 b_1⟩
theorem ok9:aL prog 213 sp9:=aH mixed (lp:=ek) (aS:=aS) (np:=2) (an:=[]) (.cons ok8 .nil) (by kernel_rfl) (by kernel_rfl)
def fj(a_1:Int):(Int×Sl aD)->Option ((Int×Sl aD)⊕(Sl aD)):=fun(i9,s10)=>
 (bif decide (i9>a_1)then((cH i9 s10.l.length).bind fun n11=>
 (cH (wr .i64 (i9-1)) s10.l.length).bind fun n12=>
 (uy (gt s10.l n11) (gt s10.l n12)).bind fun r13=>
 some (decide (r13<0)))else
 (some false):Option Bool).bind fun b14=>
 bif b14 then((cH (wr .i64 (i9-1)) s10.l.length).bind fun n15=>
 (cH i9 s10.l.length).bind fun n16=>
 (cH i9 s10.l.length).bind fun n17=>
 (cH (wr .i64 (i9-1)) (s10.l.set n17 (gt s10.l n15)).length).bind fun n18=>
 some (.inl (wr .i64 (i9-1),(Sl.mk ((s10.l.set n17 (gt s10.l n15)).set n18 (gt s10.l n16))))))else
 (some (.inr s10))
def dy(a_1:Int)(b_2:Int):(Int×Sl aD)->Option ((Int×Sl aD)⊕(Sl aD)):=fun(i4,s5)=>
 bif decide (i4<b_2)then((aU (fj a_1) (i4,s5)).bind fun s19=>
 some (.inl (wr .i64 (i4+1),s19)))else
 (some (.inr s5))
def bE(data_0:Sl aD)(a_1:Int)(b_2:Int):Option (Sl aD):=
 (aU (dy a_1 b_2) (wr .i64 (a_1+1),data_0)).bind fun s20=>
 some s20
def aej:dG:=⟨[(true,.os y3),(false,.x (.i .i64)),(false,.x (.i .i64)),(false,.fn 213 .ni)],[([],[.os y3])],true,[true,false,false,false],fun p=>match p with|(data_0,a_1,b_2)=>bE data_0 a_1 b_2⟩
theorem aff:aL prog 286 aej:=aH mixed (lp:=ek) (aS:=aS) (np:=4) (an:=[(2,{j:=some {vs:=[(0,.so 0),(8,.x (.i .i64))],gs:=(.co (.so 0) .ni),os:=[.ar y3],kl:=[0]},e:=[(.exit 0,{gs:=(.co (.so 0) .ni),os:=[.ar y3],kl:=[0]})]}),(9,{j:=some {vs:=[(0,.so 0),(9,.x (.i .i64))],gs:=(.co (.so 0) .ni),os:=[.ar y3],kl:=[1]},e:=[(.exit 2,{vs:=[(0,.so 0)],gs:=(.co (.so 0) .ni),os:=[.ar y3],kl:=[1]})]}),(12,{j:=some {vs:=[(34,.x .b)]}})]) (.cons ok9 .nil) (by kernel_rfl) (by kernel_rfl)
def cC:(Int×Int×Int×Bool×Bool×Sl aD)->Option ((Int×Int×Int×Bool×Bool×Sl aD)⊕(Sl aD)):=fun(i12,i13,i14,b15,_,s17)=>
 bif decide ((wr .i64 (i13-i12))<=12)then((bE s17 i12 i13).bind fun s18=>
 (m8 s18 s17).bind fun _=>
 some (.inr s18))else
 (bif(i14==0)then(none)else
 (bif(!b15)then(none)else
 (none)))
def cP(data_0:Sl aD)(a_1:Int)(b_2:Int)(limit_3:Int):Option (Sl aD):=
 (aU (cC) (a_1,b_2,limit_3,true,true,data_0)).bind fun s19=>
 some s19
def aei:dG:=⟨[(true,.os y3),(false,.x (.i .i64)),(false,.x (.i .i64)),(false,.x (.i .i64)),(false,.fn 213 .ni)],[([],[.os y3])],true,[true,false,false,false,false],fun p=>match p with|(data_0,a_1,b_2,limit_3)=>cP data_0 a_1 b_2 limit_3⟩
theorem afe:aL prog 259 aei:=aH mixed (lp:=ek) (aS:=aS) (np:=5) (an:=[(4,{j:=some {vs:=[(0,.so 0),(1,.x (.i .i64)),(2,.x (.i .i64)),(3,.x (.i .i64)),(10,.x .b),(11,.x .b)],gs:=(.co (.so 0) .ni),os:=[.ar y3],kl:=[0]},e:=[(.ret,{gs:=(.co (.so 0) .ni),os:=[.ar y3],kl:=[0]})]})]) (.cons aff .nil) (by kernel_rfl) (by kernel_rfl)
def cu(x_0:Sl aD):Option (Sl aD):=
 (oN (wr .u64 (x_0.l.length:Int))).bind fun r1=>
 (cP x_0 0 (x_0.l.length:Int) r1).bind fun s2=>
 (m8 s2 x_0).bind fun _=>
 some s2
def aeh:dG:=⟨[(true,.os y3),(false,.fn 213 .ni)],[([],[.os y3])],true,[true,false],fun p=>match p with|x_0=>cu x_0⟩
theorem afd:aL prog 212 aeh:=aH mixed (lp:=ek) (aS:=aS) (np:=2) (an:=[]) (.cons ok6 (.cons afe .nil)) (by kernel_rfl) (by kernel_rfl)
def iO(t_0:ao)(sw_1:Int):(Int×Sl aD)->Option ((Int×Sl aD)⊕(Sl aD)):=fun(i4,s5)=>
 bif decide (i4<(((ao.a7 t_0).l).length:Int))then(((cH i4 ((ao.a7 t_0).l).length).bind fun n6=>
 (bif((a_.A (gt ((ao.a7 t_0).l) n6))==sw_1)then((g_ (s5.l++[(⟨a_.mq (gt ((ao.a7 t_0).l) n6),a_.B (gt ((ao.a7 t_0).l) n6),i4⟩:aD)])).bind fun l7=>
 some (Sl.mk l7))else
 (some s5):Option (Sl aD)).bind fun s8=>
 bif((a_.B (gt ((ao.a7 t_0).l) n6))==sw_1)then((g_ (s8.l++[(⟨a_.mo (gt ((ao.a7 t_0).l) n6),a_.A (gt ((ao.a7 t_0).l) n6),i4⟩:aD)])).bind fun l9=>
 some (Sl.mk l9))else
 (some s8):Option (Sl aD)).bind fun s10=>
 some (.inl (wr .i64 (i4+1),s10)))else
 (some (.inr s5))
def nE(t_0:ao)(sw_1:Int):Option (Sl aD):=
 (aU (iO t_0 sw_1) (0,Sl.nil)).bind fun s11=>
 (cu s11).bind fun s12=>
 (m8 s12 s11).bind fun _=>
 some s12
def aeg:dG:=⟨[(false,.x y1),(false,.x (.i .i64))],[([.x (.sl y3)],[])],false,[],fun p=>match p with|(t_0,sw_1)=>nE t_0 sw_1⟩
theorem XD:aL prog 160 aeg:=aH mixed (lp:=ek) (aS:=aS) (np:=2) (an:=[(7,{j:=some {vs:=[(5,.so 0),(11,.x (.i .i64))],os:=[.ar y3]},e:=[(.exit 0,{vs:=[(5,.so 0)],os:=[.ar y3]})]}),(11,{e:=[(.normal,{vs:=[(5,.so 0)],os:=[.ar y3],kl:=[1]})]}),(14,{e:=[(.normal,{vs:=[(5,.so 0)],os:=[.ar y3],kl:=[1]})]})]) (.cons afd .nil) (by kernel_rfl) (by kernel_rfl)
def nG(r9:Sl aD):(Int×Sl Int×Sl Int)->Option ((Int×Sl Int×Sl Int)⊕(Sl Int×Sl Int)):=fun(i15,s16,s17)=>
 bif decide (i15<(r9.l.length:Int))then(((cH i15 r9.l.length).bind fun n18=>
 (cH (aD.To (gt r9.l n18)) s16.l.length).bind fun n19=>
 bif decide ((gt s16.l n19)<0)then((cH 0 s17.l.length).bind fun n20=>
 (cH (gt s17.l n20) s16.l.length).bind fun n21=>
 (cH (aD.To (gt r9.l n18)) s16.l.length).bind fun n22=>
 (g_ (s17.l++[aD.To (gt r9.l n18)])).bind fun l23=>
 some ((Sl.mk (s16.l.set n22 (wr .i64 ((gt s16.l n21)+1)))),(Sl.mk l23)))else
 (some (s16,s17)):Option (Sl Int×Sl Int)).bind fun(s24,s25)=>
 some (.inl (wr .i64 (i15+1),s24,s25)))else
 (some (.inr (s16,s17)))
def nF(t_0:ao):(Sl Int×Sl Int)->Option ((Sl Int×Sl Int)⊕(Sl Int)):=fun(s6,s7)=>
 bif decide ((s7.l.length:Int)>0)then((cH 0 s7.l.length).bind fun n8=>
 (nE t_0 (gt s7.l n8)).bind fun r9=>
 (aU (nG r9) (0,s6,s7)).bind fun(s26,s27)=>
 (ou s27.l 1 s27.l.length).bind fun l28=>
 some (.inl (s26,(s27.to l28))))else
 (some (.inr s6))
def pI(t_0:ao)(sw_1:Int):Option (Sl Int):=
 (dN (Sl.mk [(-1)]) (if 0>(ao.au t_0)then 0 else(ao.au t_0))).bind fun s1=>
 bif((decide (sw_1<0))||(decide (sw_1>=(ao.au t_0))))then(some s1)else
 ((cH sw_1 s1.l.length).bind fun n2=>
 (aU (nF t_0) ((Sl.mk (s1.l.set n2 0)),(Sl.mk [sw_1]))).bind fun s29=>
 some s29)
def aef:dG:=⟨[(false,.x y1),(false,.x (.i .i64))],[([.x (.sl (.i .i64))],[])],false,[],fun p=>match p with|(t_0,sw_1)=>pI t_0 sw_1⟩
theorem afc:aL prog 100 aef:=aH mixed (lp:=ek) (aS:=aS) (np:=2) (an:=[(14,{j:=some {vs:=[(5,.so 0),(6,.so 1)],os:=[.ar (.i .i64),.ar (.i .i64)],kl:=[2,3]},e:=[(.exit 0,{vs:=[(5,.so 0)],os:=[.ar (.i .i64)],kl:=[2,3]})]}),(21,{j:=some {vs:=[(5,.so 0),(6,.so 1),(39,.x (.i .i64))],os:=[.ar (.i .i64),.ar (.i .i64)],kl:=[4,5]},e:=[(.exit 2,{vs:=[(5,.so 0),(6,.so 1)],os:=[.ar (.i .i64),.ar (.i .i64)],kl:=[4,5]})]}),(25,{e:=[(.normal,{vs:=[(5,.so 0),(6,.so 1)],os:=[.ar (.i .i64),.ar (.i .i64)],kl:=[7000006,7000007]})]})]) (.cons ok4 (.cons XD .nil)) (by kernel_rfl) (by kernel_rfl)
def cJ(s_0:Sl Int)(v_1:Int):Int->Option (Int⊕(Int⊕Unit)):=fun i2=>
 bif decide (i2<(s_0.l.length:Int))then((cH i2 s_0.l.length).bind fun n3=>
 bif(v_1==(gt s_0.l n3))then(some (.inr (.inl i2)))else
 (some (.inl (wr .i64 (i2+1)))))else
 (some (.inr (.inr ())))
def fC(s_0:Sl Int)(v_1:Int):Option Int:=
 (aU (cJ s_0 v_1) 0).bind fun
 |.inl i4=>(some i4)
 |.inr _=>(some (-1))
def aee:dG:=⟨[(false,.x (.sl (.i .i64))),(false,.x (.i .i64))],[([.x (.i .i64)],[])],true,[],fun p=>match p with|(s_0,v_1)=>fC s_0 v_1⟩
theorem afb:aL prog 158 aee:=aH mixed (lp:=ek) (aS:=aS) (np:=2) (an:=[(5,{j:=some {vs:=[(8,.x (.i .i64))]},e:=[(.ret,{vs:=[(4,.x (.i .i64))]}),(.exit 0,{})]})]) .nil (by kernel_rfl) (by kernel_rfl)
def bJ(s_0:Sl Int)(v_1:Int):Option Bool:=
 (fC s_0 v_1).bind fun r1=>
 some (decide (r1>=0))
def aed:dG:=⟨[(false,.x (.sl (.i .i64))),(false,.x (.i .i64))],[([.x .b],[])],true,[],fun p=>match p with|(s_0,v_1)=>bJ s_0 v_1⟩
theorem Oa:aL prog 99 aed:=aH mixed (lp:=ek) (aS:=aS) (np:=2) (an:=[]) (.cons afb .nil) (by kernel_rfl) (by kernel_rfl)
def qT(t_0:ao):Option Bool:=
 (pI t_0 0).bind fun r1=>
 (bJ r1 (-1)).bind fun r2=>
 some (!r2)
def aec:dG:=⟨[(false,.x y1)],[([.x .b],[])],true,[],fun p=>match p with|t_0=>qT t_0⟩
theorem afa:aL prog 48 aec:=aH mixed (lp:=ek) (aS:=aS) (np:=1) (an:=[]) (.cons afc (.cons Oa .nil)) (by kernel_rfl) (by kernel_rfl)
def ns(n_0:Int)(from_1:Int)(to_2:Int):Option Bool:=some ((decide (n_0>=from_1))&&(decide (n_0<=to_2)))
def aeb:dG:=⟨[(false,.x (.i .i64)),(false,.x (.i .i64)),(false,.x (.i .i64))],[([.x .b],[])],true,[],fun p=>match p with|(n_0,from_1,to_2)=>ns n_0 from_1 to_2⟩
theorem XC:aL prog 49 aeb:=aH mixed (lp:=ek) (aS:=aS) (np:=3) (an:=[]) .nil (by kernel_rfl) (by kernel_rfl)
def Ce(s_0:Int):Option Bool:=
 (ns s_0 (-1048576) 1048576).bind fun r1=>
 some (!r1)
def aea:dG:=⟨[(false,.x (.i .i64))],[([.x .b],[])],true,[],fun p=>match p with|s_0=>Ce s_0⟩
theorem ae_:aL prog 51 aea:=aH mixed (lp:=ek) (aS:=aS) (np:=1) (an:=[]) (.cons XC .nil) (by kernel_rfl) (by kernel_rfl)
def fx(s_0:Sl Int):Int->Option (Int⊕(Int⊕Unit)):=fun i2=>
 bif decide (i2<(s_0.l.length:Int))then((cH i2 s_0.l.length).bind fun n3=>
 (Ce (gt s_0.l n3)).bind fun r4=>
 bif r4 then(some (.inr (.inl i2)))else
 (some (.inl (wr .i64 (i2+1)))))else
 (some (.inr (.inr ())))
def dv(s_0:Sl Int):Option Int:=
 (aU (fx s_0) 0).bind fun
 |.inl i5=>(some i5)
 |.inr _=>(some (-1))
def ad_:dG:=⟨[(false,.x (.sl (.i .i64))),(false,.fn 51 .ni)],[([.x (.i .i64)],[])],true,[],fun p=>match p with|s_0=>dv s_0⟩
theorem ae9:aL prog 101 ad_:=aH mixed (lp:=ek) (aS:=aS) (np:=2) (an:=[(5,{j:=some {vs:=[(8,.x (.i .i64))]},e:=[(.ret,{vs:=[(4,.x (.i .i64))]}),(.exit 0,{})]})]) (.cons ae_ .nil) (by kernel_rfl) (by kernel_rfl)
def cG(s_0:Sl Int):Option Bool:=
 (dv s_0).bind fun r1=>
 some (decide (r1>=0))
def ad9:dG:=⟨[(false,.x (.sl (.i .i64))),(false,.fn 51 .ni)],[([.x .b],[])],true,[],fun p=>match p with|s_0=>cG s_0⟩
theorem ae8:aL prog 50 ad9:=aH mixed (lp:=ek) (aS:=aS) (np:=2) (an:=[]) (.cons ae9 .nil) (by kernel_rfl) (by kernel_rfl)
theorem Ud:aL prog 166 (Ea true):=Lc (by kernel_rfl) (by kernel_rfl)
def rZ(x_0:Nat):Option Nat:=
 bif(!(Jk .f64 x_0 x_0))then((wD 9221120237041090561).bind fun r1=>
 some r1)else
 (some x_0)
def ad8:dG:=⟨[(false,.x (.f .f64))],[([.x (.f .f64)],[])],true,[],fun p=>match p with|x_0=>rZ x_0⟩
theorem aaG:aL prog 165 ad8:=aH mixed (lp:=ek) (aS:=aS) (np:=1) (an:=[]) (.cons Ud .nil) (by kernel_rfl) (by kernel_rfl)
def D7(n_0:Int):Option Nat:=
 (wD n_0).bind fun r1=>
 (rZ r1).bind fun r2=>
 some r2
def ad7:dG:=⟨[(false,.x (.i .u64))],[([.x (.f .f64)],[])],true,[],fun p=>match p with|n_0=>D7 n_0⟩
theorem ae7:aL prog 104 ad7:=aH mixed (lp:=ek) (aS:=aS) (np:=1) (an:=[]) (.cons Ud (.cons aaG .nil)) (by kernel_rfl) (by kernel_rfl)
def rR(bits_0:Sl Int):(Int×Sl Nat)->Option ((Int×Sl Nat)⊕(Sl Nat)):=fun(i4,s5)=>
 bif decide (i4<(bits_0.l.length:Int))then((cH i4 bits_0.l.length).bind fun n6=>
 (D7 (gt bits_0.l n6)).bind fun r7=>
 (Vq (s5.l++[r7])).bind fun l8=>
 some (.inl (wr .i64 (i4+1),(Sl.mk l8))))else
 (some (.inr s5))
def vn(bits_0:Sl Int):Option (Sl Nat):=
 (aU (rR bits_0) (0,Sl.nil)).bind fun s9=>
 some s9
def ad6:dG:=⟨[(false,.x (.sl (.i .u64)))],[([.x (.sl (.f .f64))],[])],false,[],fun p=>match p with|bits_0=>vn bits_0⟩
theorem ae6:aL prog 53 ad6:=aH mixed (lp:=ek) (aS:=aS) (np:=1) (an:=[(7,{j:=some {vs:=[(3,.so 0),(8,.x (.i .i64))],os:=[.ar (.f .f64)]},e:=[(.exit 0,{vs:=[(3,.so 0)],os:=[.ar (.f .f64)]})]})]) (.cons ae7 .nil) (by kernel_rfl) (by kernel_rfl)
def wC(x_0:Nat):Option Bool:=some (MJ .f64 x_0 0||Jk .f64 x_0 0)
def ad5:dG:=⟨[(false,.x (.f .f64))],[([.x .b],[])],true,[],fun p=>match p with|x_0=>wC x_0⟩
theorem ae5:aL prog 217 ad5:=aH mixed (lp:=ek) (aS:=aS) (np:=1) (an:=[]) .nil (by kernel_rfl) (by kernel_rfl)
def uQ(x_0:Nat):Option Bool:=
 (wC x_0).bind fun r1=>
 some (!r1)
def ad4:dG:=⟨[(false,.x (.f .f64))],[([.x .b],[])],true,[],fun p=>match p with|x_0=>uQ x_0⟩
theorem ae4:aL prog 216 ad4:=aH mixed (lp:=ek) (aS:=aS) (np:=1) (an:=[]) (.cons ae5 .nil) (by kernel_rfl) (by kernel_rfl)
def b_(s_0:Sl Nat):Int->Option (Int⊕(Int⊕Unit)):=fun i2=>
 bif decide (i2<(s_0.l.length:Int))then((cH i2 s_0.l.length).bind fun n3=>
 (uQ (gt s_0.l n3)).bind fun r4=>
 bif r4 then(some (.inr (.inl i2)))else
 (some (.inl (wr .i64 (i2+1)))))else
 (some (.inr (.inr ())))
def bM(s_0:Sl Nat):Option Int:=
 (aU (b_ s_0) 0).bind fun
 |.inl i5=>(some i5)
 |.inr _=>(some (-1))
def ad3:dG:=⟨[(false,.x (.sl (.f .f64))),(false,.fn 216 .ni)],[([.x (.i .i64)],[])],true,[],fun p=>match p with|s_0=>bM s_0⟩
theorem ae3:aL prog 262 ad3:=aH mixed (lp:=ek) (aS:=aS) (np:=2) (an:=[(5,{j:=some {vs:=[(8,.x (.i .i64))]},e:=[(.ret,{vs:=[(4,.x (.i .i64))]}),(.exit 0,{})]})]) (.cons ae4 .nil) (by kernel_rfl) (by kernel_rfl)
def bF(s_0:Sl Nat):Option Bool:=
 (bM s_0).bind fun r1=>
 some (decide (r1>=0))
def ad2:dG:=⟨[(false,.x (.sl (.f .f64))),(false,.fn 216 .ni)],[([.x .b],[])],true,[],fun p=>match p with|s_0=>bF s_0⟩
theorem ae2:aL prog 215 ad2:=aH mixed (lp:=ek) (aS:=aS) (np:=2) (an:=[]) (.cons ae3 .nil) (by kernel_rfl) (by kernel_rfl)
def rQ(w_0:Sl Nat)(links_1:Int):Option Bool:=
 (bif((w_0.l.length:Int)==links_1)then((bF w_0).bind fun r1=>
 some (!r1))else
 (some false):Option Bool).bind fun b2=>
 some b2
def ad1:dG:=⟨[(false,.x (.sl (.f .f64))),(false,.x (.i .i64))],[([.x .b],[])],true,[],fun p=>match p with|(w_0,links_1)=>rQ w_0 links_1⟩
theorem ae1:aL prog 161 ad1:=aH mixed (lp:=ek) (aS:=aS) (np:=2) (an:=[(3,{j:=some {vs:=[(4,.x .b)]}})]) (.cons ae2 .nil) (by kernel_rfl) (by kernel_rfl)
def jR(t_0:ao)(w_1:Sl Nat):Option Bool:=
 ((nc t_0).bind fun r1=>
 bif r1 then((rQ w_1 (((ao.a7 t_0).l).length:Int)).bind fun r2=>
 some r2)else
 (some false):Option Bool).bind fun b3=>
 some b3
def ad0:dG:=⟨[(false,.x y1),(false,.x (.sl (.f .f64)))],[([.x .b],[])],true,[],fun p=>match p with|(t_0,w_1)=>jR t_0 w_1⟩
theorem XB:aL prog 102 ad0:=aH mixed (lp:=ek) (aS:=aS) (np:=2) (an:=[(3,{j:=some {vs:=[(4,.x .b)]}})]) (.cons ok1 (.cons ae1 .nil)) (by kernel_rfl) (by kernel_rfl)
def vJ(sign_0:Int):Option Nat:=
 (bif decide (sign_0>=0)then(some 9218868437227405312)else
 (some 18442240474082181120):Option Int).bind fun i1=>
 (wD i1).bind fun r2=>
 some r2
def adZ:dG:=⟨[(false,.x (.i .i64))],[([.x (.f .f64)],[])],true,[],fun p=>match p with|sign_0=>vJ sign_0⟩
theorem aaF:aL prog 219 adZ:=aH mixed (lp:=ek) (aS:=aS) (np:=1) (an:=[(4,{e:=[(.normal,{vs:=[(3,.x (.i .u64))]})]})]) (.cons Ud .nil) (by kernel_rfl) (by kernel_rfl)
def jP:(Int×Sl Nat)->Option ((Int×Sl Nat)⊕(Sl Nat)):=fun(i7,s8)=>
 bif decide (i7<(s8.l.length:Int))then((ou s8.l i7 s8.l.length).bind fun l9=>
 (ou s8.l 0 i7).bind fun l10=>
 some (.inl (wr .i64 (i7+((min ((s8.to l10).l).length ((s8.to l9).l).length:Nat):Int)),(s8.to (CI s8.l i7.toNat ((s8.to l9).l).length ((s8.to l10).l))))))else
 (some (.inr s8))
def dQ(x_0:Sl Nat)(count_1:Int):Option (Sl Nat):=
 bif decide (count_1<0)then(none)else
 ((ja (wr .u64 (x_0.l.length:Int)) (wr .u64 count_1)).bind fun(r1,r2)=>
 bif((decide (r1>0))||(decide (r2>9223372036854775807)))then(none)else
 ((zQ 0 (wr .i64 r2) (wr .i64 r2)).bind fun l3=>
 (aU (jP) (((min x_0.l.length l3.length:Nat):Int),(Sl.mk (CI l3 0 l3.length x_0.l)))).bind fun s11=>
 some s11))
def adY:dG:=⟨[(false,.x (.sl (.f .f64))),(false,.x (.i .i64))],[([.os (.f .f64)],[])],true,[],fun p=>match p with|(x_0,count_1)=>dQ x_0 count_1⟩
theorem ae0:aL prog 218 adY:=aH mixed (lp:=ek) (aS:=aS) (np:=2) (an:=[(17,{j:=some {vs:=[(7,.so 0),(8,.x (.i .i64))],os:=[.ar (.f .f64)],kl:=[2]},e:=[(.exit 0,{vs:=[(7,.so 0)],os:=[.ar (.f .f64)],kl:=[2]})]})]) (.cons ok3 .nil) (by kernel_rfl) (by kernel_rfl)
theorem aaE:aL prog 268 (Eb true):=Ld (by kernel_rfl) (by kernel_rfl)
def AB(x_0:Nat):Option Nat:=
 (wE x_0).bind fun r1=>
 (wD (gC .u64 r1 9223372036854775808)).bind fun r2=>
 some r2
def adX:dG:=⟨[(false,.x (.f .f64))],[([.x (.f .f64)],[])],true,[],fun p=>match p with|x_0=>AB x_0⟩
theorem aeZ:aL prog 266 adX:=aH mixed (lp:=ek) (aS:=aS) (np:=1) (an:=[]) (.cons aaE (.cons Ud .nil)) (by kernel_rfl) (by kernel_rfl)
def kw(f_0:Nat)(sign_1:Int):Option Bool:=
 (bif(sign_1==0)then((AB f_0).bind fun r1=>
 some r1)else
 (bif decide (sign_1<0)then(some (Op.negFloat .f64 f_0))else
 (some f_0)):Option Nat).bind fun f2=>
 some (MJ .f64 f2 9218868437227405311)
def adW:dG:=⟨[(false,.x (.f .f64)),(false,.x (.i .i64))],[([.x .b],[])],true,[],fun p=>match p with|(f_0,sign_1)=>kw f_0 sign_1⟩
theorem aaD:aL prog 226 adW:=aH mixed (lp:=ek) (aS:=aS) (np:=2) (an:=[(2,{e:=[(.normal,{vs:=[(0,.x (.f .f64))]})]})]) (.cons aeZ .nil) (by kernel_rfl) (by kernel_rfl)
def sR(x_0:Nat):Option Bool:=
 (wE x_0).bind fun r1=>
 some (decide ((wr .i64 r1)<0))
def adV:dG:=⟨[(false,.x (.f .f64))],[([.x .b],[])],true,[],fun p=>match p with|x_0=>sR x_0⟩
theorem aeY:aL prog 332 adV:=aH mixed (lp:=ek) (aS:=aS) (np:=1) (an:=[]) (.cons aaE .nil) (by kernel_rfl) (by kernel_rfl)
def pP(x_0:Nat):Option Int:=
 bif(!(Jk .f64 x_0 x_0))then(some 0)else
 ((kw x_0 (-1)).bind fun r1=>
 bif r1 then(some 1)else
 ((kw x_0 1).bind fun r2=>
 bif r2 then(some 6)else
 (bif RU .f64 x_0 0 then(some 2)else
 (bif MJ .f64 x_0 0 then(some 5)else
 ((sR x_0).bind fun r3=>
 bif r3 then(some 3)else
 (some 4))))))
def adU:dG:=⟨[(false,.x (.f .f64))],[([.x (.i .i64)],[])],true,[],fun p=>match p with|x_0=>pP x_0⟩
theorem aeX:aL prog 298 adU:=aH mixed (lp:=ek) (aS:=aS) (np:=1) (an:=[]) (.cons aaD (.cons aeY .nil)) (by kernel_rfl) (by kernel_rfl)
def lK(x_0:Nat):Option Int:=
 (pP x_0).bind fun r1=>
 bif(r1==0)then(some 2)else
 (bif(r1==3)then(some (-1))else
 (some 0))
def adT:dG:=⟨[(false,.x (.f .f64))],[([.x (.i .i64)],[])],true,[],fun p=>match p with|x_0=>lK x_0⟩
theorem aeW:aL prog 264 adT:=aH mixed (lp:=ek) (aS:=aS) (np:=1) (an:=[]) (.cons aeX .nil) (by kernel_rfl) (by kernel_rfl)
def mz(a_0:Nat)(b_1:Nat):Option Int:=
 bif RU .f64 a_0 b_1 then(some (-1))else
 (bif MJ .f64 a_0 b_1 then(some 1)else
 ((lK a_0).bind fun r1=>
 (lK b_1).bind fun r2=>
 (jN r1 r2).bind fun r3=>
 some r3))
def adS:dG:=⟨[(false,.x (.f .f64)),(false,.x (.f .f64))],[([.x (.i .i64)],[])],true,[],fun p=>match p with|(a_0,b_1)=>mz a_0 b_1⟩
theorem aeU:aL prog 222 adS:=aH mixed (lp:=ek) (aS:=aS) (np:=2) (an:=[]) (.cons aeW (.cons ok8 .nil)) (by kernel_rfl) (by kernel_rfl)
def gD(a_0:Int)(b_1:Int)(c_2:Sl Nat):Option Int:=
 (cH a_0 c_2.l.length).bind fun n1=>
 (cH b_1 c_2.l.length).bind fun n2=>
 (mz (gt c_2.l n1) (gt c_2.l n2)).bind fun r3=>
 some r3
def adR:dG:=⟨[(false,.x (.i .i64)),(false,.x (.i .i64)),(false,.pt (.sl (.f .f64)))],[([.x (.i .i64)],[])],true,[],fun p=>match p with|(a_0,b_1,c_2)=>gD a_0 b_1 c_2⟩
theorem aeT:aL prog 221 adR:=aH mixed (lp:=ek) (aS:=aS) (np:=3) (an:=[]) (.cons aeU .nil) (by kernel_rfl) (by kernel_rfl)
def dY(a_1:Int)(cmp_3_c0:Sl Nat):(Int×Sl Int)->Option ((Int×Sl Int)⊕(Sl Int)):=fun(i9,s10)=>
 (bif decide (i9>a_1)then((cH i9 s10.l.length).bind fun n11=>
 (cH (wr .i64 (i9-1)) s10.l.length).bind fun n12=>
 (gD (gt s10.l n11) (gt s10.l n12) cmp_3_c0).bind fun r13=>
 some (decide (r13<0)))else
 (some false):Option Bool).bind fun b14=>
 bif b14 then((cH (wr .i64 (i9-1)) s10.l.length).bind fun n15=>
 (cH i9 s10.l.length).bind fun n16=>
 (cH i9 s10.l.length).bind fun n17=>
 (cH (wr .i64 (i9-1)) (s10.l.set n17 (gt s10.l n15)).length).bind fun n18=>
 some (.inl (wr .i64 (i9-1),(Sl.mk ((s10.l.set n17 (gt s10.l n15)).set n18 (gt s10.l n16))))))else
 (some (.inr s10))
def dX(a_1:Int)(b_2:Int)(cmp_3_c0:Sl Nat):(Int×Sl Int)->Option ((Int×Sl Int)⊕(Sl Int)):=fun(i4,s5)=>
 bif decide (i4<b_2)then((aU (dY a_1 cmp_3_c0) (i4,s5)).bind fun s19=>
 some (.inl (wr .i64 (i4+1),s19)))else
 (some (.inr s5))
def bQ(data_0:Sl Int)(a_1:Int)(b_2:Int)(cmp_3_c0:Sl Nat):Option (Sl Int):=
 (aU (dX a_1 b_2 cmp_3_c0) (wr .i64 (a_1+1),data_0)).bind fun s20=>
 some s20
def adQ:dG:=⟨[(true,.os (.i .i64)),(false,.x (.i .i64)),(false,.x (.i .i64)),(false,.fn 221 (.pr (.pt (.sl (.f .f64))) .ni))],[([],[.os (.i .i64)])],true,[true,false,false,false],fun p=>match p with|(data_0,a_1,b_2,cmp_3_c0)=>bQ data_0 a_1 b_2 cmp_3_c0⟩
theorem aeS:aL prog 296 adQ:=aH mixed (lp:=ek) (aS:=aS) (np:=4) (an:=[(2,{j:=some {vs:=[(0,.so 0),(8,.x (.i .i64))],gs:=(.co (.so 0) .ni),os:=[.ar (.i .i64)],kl:=[0]},e:=[(.exit 0,{gs:=(.co (.so 0) .ni),os:=[.ar (.i .i64)],kl:=[0]})]}),(9,{j:=some {vs:=[(0,.so 0),(9,.x (.i .i64))],gs:=(.co (.so 0) .ni),os:=[.ar (.i .i64)],kl:=[1]},e:=[(.exit 2,{vs:=[(0,.so 0)],gs:=(.co (.so 0) .ni),os:=[.ar (.i .i64)],kl:=[1]})]}),(12,{j:=some {vs:=[(34,.x .b)]}})]) (.cons aeT .nil) (by kernel_rfl) (by kernel_rfl)
def cU(n_1:Int)(cmp_2_c0:Sl Nat):(Int×Int×Sl Int)->Option ((Int×Int×Sl Int)⊕(Int×Sl Int)):=fun(i6,i7,s8)=>
 bif decide (i7<=n_1)then((bQ s8 i6 i7 cmp_2_c0).bind fun s9=>
 (m8 s9 s8).bind fun _=>
 some (.inl (i7,wr .i64 (i7+20),s9)))else
 (some (.inr (i6,s8)))
def gQ(n_1:Int):(Int×Int)->Option ((Int×Int)⊕Int):=fun(i17,i18)=>
 bif decide (i18<=n_1)then(none)else
 (some (.inr i17))
def cT(n_1:Int):Int->Option (Int⊕Unit):=fun i14=>
 bif decide (i14<n_1)then((aU (gQ n_1) (0,wr .i64 (2*i14))).bind fun i19=>
 bif decide ((wr .i64 (i19+i14))<n_1)then(none)else
 (some (.inl (wr .i64 (i14*2)))))else
 (some (.inr ()))
def de(data_0:Sl Int)(n_1:Int)(cmp_2_c0:Sl Nat):Option (Sl Int):=
 (aU (cU n_1 cmp_2_c0) (0,20,data_0)).bind fun(i10,s11)=>
 (bQ s11 i10 n_1 cmp_2_c0).bind fun s12=>
 (m8 s12 s11).bind fun _=>
 (aU (cT n_1) 20).bind fun _=>
 some s12
def adP:dG:=⟨[(true,.os (.i .i64)),(false,.x (.i .i64)),(false,.fn 221 (.pr (.pt (.sl (.f .f64))) .ni))],[([],[.os (.i .i64)])],true,[true,false,false],fun p=>match p with|(data_0,n_1,cmp_2_c0)=>de data_0 n_1 cmp_2_c0⟩
theorem aeR:aL prog 263 adP:=aH mixed (lp:=ek) (aS:=aS) (np:=3) (an:=[(5,{j:=some {vs:=[(0,.so 0),(7,.x (.i .i64)),(8,.x (.i .i64))],gs:=(.co (.so 0) .ni),os:=[.ar (.i .i64)],kl:=[0]},e:=[(.exit 0,{vs:=[(0,.so 0),(7,.x (.i .i64))],gs:=(.co (.so 0) .ni),os:=[.ar (.i .i64)],kl:=[0]})]}),(16,{j:=some {vs:=[(6,.x (.i .i64))]},e:=[(.exit 2,{})]}),(23,{j:=some {vs:=[(7,.x (.i .i64)),(8,.x (.i .i64))]},e:=[(.exit 4,{vs:=[(7,.x (.i .i64))]})]})]) (.cons aeS .nil) (by kernel_rfl) (by kernel_rfl)
def bZ(x_0:Sl Int)(cmp_1_c0:Sl Nat):Option (Sl Int):=
 (de x_0 (x_0.l.length:Int) cmp_1_c0).bind fun s1=>
 (m8 s1 x_0).bind fun _=>
 some s1
def adO:dG:=⟨[(true,.os (.i .i64)),(false,.fn 221 (.pr (.pt (.sl (.f .f64))) .ni))],[([],[.os (.i .i64)])],true,[true,false],fun p=>match p with|(x_0,cmp_1_c0)=>bZ x_0 cmp_1_c0⟩
theorem aeQ:aL prog 220 adO:=aH mixed (lp:=ek) (aS:=aS) (np:=2) (an:=[]) (.cons aeR .nil) (by kernel_rfl) (by kernel_rfl)
def rA(a_0:Nat)(b_1:Nat):Option Nat:=
 (rZ (GS .f64 a_0 b_1)).bind fun r1=>
 bif Jk .f64 r1 0 then(some 0)else
 (some r1)
def adN:dG:=⟨[(false,.x (.f .f64)),(false,.x (.f .f64))],[([.x (.f .f64)],[])],true,[],fun p=>match p with|(a_0,b_1)=>rA a_0 b_1⟩
theorem aaC:aL prog 223 adN:=aH mixed (lp:=ek) (aS:=aS) (np:=2) (an:=[]) (.cons aaG .nil) (by kernel_rfl) (by kernel_rfl)
def kR(l5:List Int):(Int×Sl Int)->Option ((Int×Sl Int)⊕(Sl Int)):=fun(i9,s10)=>
 bif decide (i9<(l5.length:Int))then((cH i9 s10.l.length).bind fun n11=>
 some (.inl (wr .i64 (i9+1),(Sl.mk (s10.l.set n11 i9)))))else
 (some (.inr s10))
def kQ(w_1:Sl Nat)(n19:Nat)(s18:Sl Int)(r21:Sl aD):(Int×Sl Nat)->Option ((Int×Sl Nat)⊕(Sl Nat)):=fun(i25,s26)=>
 bif decide (i25<(r21.l.length:Int))then((cH i25 r21.l.length).bind fun n27=>
 (cH (aD.To (gt r21.l n27)) s26.l.length).bind fun n28=>
 (cH (aD.rF (gt r21.l n27)) w_1.l.length).bind fun n29=>
 (cH (gt s18.l n19) s26.l.length).bind fun n30=>
 (rA (gt w_1.l n29) (gt s26.l n30)).bind fun r31=>
 (cH (aD.To (gt r21.l n27)) s26.l.length).bind fun n32=>
 some (.inl (wr .i64 (i25+1),(Sl.mk (s26.l.set n32 (BH .f64 (gt s26.l n28) r31))))))else
 (some (.inr s26))
def kP(t_0:ao)(w_1:Sl Nat):(Sl Int×Sl Nat)->Option ((Sl Int×Sl Nat)⊕(Sl Nat)):=fun(s16,s17)=>
 bif decide ((s16.l.length:Int)>0)then((bZ s16 s17).bind fun s18=>
 (m8 s18 s16).bind fun _=>
 (cH 0 s18.l.length).bind fun n19=>
 (ou s18.l 1 s18.l.length).bind fun l20=>
 (nE t_0 (gt s18.l n19)).bind fun r21=>
 (aU (kQ w_1 n19 s18 r21) (0,s17)).bind fun s33=>
 some (.inl ((s18.to l20),s33)))else
 (some (.inr s17))
def jS(t_0:ao)(w_1:Sl Nat)(sw_2:Int):Option (Sl Nat):=
 (jR t_0 w_1).bind fun r1=>
 bif(((!r1)||(decide (sw_2<0)))||(decide (sw_2>=(ao.au t_0))))then(some Sl.nil)else
 ((vJ 1).bind fun r2=>
 (dQ (Sl.mk [r2]) (ao.au t_0)).bind fun s3=>
 (cH sw_2 s3.l.length).bind fun n4=>
 (zQ 0 (ao.au t_0) (ao.au t_0)).bind fun l5=>
 (aU (kR l5) (0,(Sl.mk l5))).bind fun s12=>
 (aU (kP t_0 w_1) (s12,(Sl.mk (s3.l.set n4 0)))).bind fun s34=>
 some s34)
def adM:dG:=⟨[(false,.x y1),(false,.x (.sl (.f .f64))),(false,.x (.i .i64))],[([.x (.sl (.f .f64))],[])],false,[],fun p=>match p with|(t_0,w_1,sw_2)=>jS t_0 w_1 sw_2⟩
theorem aaB:aL prog 162 adM:=aH mixed (lp:=ek) (aS:=aS) (np:=3) (an:=[(16,{j:=some {vs:=[(8,.so 0),(40,.x (.i .i64))],os:=[.ar (.i .i64)],kl:=[7000002]},e:=[(.exit 0,{vs:=[(8,.so 0)],os:=[.ar (.i .i64)],kl:=[7000002]})]}),(26,{j:=some {vs:=[(7,.op 0 (.sl (.f .f64)) []),(8,.so 1)],os:=[.bx (.sl (.f .f64)) (.so 2),.ar (.i .i64),.ar (.f .f64)],kl:=[4000002,5000002,7000003]},e:=[(.exit 2,{vs:=[(7,.op 0 (.sl (.f .f64)) [])],os:=[.bx (.sl (.f .f64)) (.so 1),.ar (.f .f64)],kl:=[4000002,5000002,7000003]})]}),(38,{j:=some {vs:=[(7,.op 0 (.sl (.f .f64)) []),(63,.x (.i .i64))],os:=[.bx (.sl (.f .f64)) (.so 1),.ar (.f .f64)],kl:=[7000004,7000006]},e:=[(.exit 4,{vs:=[(7,.op 0 (.sl (.f .f64)) [])],os:=[.bx (.sl (.f .f64)) (.so 1),.ar (.f .f64)],kl:=[7000004,7000006]})]})]) (.cons XB (.cons aaF (.cons ae0 (.cons aeQ (.cons XD (.cons aaC .nil)))))) (by kernel_rfl) (by kernel_rfl)
def xe(w_0:Sl Nat)(link_1:Int):Option Bool:=
 (bif((decide (link_1>=0))&&(decide (link_1<(w_0.l.length:Int))))then((cH link_1 w_0.l.length).bind fun n1=>
 (vJ 1).bind fun r2=>
 some (RU .f64 (gt w_0.l n1) r2))else
 (some false):Option Bool).bind fun b3=>
 some b3
def adL:dG:=⟨[(false,.x (.sl (.f .f64))),(false,.x (.i .i64))],[([.x .b],[])],true,[],fun p=>match p with|(w_0,link_1)=>xe w_0 link_1⟩
theorem aeP:aL prog 227 adL:=aH mixed (lp:=ek) (aS:=aS) (np:=2) (an:=[(3,{j:=some {vs:=[(4,.x .b)]}})]) (.cons aaF .nil) (by kernel_rfl) (by kernel_rfl)
def nf(w_1:Sl Nat)(costs_2:Sl Nat)(at_3:Int)(r3:Sl aD):(Int×Sl aD)->Option ((Int×Sl aD)⊕(Sl aD)):=fun(i7,s8)=>
 bif decide (i7<(r3.l.length:Int))then(((cH i7 r3.l.length).bind fun n9=>
 ((xe w_1 (aD.rF (gt r3.l n9))).bind fun r10=>
 bif r10 then((cH (aD.rF (gt r3.l n9)) w_1.l.length).bind fun n11=>
 (cH (aD.To (gt r3.l n9)) costs_2.l.length).bind fun n12=>
 (rA (gt w_1.l n11) (gt costs_2.l n12)).bind fun r13=>
 (cH at_3 costs_2.l.length).bind fun n14=>
 some (Jk .f64 r13 (gt costs_2.l n14)))else
 (some false):Option Bool).bind fun b15=>
 bif b15 then((g_ (s8.l++[gt r3.l n9])).bind fun l16=>
 some (Sl.mk l16))else
 (some s8):Option (Sl aD)).bind fun s17=>
 some (.inl (wr .i64 (i7+1),s17)))else
 (some (.inr s8))
def ng(t_0:ao)(w_1:Sl Nat)(costs_2:Sl Nat)(at_3:Int):Option (Sl aD):=
 (cH at_3 costs_2.l.length).bind fun n1=>
 (kw (gt costs_2.l n1) 1).bind fun r2=>
 bif r2 then(some Sl.nil)else
 ((nE t_0 at_3).bind fun r3=>
 (aU (nf w_1 costs_2 at_3 r3) (0,Sl.nil)).bind fun s18=>
 some s18)
def adK:dG:=⟨[(false,.x y1),(false,.x (.sl (.f .f64))),(false,.x (.sl (.f .f64))),(false,.x (.i .i64))],[([.x (.sl y3)],[])],false,[],fun p=>match p with|(t_0,w_1,costs_2,at_3)=>ng t_0 w_1 costs_2 at_3⟩
theorem aaA:aL prog 164 adK:=aH mixed (lp:=ek) (aS:=aS) (np:=4) (an:=[(12,{j:=some {vs:=[(9,.so 0),(21,.x (.i .i64))],os:=[.ar y3]},e:=[(.exit 0,{vs:=[(9,.so 0)],os:=[.ar y3]})]}),(16,{e:=[(.normal,{vs:=[(9,.so 0)],os:=[.ar y3],kl:=[3]})]}),(20,{j:=some {vs:=[(46,.x .b)]}})]) (.cons aaD (.cons XD (.cons aeP (.cons aaC .nil)))) (by kernel_rfl) (by kernel_rfl)
def uW(s_0:aD)(c_1:Sl Int)(c_2:Int):Option Bool:=
 (cH (aD.To s_0) c_1.l.length).bind fun n1=>
 some ((gt c_1.l n1)==c_2)
def adJ:dG:=⟨[(false,.x y3),(false,.pt (.sl (.i .i64))),(false,.pt (.i .i64))],[([.x .b],[])],true,[],fun p=>match p with|(s_0,c_1,c_2)=>uW s_0 c_1 c_2⟩
theorem aeO:aL prog 225 adJ:=aH mixed (lp:=ek) (aS:=aS) (np:=3) (an:=[]) .nil (by kernel_rfl) (by kernel_rfl)
def bO(s_0:Sl aD)(f_1_c0:Sl Int)(f_1_c1:Int):Int->Option (Int⊕(Int⊕Unit)):=fun i2=>
 bif decide (i2<(s_0.l.length:Int))then((cH i2 s_0.l.length).bind fun n3=>
 (uW (gt s_0.l n3) f_1_c0 f_1_c1).bind fun r4=>
 bif r4 then(some (.inr (.inl i2)))else
 (some (.inl (wr .i64 (i2+1)))))else
 (some (.inr (.inr ())))
def bW(s_0:Sl aD)(f_1_c0:Sl Int)(f_1_c1:Int):Option Int:=
 (aU (bO s_0 f_1_c0 f_1_c1) 0).bind fun
 |.inl i5=>(some i5)
 |.inr _=>(some (-1))
def adI:dG:=⟨[(false,.x (.sl y3)),(false,.fn 225 (.pr (.pt (.sl (.i .i64))) (.pr (.pt (.i .i64)) .ni)))],[([.x (.i .i64)],[])],true,[],fun p=>match p with|(s_0,f_1_c0,f_1_c1)=>bW s_0 f_1_c0 f_1_c1⟩
theorem aeN:aL prog 265 adI:=aH mixed (lp:=ek) (aS:=aS) (np:=2) (an:=[(5,{j:=some {vs:=[(8,.x (.i .i64))]},e:=[(.ret,{vs:=[(4,.x (.i .i64))]}),(.exit 0,{})]})]) (.cons aeO .nil) (by kernel_rfl) (by kernel_rfl)
def bq(s_0:Sl aD)(f_1_c0:Sl Int)(f_1_c1:Int):Option Bool:=
 (bW s_0 f_1_c0 f_1_c1).bind fun r1=>
 some (decide (r1>=0))
def adH:dG:=⟨[(false,.x (.sl y3)),(false,.fn 225 (.pr (.pt (.sl (.i .i64))) (.pr (.pt (.i .i64)) .ni)))],[([.x .b],[])],true,[],fun p=>match p with|(s_0,f_1_c0,f_1_c1)=>bq s_0 f_1_c0 f_1_c1⟩
theorem aeM:aL prog 224 adH:=aH mixed (lp:=ek) (aS:=aS) (np:=2) (an:=[]) (.cons aeN .nil) (by kernel_rfl) (by kernel_rfl)
def jl(t_0:ao)(w_1:Sl Nat)(r1:Sl Nat)(i7:Int)(s8:Sl Int):(Int×Sl Int)->Option ((Int×Sl Int)⊕(Sl Int)):=fun(i13,s14)=>
 bif decide (i13<(s8.l.length:Int))then((((cH i13 s14.l.length).bind fun n15=>
 bif decide ((gt s14.l n15)<0)then((ng t_0 w_1 r1 i13).bind fun r16=>
 (bq r16 s14 i7).bind fun r17=>
 some r17)else
 (some false):Option Bool).bind fun b18=>
 bif b18 then((cH i13 s14.l.length).bind fun n19=>
 some (Sl.mk (s14.l.set n19 (wr .i64 (i7+1)))))else
 (some s14):Option (Sl Int)).bind fun s20=>
 some (.inl (wr .i64 (i13+1),s20)))else
 (some (.inr s14))
def iu(t_0:ao)(w_1:Sl Nat)(r1:Sl Nat):(Int×Sl Int)->Option ((Int×Sl Int)⊕(Sl Int)):=fun(i7,s8)=>
 (bJ s8 i7).bind fun r9=>
 bif r9 then((aU (jl t_0 w_1 r1 i7 s8) (0,s8)).bind fun s21=>
 some (.inl (wr .i64 (i7+1),s21)))else
 (some (.inr s8))
def pJ(t_0:ao)(w_1:Sl Nat)(sw_2:Int):Option (Sl Int):=
 (jS t_0 w_1 sw_2).bind fun r1=>
 bif r1.od then(some Sl.nil)else
 ((dN (Sl.mk [(-1)]) (ao.au t_0)).bind fun s2=>
 (cH sw_2 s2.l.length).bind fun n3=>
 (aU (iu t_0 w_1 r1) (0,(Sl.mk (s2.l.set n3 0)))).bind fun s22=>
 some s22)
def adG:dG:=⟨[(false,.x y1),(false,.x (.sl (.f .f64))),(false,.x (.i .i64))],[([.x (.sl (.i .i64))],[])],false,[],fun p=>match p with|(t_0,w_1,sw_2)=>pJ t_0 w_1 sw_2⟩
theorem aeL:aL prog 163 adG:=aH mixed (lp:=ek) (aS:=aS) (np:=3) (an:=[(16,{j:=some {vs:=[(8,.op 0 (.sl (.i .i64)) []),(9,.op 1 (.i .i64) [])],os:=[.bx (.sl (.i .i64)) (.so 2),.bx (.i .i64) (.x (.i .i64)),.ar (.i .i64)],kl:=[3,4,5]},e:=[(.exit 0,{vs:=[(8,.op 0 (.sl (.i .i64)) [])],os:=[.bx (.sl (.i .i64)) (.so 1),.ar (.i .i64)],kl:=[3,4,5]})]}),(23,{j:=some {vs:=[(8,.op 0 (.sl (.i .i64)) []),(31,.x (.i .i64))],os:=[.bx (.sl (.i .i64)) (.so 1),.ar (.i .i64)],kl:=[6,8]},e:=[(.exit 2,{vs:=[(8,.op 0 (.sl (.i .i64)) [])],os:=[.bx (.sl (.i .i64)) (.so 1),.ar (.i .i64)],kl:=[6,8]})]}),(27,{e:=[(.normal,{vs:=[(8,.op 0 (.sl (.i .i64)) [])],os:=[.bx (.sl (.i .i64)) (.so 1),.ar (.i .i64)],kl:=[10,11]})]}),(31,{j:=some {vs:=[(47,.x .b)]}})]) (.cons aaB (.cons ok4 (.cons Oa (.cons aaA (.cons aeM .nil))))) (by kernel_rfl) (by kernel_rfl)
def i_(r4:Sl Int)(i9:Int)(r11:Sl aD):(Int×Sl Int)->Option ((Int×Sl Int)⊕(Sl Int)):=fun(i15,s16)=>
 bif decide (i15<(r11.l.length:Int))then((cH i15 r11.l.length).bind fun n17=>
 (cH (aD.To (gt r11.l n17)) r4.l.length).bind fun n18=>
 (cH i9 r4.l.length).bind fun n19=>
 bif((gt r4.l n18)==(wr .i64 ((gt r4.l n19)-1)))then((cH i9 s16.l.length).bind fun n20=>
 some (.inr (Sl.mk (s16.l.set n20 (aD.gk (gt r11.l n17))))))else
 (some (.inl (wr .i64 (i15+1),s16))))else
 (some (.inr s16))
def ko(t_0:ao)(w_1:Sl Nat)(r3:Sl Nat)(r4:Sl Int)(s5:Sl Int):(Int×Sl Int)->Option ((Int×Sl Int)⊕(Sl Int)):=fun(i9,s10)=>
 bif decide (i9<(s5.l.length:Int))then((ng t_0 w_1 r3 i9).bind fun r11=>
 (aU (i_ r4 i9 r11) (0,s10)).bind fun s21=>
 some (.inl (wr .i64 (i9+1),s21)))else
 (some (.inr s10))
def qU(t_0:ao)(w_1:Sl Nat)(h_2:Int):Option (Sl Int×Int):=
 (jR t_0 w_1).bind fun r1=>
 bif(!r1)then(some (Sl.nil,2))else
 (bif((decide (h_2<0))||(decide (h_2>=(((ao.bn t_0).l).length:Int))))then(some (Sl.nil,7))else
 ((cH h_2 ((ao.bn t_0).l).length).bind fun n2=>
 (jS t_0 w_1 (fZ.At (gt ((ao.bn t_0).l) n2))).bind fun r3=>
 (pJ t_0 w_1 (fZ.At (gt ((ao.bn t_0).l) n2))).bind fun r4=>
 (dN (Sl.mk [(-1)]) (ao.au t_0)).bind fun s5=>
 (aU (ko t_0 w_1 r3 r4 s5) (0,s5)).bind fun s22=>
 (cH h_2 ((ao.bn t_0).l).length).bind fun n23=>
 (cH (fZ.At (gt ((ao.bn t_0).l) n2)) s22.l.length).bind fun n24=>
 some ((Sl.mk (s22.l.set n24 (fZ.gk (gt ((ao.bn t_0).l) n23)))),0)))
def adF:dG:=⟨[(false,.x y1),(false,.x (.sl (.f .f64))),(false,.x (.i .i64))],[([.x (.sl (.i .i64)),.x (.i .i64)],[])],false,[],fun p=>match p with|(t_0,w_1,h_2)=>qU t_0 w_1 h_2⟩
theorem aeK:aL prog 103 adF:=aH mixed (lp:=ek) (aS:=aS) (np:=3) (an:=[(20,{j:=some {vs:=[(11,.so 0),(50,.x (.i .i64))],os:=[.ar (.i .i64)],kl:=[10000003]},e:=[(.exit 1,{vs:=[(11,.so 0)],os:=[.ar (.i .i64)],kl:=[10000003]})]}),(29,{j:=some {vs:=[(11,.so 0),(59,.x (.i .i64))],os:=[.ar (.i .i64)],kl:=[10000004]},e:=[(.exit 3,{vs:=[(11,.so 0)],os:=[.ar (.i .i64)],kl:=[10000004]})]})]) (.cons XB (.cons aaB (.cons aeL (.cons ok4 (.cons aaA .nil))))) (by kernel_rfl) (by kernel_rfl)
def jL(r8:Sl Int):(Int×Sl (Sl Int))->Option ((Int×Sl (Sl Int))⊕(Sl (Sl Int))):=fun(i14,s15)=>
 bif decide (i14<(r8.l.length:Int))then((cH i14 r8.l.length).bind fun n16=>
 (cH i14 s15.l.length).bind fun n17=>
 (g_ (((gt s15.l n17).l)++[gt r8.l n16])).bind fun l18=>
 (cH i14 s15.l.length).bind fun n19=>
 bif Nat.beq n17 n19 then(some (.inl (wr .i64 (i14+1),(Sl.mk (s15.l.set n19 (Sl.mk l18))))))else(none))else
 (some (.inr s15))
def fI(t_0:ao)(w_1:Sl Nat):(Int×Sl (Sl Int))->Option ((Int×Sl (Sl Int))⊕(Int⊕(Sl (Sl Int)))):=fun(i6,s7)=>
 bif decide (i6<(((ao.bn t_0).l).length:Int))then((qU t_0 w_1 i6).bind fun(r8,_)=>
 (bJ r8 (-1)).bind fun r10=>
 bif r10 then(some (.inr (.inl 7)))else
 ((aU (jL r8) (0,s7)).bind fun s20=>
 some (.inl (wr .i64 (i6+1),s20))))else
 (some (.inr (.inr s7)))
def iU(t_0:ao)(w_1:Sl Nat):Option (Sl (Sl Int)×Int):=
 (jR t_0 w_1).bind fun r1=>
 bif(!r1)then(some (Sl.nil,2))else
 ((zQ (Sl.nil:Sl Int) (ao.au t_0) (ao.au t_0)).bind fun l2=>
 (aU (fI t_0 w_1) (0,(Sl.mk l2))).bind fun
 |.inl i21=>(some (Sl.nil,i21))
 |.inr s22=>(some (s22,0)))
def adE:dG:=⟨[(false,.x y1),(false,.x (.sl (.f .f64)))],[([.x (.sl (.sl (.i .i64))),.x (.i .i64)],[])],false,[],fun p=>match p with|(t_0,w_1)=>iU t_0 w_1⟩
theorem aeJ:aL prog 52 adE:=aH mixed (lp:=ek) (aS:=ael) (np:=2) (an:=[(12,{j:=some {vs:=[(6,.sr 0),(22,.x (.i .i64))],os:=[.rw (.i .i64)],kl:=[2]},e:=[(.ret,{vs:=[(4,.nl 0),(5,.x (.i .i64))],kl:=[2]}),(.exit 0,{vs:=[(6,.sr 0)],os:=[.rw (.i .i64)],kl:=[2]})]}),(28,{j:=some {vs:=[(6,.sr 0),(36,.x (.i .i64))],os:=[.rw (.i .i64)],kl:=[3]},e:=[(.exit 2,{vs:=[(6,.sr 0)],os:=[.rw (.i .i64)],kl:=[3]})]})]) (.cons XB (.cons aeK (.cons Oa .nil))) (by kernel_rfl) (by kernel_rfl)
def sZ(c_0:aj):(Int×Sl (Sl (Sl Int)))->Option ((Int×Sl (Sl (Sl Int)))⊕(Int⊕(Sl (Sl (Sl Int))))):=fun(i16,s17)=>
 bif decide (i16<(((aj.eA c_0).l).length:Int))then((cH i16 ((aj.eA c_0).l).length).bind fun n18=>
 (vn (gt ((aj.eA c_0).l) n18)).bind fun r19=>
 (iU (aj.T c_0) r19).bind fun(r20,r21)=>
 bif(r21 !=0)then(some (.inr (.inl 2)))else
 ((g_ (s17.l++[r20])).bind fun l22=>
 some (.inl (wr .i64 (i16+1),(Sl.mk l22)))))else
 (some (.inr (.inr s17)))
def tz(c_0:aj):Option (Sl (Sl (Sl Int))×Int):=
 ((nc (aj.T c_0)).bind fun r1=>
 bif r1 then((qT (aj.T c_0)).bind fun r2=>
 some (((r2&&(decide ((((aj.eA c_0).l).length:Int)>=1)))&&(decide ((((aj.eA c_0).l).length:Int)<=16)))&&((((aj.wN c_0).l).length:Int)==(ao.au (aj.T c_0)))))else
 (some false):Option Bool).bind fun b3=>
 (bif b3 then((ns (aj.SW c_0) 0 500).bind fun r4=>
 bif r4 then((ns (aj.Lz c_0) (((ao.bn (aj.T c_0)).l).length:Int) 64).bind fun r5=>
 bif r5 then((ns (aj.vi c_0) 0 65536).bind fun r6=>
 bif r6 then((ns (aj.yH c_0) 0 65536).bind fun r7=>
 bif r7 then((ns (aj.Ho c_0) 0 65536).bind fun r8=>
 bif r8 then((ns (aj.SV c_0) 1 65536).bind fun r9=>
 some r9)else
 (some false))else
 (some false))else
 (some false))else
 (some false))else
 (some false))else
 (some false):Option Bool).bind fun b10=>
 (bif(!b10)then(some true)else
 ((cG (aj.wN c_0)).bind fun r11=>
 some r11):Option Bool).bind fun b12=>
 bif b12 then(some (Sl.nil,2))else
 ((aU (sZ c_0) (0,Sl.nil)).bind fun
 |.inl i23=>(some (Sl.nil,i23))
 |.inr s24=>(some (s24,0)))
def adD:dG:=⟨[(false,.x y4)],[([.x (.sl (.sl (.sl (.i .i64)))),.x (.i .i64)],[])],false,[],fun p=>match p with|c_0=>tz c_0⟩
theorem aeI:aL prog 22 adD:=aH mixed (lp:=ek) (aS:=aS) (np:=1) (an:=[(3,{j:=some {vs:=[(4,.x .b)]}}),(5,{j:=some {vs:=[(4,.x .b)]}}),(8,{j:=some {vs:=[(80,.x .b)]}}),(16,{j:=some {vs:=[(5,.so 0),(84,.x (.i .i64))],os:=[.ar (.sl (.sl (.i .i64)))]},e:=[(.ret,{vs:=[(2,.nl 0),(3,.x (.i .i64))]}),(.exit 0,{vs:=[(5,.so 0)],os:=[.ar (.sl (.sl (.i .i64)))]})]})]) (.cons ok1 (.cons afa (.cons XC (.cons ae8 (.cons ae6 (.cons aeJ .nil)))))) (by kernel_rfl) (by kernel_rfl)
def wJ:(Int×Int×am×Int×Int×Int×Int×Int×Arr 8 ak×Arr 8 Int×Mp Int aa×Sl aa×Sl aw)->Option ((Int×Int×am×Int×Int×Int×Int×Int×Arr 8 ak×Arr 8 Int×Mp Int aa×Sl aa×Sl aw)⊕(Int×am×Int×Int×Int×Int×Int×Arr 8 ak×Arr 8 Int×Mp Int aa×Sl aa×Sl aw)):=fun(i15,i16,x17,i18,i19,i20,i21,i22,v23,v24,m25,s26,s27)=>
 bif decide (i15<8)then((cH i15 8).bind fun n28=>
 some (.inl (wr .i64 (i15+1),i16,x17,i18,i19,i20,i21,i22,v23,Arr.set v24 n28 (-1),m25,s26,s27)))else
 (some (.inr (i16,x17,i18,i19,i20,i21,i22,v23,v24,m25,s26,s27)))
def pS:Option (Int×am×Int×Mp Int aa×Int×Int×Int×Int×Arr 8 ak×Arr 8 Int×Sl aa×Sl aw):=
 (aU (wJ) (0,0,(⟨Sl.nil,Sl.nil,0,0,0,0⟩:am),0,0,(-1),0,(-1),(qK (.ar 8 y5)),(qK (.ar 8 (.i .i64))),(Mp.none:Mp Int aa),Sl.nil,Sl.nil)).bind fun(i29,x30,i31,i32,i33,i34,i35,v36,v37,m38,s39,s40)=>
 some (i29,x30,i31,m38,i32,i33,i34,i35,v36,v37,s39,s40)
def adC:dG:=⟨[],[([.st (.pr (.x (.i .i64)) (.pr (.x y7) (.pr (.x (.i .i64)) (.pr (.mp (.i .i64) iX) (.pr (.x (.i .i64)) (.pr (.x (.i .i64)) (.pr (.x (.i .i64)) (.pr (.x (.i .i64)) (.pr (.x (.ar 8 y5)) (.pr (.x (.ar 8 (.i .i64))) (.pr (.os iX) (.pr (.os y2) .ni))))))))))))],[])],false,[],fun p=>match p with|_=>pS⟩
theorem aaz:aL prog 31 adC:=aH mixed (lp:=ek) (aS:=aS) (np:=0) (an:=[(7,{j:=some {vs:=[(1,.op 0 y6 []),(5,.x (.i .i64))],os:=[.bx y6 (.rc (.co (.x (.i .i64)) (.co (.x y7) (.co (.x (.i .i64)) (.co (.om 1) (.co (.x (.i .i64)) (.co (.x (.i .i64)) (.co (.x (.i .i64)) (.co (.x (.i .i64)) (.co (.x (.ar 8 y5)) (.co (.x (.ar 8 (.i .i64))) (.co (.so 2) (.co (.so 3) .ni))))))))))))),.mp (.i .i64) iX,.ar iX,.ar y2],kl:=[1,2]},e:=[(.exit 0,{vs:=[(1,.op 0 y6 [])],os:=[.bx y6 (.rc (.co (.x (.i .i64)) (.co (.x y7) (.co (.x (.i .i64)) (.co (.om 1) (.co (.x (.i .i64)) (.co (.x (.i .i64)) (.co (.x (.i .i64)) (.co (.x (.i .i64)) (.co (.x (.ar 8 y5)) (.co (.x (.ar 8 (.i .i64))) (.co (.so 2) (.co (.so 3) .ni))))))))))))),.mp (.i .i64) iX,.ar iX,.ar y2],kl:=[1,2]})]})]) .nil (by kernel_rfl) (by kernel_rfl)
def sY(c_0:aj):Option (Int⊕(aj×Sl (Sl (Sl Int))×Sl ai×ad×Int×am×Int×Mp Int aa×Int×Int×Int×Int×Arr 8 ak×Arr 8 Int×Sl aa×Sl aw×Int)):=
 (tz c_0).bind fun(r1,r2)=>
 bif(r2 !=0)then(some (.inl r2))else
 ((pS).bind fun(r3,r4,r5,r6,r7,r8,r9,r10,r11,r12,s13,s14)=>
 some (.inr (c_0,r1,Sl.nil,(⟨0,0,false,0,0,0,false,false,0⟩:ad),r3,r4,r5,r6,r7,r8,r9,r10,r11,r12,s13,s14,0)))
def adB:dG:=⟨[(false,.x y4)],[([.nl 1,.x (.i .i64)],[]),([h0,.x (.i .i64)],[])],false,[],fun p=>match p with|c_0=>sY c_0⟩
theorem aay:aL prog 7 adB:=aH mixed (lp:=ek) (aS:=aS) (np:=1) (an:=[]) (.cons aeI (.cons aaz .nil)) (by kernel_rfl) (by kernel_rfl)
def xE(c_0:aj):Int->Option (Int⊕(Bool⊕Unit)):=fun i2=>
 bif decide (i2<(((aj.eA c_0).l).length:Int))then((cH i2 ((aj.eA c_0).l).length).bind fun n3=>
 bif decide ((((gt ((aj.eA c_0).l) n3).l).length:Int)>30)then(some (.inr (.inl false)))else
 (some (.inl (wr .i64 (i2+1)))))else
 (some (.inr (.inr ())))
def xD(l_1:Sl bg)(i6:Int):Int->Option (Int⊕(Bool⊕Unit)):=fun i12=>
 (cH i6 l_1.l.length).bind fun n13=>
 bif decide (i12<(((aa.ny (bg.M (gt l_1.l n13))).l).length:Int))then((cH i6 l_1.l.length).bind fun n14=>
 (cH i12 ((aa.ny (bg.M (gt l_1.l n14))).l).length).bind fun n15=>
 bif decide ((((bT.CL (aY.R (gt ((aa.ny (bg.M (gt l_1.l n14))).l) n15))).l).length:Int)>16)then(some (.inr (.inl false)))else
 (some (.inl (wr .i64 (i12+1)))))else
 (some (.inr (.inr ())))
def xC(l_1:Sl bg):Int->Option (Int⊕(Bool⊕Unit)):=fun i6=>
 bif decide (i6<(l_1.l.length:Int))then((bif decide (i6>79)then(some true)else
 ((cH i6 l_1.l.length).bind fun n7=>
 bif decide ((bg.pU (gt l_1.l n7))<0)then(some true)else
 ((cH i6 l_1.l.length).bind fun n8=>
 bif decide ((bg.pU (gt l_1.l n8))>1099511627776)then(some true)else
 ((cH i6 l_1.l.length).bind fun n9=>
 some (decide ((((aa.ny (bg.M (gt l_1.l n9))).l).length:Int)>20))))):Option Bool).bind fun b10=>
 bif b10 then(some (.inr (.inl false)))else
 ((aU (xD l_1 i6) 0).bind fun
 |.inl b16=>(some (.inr (.inl b16)))
 |.inr _=>(some (.inl (wr .i64 (i6+1))))))else
 (some (.inr (.inr ())))
def rX(c_0:aj)(l_1:Sl bg):Option Bool:=
 (aU (xE c_0) 0).bind fun
 |.inl b4=>(some b4)
 |.inr _=>((aU (xC l_1) 0).bind fun
 |.inl b17=>(some b17)
 |.inr _=>(some ((((decide ((((ao.a7 (aj.T c_0)).l).length:Int)<=30))&&(decide ((((ao.bn (aj.T c_0)).l).length:Int)<=12)))&&(decide ((((aj.eA c_0).l).length:Int)<=6)))&&(decide ((((aj.wN c_0).l).length:Int)<=12)))))
def adA:dG:=⟨[(false,.x y4),(false,.x (.sl y16))],[([.x .b],[])],true,[],fun p=>match p with|(c_0,l_1)=>rX c_0 l_1⟩
theorem aeH:aL prog 8 adA:=aH mixed (lp:=ek) (aS:=aS) (np:=2) (an:=[(5,{j:=some {vs:=[(5,.x (.i .i64))]},e:=[(.ret,{vs:=[(4,.x .b)]}),(.exit 0,{})]}),(18,{j:=some {vs:=[(6,.x (.i .i64))]},e:=[(.ret,{vs:=[(4,.x .b)]}),(.exit 2,{})]}),(25,{j:=some {vs:=[(55,.x .b)]}}),(30,{j:=some {vs:=[(7,.x (.i .i64))]},e:=[(.ret,{vs:=[(4,.x .b)]}),(.exit 4,{})]})]) .nil (by kernel_rfl) (by kernel_rfl)
def DT:Option ao:=some (⟨3,(Sl.mk [(⟨0,0,1,0,1,2⟩:a_),(⟨1,1,2,0,1,2⟩:a_),(⟨0,1,2,1,1,2⟩:a_)]),(Sl.mk [(⟨2,7⟩:fZ),(⟨0,7⟩:fZ)])⟩:ao)
def adz:dG:=⟨[],[([.x y1],[])],false,[],fun p=>match p with|_=>DT⟩
theorem aeG:aL prog 73 adz:=aH mixed (lp:=ek) (aS:=aS) (np:=0) (an:=[]) .nil (by kernel_rfl) (by kernel_rfl)
def xF:Option aj:=
 (DT).bind fun r1=>
 some (⟨r1,(Sl.mk [(Sl.mk [4607182418800017408,4607182418800017408,4607182418800017408]),(Sl.mk [4607182418800017408,4607182418800017408,4621819117588971520])]),(Sl.mk [0,5,(-7)]),100,8,20,10,2,5⟩:aj)
def ady:dG:=⟨[],[([.x y4],[])],false,[],fun p=>match p with|_=>xF⟩
theorem aeF:aL prog 32 ady:=aH mixed (lp:=ek) (aS:=aS) (np:=0) (an:=[]) (.cons aeG .nil) (by kernel_rfl) (by kernel_rfl)
def uM:Option Int:=some 6
def adx:dG:=⟨[(true,.nl 1)],[([.x (.i .i64)],[.nl 1])],false,[true],fun p=>match p with|_=>uM⟩
theorem aeE:aL prog 15 adx:=aH mixed (lp:=ek) (aS:=aS) (np:=1) (an:=[]) .nil (by kernel_rfl) (by kernel_rfl)
def jZ(_now_1:Int)(_up_2:Int):Option Unit:=
 (uM).bind fun r1=>
 bif(r1==6)then(some ())else
 (none)
def adw:dG:=⟨[(true,.nl 1),(false,.x (.i .i64)),(false,.x (.i .i64))],[([],[.nl 1])],false,[true,false,false],fun p=>match p with|(now_1,up_2)=>jZ now_1 up_2⟩
theorem aeD:aL prog 24 adw:=aH mixed (lp:=ek) (aS:=aS) (np:=3) (an:=[]) (.cons aeE .nil) (by kernel_rfl) (by kernel_rfl)
def eJ(x_0_c:aj)(x_0_routes:Sl (Sl (Sl Int)))(x_0_l:Sl ai)(x_0_at:ad)(x_0_volatile_phase:Int)(x_0_volatile_plan:am)(x_0_volatile_cur:Int)(x_0_volatile_want:Mp Int aa)(x_0_volatile_sent:Int)(x_0_volatile_rest:Int)(x_0_volatile_skip:Int)(x_0_volatile_healed:Int)(x_0_volatile_est:Arr 8 ak)(x_0_volatile_asked:Arr 8 Int)(x_0_volatile_out:Sl aa)(x_0_volatile_events:Sl aw):Option (Int×aj×Sl (Sl (Sl Int))×Sl ai×ad×Int×am×Int×Mp Int aa×Int×Int×Int×Int×Arr 8 ak×Arr 8 Int×Sl aa×Sl aw):=some (x_0_volatile_phase,x_0_c,x_0_routes,x_0_l,x_0_at,x_0_volatile_phase,x_0_volatile_plan,x_0_volatile_cur,x_0_volatile_want,x_0_volatile_sent,x_0_volatile_rest,x_0_volatile_skip,x_0_volatile_healed,x_0_volatile_est,x_0_volatile_asked,x_0_volatile_out,x_0_volatile_events)
def adv:dG:=⟨[(true,h0)],[([.x (.i .i64)],[h0])],false,[true],fun p=>match p with|(x_0_c,x_0_routes,x_0_l,x_0_at,x_0_volatile_phase,x_0_volatile_plan,x_0_volatile_cur,x_0_volatile_want,x_0_volatile_sent,x_0_volatile_rest,x_0_volatile_skip,x_0_volatile_healed,x_0_volatile_est,x_0_volatile_asked,x_0_volatile_out,x_0_volatile_events)=>eJ x_0_c x_0_routes x_0_l x_0_at x_0_volatile_phase x_0_volatile_plan x_0_volatile_cur x_0_volatile_want x_0_volatile_sent x_0_volatile_rest x_0_volatile_skip x_0_volatile_healed x_0_volatile_est x_0_volatile_asked x_0_volatile_out x_0_volatile_events⟩
theorem QU:aL prog 15 adv:=aH mixed (lp:=ek) (aS:=aS) (np:=1) (an:=[]) .nil (by kernel_rfl) (by kernel_rfl)
def lw(x_0_c:aj)(x_0_routes:Sl (Sl (Sl Int)))(x_0_l:Sl ai)(x_0_at:ad)(x_0_volatile_phase:Int)(x_0_volatile_plan:am)(x_0_volatile_cur:Int)(x_0_volatile_want:Mp Int aa)(x_0_volatile_sent:Int)(x_0_volatile_rest:Int)(x_0_volatile_skip:Int)(x_0_volatile_healed:Int)(x_0_volatile_est:Arr 8 ak)(x_0_volatile_asked:Arr 8 Int)(x_0_volatile_out:Sl aa)(x_0_volatile_events:Sl aw)(now_1:Int)(at_2:Int):Option (Bool×aj×Sl (Sl (Sl Int))×Sl ai×ad×Int×am×Int×Mp Int aa×Int×Int×Int×Int×Arr 8 ak×Arr 8 Int×Sl aa×Sl aw):=some (((at_2==(-1))||(decide ((wr .i64 (now_1-at_2))>=(aj.SV x_0_c)))),x_0_c,x_0_routes,x_0_l,x_0_at,x_0_volatile_phase,x_0_volatile_plan,x_0_volatile_cur,x_0_volatile_want,x_0_volatile_sent,x_0_volatile_rest,x_0_volatile_skip,x_0_volatile_healed,x_0_volatile_est,x_0_volatile_asked,x_0_volatile_out,x_0_volatile_events)
def adu:dG:=⟨[(true,h0),(false,.x (.i .i64)),(false,.x (.i .i64))],[([.x .b],[h0])],false,[true,false,false],fun p=>match p with|(x_0_c,x_0_routes,x_0_l,x_0_at,x_0_volatile_phase,x_0_volatile_plan,x_0_volatile_cur,x_0_volatile_want,x_0_volatile_sent,x_0_volatile_rest,x_0_volatile_skip,x_0_volatile_healed,x_0_volatile_est,x_0_volatile_asked,x_0_volatile_out,x_0_volatile_events,now_1,at_2)=>lw x_0_c x_0_routes x_0_l x_0_at x_0_volatile_phase x_0_volatile_plan x_0_volatile_cur x_0_volatile_want x_0_volatile_sent x_0_volatile_rest x_0_volatile_skip x_0_volatile_healed x_0_volatile_est x_0_volatile_asked x_0_volatile_out x_0_volatile_events now_1 at_2⟩
theorem XA:aL prog 109 adu:=aH mixed (lp:=ek) (aS:=aS) (np:=3) (an:=[]) .nil (by kernel_rfl) (by kernel_rfl)
def k_(x_0_c:aj)(now_1:Int)(up_2:Int):(Int×aj×Sl (Sl (Sl Int))×ad×Int×am×Int×Int×Int×Int×Int×Arr 8 ak×Arr 8 Int×Sl ai×Mp Int aa×Sl aa×Sl aw)->Option ((Int×aj×Sl (Sl (Sl Int))×ad×Int×am×Int×Int×Int×Int×Int×Arr 8 ak×Arr 8 Int×Sl ai×Mp Int aa×Sl aa×Sl aw)⊕(aj×Sl (Sl (Sl Int))×ad×Int×am×Int×Int×Int×Int×Int×Arr 8 ak×Arr 8 Int×Sl ai×Mp Int aa×Sl aa×Sl aw)):=fun(i19,x20,s21,x22,i23,x24,i25,i26,i27,i28,i29,v30,v31,s32,m33,s34,s35)=>
 bif decide (i19<(ao.au (aj.T x_0_c)))then((((yt .i64 up_2 i19).bind fun i36=>
 bif((qO .i64 i36 1)==1)then((cH i19 8).bind fun n37=>
 (lw x20 s21 s32 x22 i23 x24 i25 m33 i26 i27 i28 i29 v30 v31 s34 s35 now_1 (gt v31.1 n37)).bind fun(r38,q39,q40,s41,q42,q43,q44,q45,q46,q47,q48,q49,q50,q51,q52,s53,s54)=>
 some (r38,q39,q40,q42,q43,q44,q45,q47,q48,q49,q50,q51,q52,s41,q46,s53,s54))else
 (some (false,x20,s21,x22,i23,x24,i25,i26,i27,i28,i29,v30,v31,s32,m33,s34,s35)):Option (Bool×aj×Sl (Sl (Sl Int))×ad×Int×am×Int×Int×Int×Int×Int×Arr 8 ak×Arr 8 Int×Sl ai×Mp Int aa×Sl aa×Sl aw)).bind fun(b55,x56,s57,x58,i59,x60,i61,i62,i63,i64,i65,v66,v67,s68,m69,s70,s71)=>
 bif b55 then((cH i19 8).bind fun n72=>
 (g_ (s70.l++[(⟨1,i19,0,0,now_1,0,0,0,0,Sl.nil⟩:aa)])).bind fun l73=>
 some (x56,s57,x58,i59,x60,i61,i62,i63,i64,i65,v66,Arr.set v67 n72 now_1,s68,m69,(Sl.mk l73),s71))else
 (some (x56,s57,x58,i59,x60,i61,i62,i63,i64,i65,v66,v67,s68,m69,s70,s71)):Option (aj×Sl (Sl (Sl Int))×ad×Int×am×Int×Int×Int×Int×Int×Arr 8 ak×Arr 8 Int×Sl ai×Mp Int aa×Sl aa×Sl aw)).bind fun(x74,s75,x76,i77,x78,i79,i80,i81,i82,i83,v84,v85,s86,m87,s88,s89)=>
 some (.inl (wr .i64 (i19+1),x74,s75,x76,i77,x78,i79,i80,i81,i82,i83,v84,v85,s86,m87,s88,s89)))else
 (some (.inr (x20,s21,x22,i23,x24,i25,i26,i27,i28,i29,v30,v31,s32,m33,s34,s35)))
def mB(x_0_c:aj)(x_0_routes:Sl (Sl (Sl Int)))(x_0_l:Sl ai)(x_0_at:ad)(x_0_volatile_phase:Int)(x_0_volatile_plan:am)(x_0_volatile_cur:Int)(x_0_volatile_want:Mp Int aa)(x_0_volatile_sent:Int)(x_0_volatile_rest:Int)(x_0_volatile_skip:Int)(x_0_volatile_healed:Int)(x_0_volatile_est:Arr 8 ak)(x_0_volatile_asked:Arr 8 Int)(x_0_volatile_out:Sl aa)(x_0_volatile_events:Sl aw)(now_1:Int)(up_2:Int):Option (aj×Sl (Sl (Sl Int))×Sl ai×ad×Int×am×Int×Mp Int aa×Int×Int×Int×Int×Arr 8 ak×Arr 8 Int×Sl aa×Sl aw):=
 (aU (k_ x_0_c now_1 up_2) (0,x_0_c,x_0_routes,x_0_at,x_0_volatile_phase,x_0_volatile_plan,x_0_volatile_cur,x_0_volatile_sent,x_0_volatile_rest,x_0_volatile_skip,x_0_volatile_healed,x_0_volatile_est,x_0_volatile_asked,x_0_l,x_0_volatile_want,x_0_volatile_out,x_0_volatile_events)).bind fun(x90,s91,x92,i93,x94,i95,i96,i97,i98,i99,v100,v101,s102,m103,s104,s105)=>
 some (x90,s91,s102,x92,i93,x94,i95,m103,i96,i97,i98,i99,v100,v101,s104,s105)
def adt:dG:=⟨[(true,h0),(false,.x (.i .i64)),(false,.x (.i .i64))],[([],[h0])],false,[true,false,false],fun p=>match p with|(x_0_c,x_0_routes,x_0_l,x_0_at,x_0_volatile_phase,x_0_volatile_plan,x_0_volatile_cur,x_0_volatile_want,x_0_volatile_sent,x_0_volatile_rest,x_0_volatile_skip,x_0_volatile_healed,x_0_volatile_est,x_0_volatile_asked,x_0_volatile_out,x_0_volatile_events,now_1,up_2)=>mB x_0_c x_0_routes x_0_l x_0_at x_0_volatile_phase x_0_volatile_plan x_0_volatile_cur x_0_volatile_want x_0_volatile_sent x_0_volatile_rest x_0_volatile_skip x_0_volatile_healed x_0_volatile_est x_0_volatile_asked x_0_volatile_out x_0_volatile_events now_1 up_2⟩
theorem aeC:aL prog 57 adt:=aH mixed (lp:=ek) (aS:=aS) (np:=3) (an:=[(2,{j:=some {vs:=[(0,.op 0 mH []),(13,.x (.i .i64))],gs:=(.co (.op 0 mH []) .ni),os:=[.bx mH (.rc (.co (.x y4) (.co (.x (.sl (.sl (.sl (.i .i64))))) (.co (.so 1) (.co (.x pg) (.co (.rc (.co (.x (.i .i64)) (.co (.x y7) (.co (.x (.i .i64)) (.co (.om 2) (.co (.x (.i .i64)) (.co (.x (.i .i64)) (.co (.x (.i .i64)) (.co (.x (.i .i64)) (.co (.x (.ar 8 y5)) (.co (.x (.ar 8 (.i .i64))) (.co (.so 3) (.co (.so 4) .ni))))))))))))) .ni)))))),.ar y8,.mp (.i .i64) iX,.ar iX,.ar y2],kl:=[0,13,31,76,77]},e:=[(.exit 0,{gs:=(.co (.op 0 mH []) .ni),os:=[.bx mH (.rc (.co (.x y4) (.co (.x (.sl (.sl (.sl (.i .i64))))) (.co (.so 1) (.co (.x pg) (.co (.rc (.co (.x (.i .i64)) (.co (.x y7) (.co (.x (.i .i64)) (.co (.om 2) (.co (.x (.i .i64)) (.co (.x (.i .i64)) (.co (.x (.i .i64)) (.co (.x (.i .i64)) (.co (.x (.ar 8 y5)) (.co (.x (.ar 8 (.i .i64))) (.co (.so 3) (.co (.so 4) .ni))))))))))))) .ni)))))),.ar y8,.mp (.i .i64) iX,.ar iX,.ar y2],kl:=[0,13,31,76,77]})]}),(6,{e:=[(.normal,{vs:=[(0,.op 0 mH [])],gs:=(.co (.op 0 mH []) .ni),os:=[.bx mH (.rc (.co (.x y4) (.co (.x (.sl (.sl (.sl (.i .i64))))) (.co (.so 1) (.co (.x pg) (.co (.rc (.co (.x (.i .i64)) (.co (.x y7) (.co (.x (.i .i64)) (.co (.om 2) (.co (.x (.i .i64)) (.co (.x (.i .i64)) (.co (.x (.i .i64)) (.co (.x (.i .i64)) (.co (.x (.ar 8 y5)) (.co (.x (.ar 8 (.i .i64))) (.co (.so 3) (.co (.so 4) .ni))))))))))))) .ni)))))),.ar y8,.mp (.i .i64) iX,.ar iX,.ar y2],kl:=[78,79,80,81,82]})]}),(10,{j:=some {vs:=[(0,.op 0 mH []),(32,.x .b)],gs:=(.co (.op 0 mH []) .ni),os:=[.bx mH (.rc (.co (.x y4) (.co (.x (.sl (.sl (.sl (.i .i64))))) (.co (.so 1) (.co (.x pg) (.co (.rc (.co (.x (.i .i64)) (.co (.x y7) (.co (.x (.i .i64)) (.co (.om 2) (.co (.x (.i .i64)) (.co (.x (.i .i64)) (.co (.x (.i .i64)) (.co (.x (.i .i64)) (.co (.x (.ar 8 y5)) (.co (.x (.ar 8 (.i .i64))) (.co (.so 3) (.co (.so 4) .ni))))))))))))) .ni)))))),.ar y8,.mp (.i .i64) iX,.ar iX,.ar y2],kl:=[78,79,80,81,82]}})]) (.cons XA .nil) (by kernel_rfl) (by kernel_rfl)
def mh(up_2:Int)(x19:aj):(Int×aj×Sl (Sl (Sl Int))×ad×Int×am×Int×Int×Int×Int×Int×Arr 8 ak×Arr 8 Int×Sl ai×Mp Int aa×Sl aa×Sl aw)->Option ((Int×aj×Sl (Sl (Sl Int))×ad×Int×am×Int×Int×Int×Int×Int×Arr 8 ak×Arr 8 Int×Sl ai×Mp Int aa×Sl aa×Sl aw)⊕(aj×Sl (Sl (Sl Int))×ad×Int×am×Int×Int×Int×Int×Int×Arr 8 ak×Arr 8 Int×Sl ai×Mp Int aa×Sl aa×Sl aw)):=fun(i53,x54,s55,x56,i57,x58,i59,i60,i61,i62,i63,v64,v65,s66,m67,s68,s69)=>
 bif decide (i53<(ao.au (aj.T x19)))then(((yt .i64 (qO .i64 (ad.oD x56) up_2) i53).bind fun i70=>
 bif((qO .i64 i70 1)==1)then((g_ (s68.l++[(⟨5,i53,ad.U x56,(-1),0,0,0,0,0,Sl.nil⟩:aa)])).bind fun l71=>
 some (x54,s55,x56,i57,x58,i59,i60,i61,i62,i63,v64,v65,s66,m67,(Sl.mk l71),s69))else
 (some (x54,s55,x56,i57,x58,i59,i60,i61,i62,i63,v64,v65,s66,m67,s68,s69)):Option (aj×Sl (Sl (Sl Int))×ad×Int×am×Int×Int×Int×Int×Int×Arr 8 ak×Arr 8 Int×Sl ai×Mp Int aa×Sl aa×Sl aw)).bind fun(x72,s73,x74,i75,x76,i77,i78,i79,i80,i81,v82,v83,s84,m85,s86,s87)=>
 some (.inl (wr .i64 (i53+1),x72,s73,x74,i75,x76,i77,i78,i79,i80,i81,v82,v83,s84,m85,s86,s87)))else
 (some (.inr (x54,s55,x56,i57,x58,i59,i60,i61,i62,i63,v64,v65,s66,m67,s68,s69)))
def nU(x_0_c:aj)(x_0_routes:Sl (Sl (Sl Int)))(x_0_l:Sl ai)(x_0_at:ad)(x_0_volatile_phase:Int)(x_0_volatile_plan:am)(x_0_volatile_cur:Int)(x_0_volatile_want:Mp Int aa)(x_0_volatile_sent:Int)(x_0_volatile_rest:Int)(x_0_volatile_skip:Int)(x_0_volatile_healed:Int)(x_0_volatile_est:Arr 8 ak)(x_0_volatile_asked:Arr 8 Int)(x_0_volatile_out:Sl aa)(x_0_volatile_events:Sl aw)(now_1:Int)(up_2:Int):Option (aj×Sl (Sl (Sl Int))×Sl ai×ad×Int×am×Int×Mp Int aa×Int×Int×Int×Int×Arr 8 ak×Arr 8 Int×Sl aa×Sl aw):=
 (bif((ad.oD x_0_at)==0)then(some (true,x_0_c,x_0_routes,x_0_at,x_0_volatile_phase,x_0_volatile_plan,x_0_volatile_cur,x_0_volatile_sent,x_0_volatile_rest,x_0_volatile_skip,x_0_volatile_healed,x_0_volatile_est,x_0_volatile_asked,x_0_l,x_0_volatile_want,x_0_volatile_out,x_0_volatile_events))else
 ((lw x_0_c x_0_routes x_0_l x_0_at x_0_volatile_phase x_0_volatile_plan x_0_volatile_cur x_0_volatile_want x_0_volatile_sent x_0_volatile_rest x_0_volatile_skip x_0_volatile_healed x_0_volatile_est x_0_volatile_asked x_0_volatile_out x_0_volatile_events now_1 x_0_volatile_healed).bind fun(r1,q2,q3,s4,q5,q6,q7,q8,q9,q10,q11,q12,q13,q14,q15,s16,s17)=>
 some ((!r1),q2,q3,q5,q6,q7,q8,q10,q11,q12,q13,q14,q15,s4,q9,s16,s17)):Option (Bool×aj×Sl (Sl (Sl Int))×ad×Int×am×Int×Int×Int×Int×Int×Arr 8 ak×Arr 8 Int×Sl ai×Mp Int aa×Sl aa×Sl aw)).bind fun(b18,x19,s20,x21,i22,x23,i24,i25,i26,i27,i28,v29,v30,s31,m32,s33,s34)=>
 bif b18 then(some (x19,s20,s31,x21,i22,x23,i24,m32,i25,i26,i27,i28,v29,v30,s33,s34))else
 ((aU (mh up_2 x19) (0,x19,s20,x21,i22,x23,i24,i25,i26,i27,now_1,v29,v30,s31,m32,s33,s34)).bind fun(x88,s89,x90,i91,x92,i93,i94,i95,i96,i97,v98,v99,s100,m101,s102,s103)=>
 some (x88,s89,s100,x90,i91,x92,i93,m101,i94,i95,i96,i97,v98,v99,s102,s103))
def ads:dG:=⟨[(true,h0),(false,.x (.i .i64)),(false,.x (.i .i64))],[([],[h0])],false,[true,false,false],fun p=>match p with|(x_0_c,x_0_routes,x_0_l,x_0_at,x_0_volatile_phase,x_0_volatile_plan,x_0_volatile_cur,x_0_volatile_want,x_0_volatile_sent,x_0_volatile_rest,x_0_volatile_skip,x_0_volatile_healed,x_0_volatile_est,x_0_volatile_asked,x_0_volatile_out,x_0_volatile_events,now_1,up_2)=>nU x_0_c x_0_routes x_0_l x_0_at x_0_volatile_phase x_0_volatile_plan x_0_volatile_cur x_0_volatile_want x_0_volatile_sent x_0_volatile_rest x_0_volatile_skip x_0_volatile_healed x_0_volatile_est x_0_volatile_asked x_0_volatile_out x_0_volatile_events now_1 up_2⟩
theorem aeB:aL prog 58 ads:=aH mixed (lp:=ek) (aS:=aS) (np:=3) (an:=[(2,{j:=some {vs:=[(0,.op 0 mH []),(23,.x .b)],gs:=(.co (.op 0 mH []) .ni),os:=[.bx mH (.rc (.co (.x y4) (.co (.x (.sl (.sl (.sl (.i .i64))))) (.co (.so 1) (.co (.x pg) (.co (.rc (.co (.x (.i .i64)) (.co (.x y7) (.co (.x (.i .i64)) (.co (.om 2) (.co (.x (.i .i64)) (.co (.x (.i .i64)) (.co (.x (.i .i64)) (.co (.x (.i .i64)) (.co (.x (.ar 8 y5)) (.co (.x (.ar 8 (.i .i64))) (.co (.so 3) (.co (.so 4) .ni))))))))))))) .ni)))))),.ar y8,.mp (.i .i64) iX,.ar iX,.ar y2],kl:=[0,13,31,76,77]}}),(7,{j:=some {vs:=[(0,.op 0 mH []),(35,.x (.i .i64))],gs:=(.co (.op 0 mH []) .ni),os:=[.bx mH (.rc (.co (.x y4) (.co (.x (.sl (.sl (.sl (.i .i64))))) (.co (.so 1) (.co (.x pg) (.co (.rc (.co (.x (.i .i64)) (.co (.x y7) (.co (.x (.i .i64)) (.co (.om 2) (.co (.x (.i .i64)) (.co (.x (.i .i64)) (.co (.x (.i .i64)) (.co (.x (.i .i64)) (.co (.x (.ar 8 y5)) (.co (.x (.ar 8 (.i .i64))) (.co (.so 3) (.co (.so 4) .ni))))))))))))) .ni)))))),.ar y8,.mp (.i .i64) iX,.ar iX,.ar y2],kl:=[78,79,80,81,82]},e:=[(.exit 0,{gs:=(.co (.op 0 mH []) .ni),os:=[.bx mH (.rc (.co (.x y4) (.co (.x (.sl (.sl (.sl (.i .i64))))) (.co (.so 1) (.co (.x pg) (.co (.rc (.co (.x (.i .i64)) (.co (.x y7) (.co (.x (.i .i64)) (.co (.om 2) (.co (.x (.i .i64)) (.co (.x (.i .i64)) (.co (.x (.i .i64)) (.co (.x (.i .i64)) (.co (.x (.ar 8 y5)) (.co (.x (.ar 8 (.i .i64))) (.co (.so 3) (.co (.so 4) .ni))))))))))))) .ni)))))),.ar y8,.mp (.i .i64) iX,.ar iX,.ar y2],kl:=[78,79,80,81,82]})]}),(11,{e:=[(.normal,{vs:=[(0,.op 0 mH [])],gs:=(.co (.op 0 mH []) .ni),os:=[.bx mH (.rc (.co (.x y4) (.co (.x (.sl (.sl (.sl (.i .i64))))) (.co (.so 1) (.co (.x pg) (.co (.rc (.co (.x (.i .i64)) (.co (.x y7) (.co (.x (.i .i64)) (.co (.om 2) (.co (.x (.i .i64)) (.co (.x (.i .i64)) (.co (.x (.i .i64)) (.co (.x (.i .i64)) (.co (.x (.ar 8 y5)) (.co (.x (.ar 8 (.i .i64))) (.co (.so 3) (.co (.so 4) .ni))))))))))))) .ni)))))),.ar y8,.mp (.i .i64) iX,.ar iX,.ar y2],kl:=[83,84,85,86,87]})]})]) (.cons XA .nil) (by kernel_rfl) (by kernel_rfl)
def nH:Option bA:=some (⟨1,0⟩:bA)
def adr:dG:=⟨[],[([.x y0],[])],true,[],fun p=>match p with|_=>nH⟩
theorem Xz:aL prog 187 adr:=aH mixed (lp:=ek) (aS:=aS) (np:=0) (an:=[]) .nil (by kernel_rfl) (by kernel_rfl)
def r_(span_0:Int)(most_1:Int):Option Int:=some (wr .i64 ((wr .i64 ((wr .i64 ((wr .i64 ((if 1099511627776<(if 0>span_0 then 0 else span_0)then 1099511627776 else(if 0>span_0 then 0 else span_0))*(if 1000<(if 0>most_1 then 0 else most_1)then 1000 else(if 0>most_1 then 0 else most_1))))+1000))-1)).tdiv 1000))
def adq:dG:=⟨[(false,.x (.i .i64)),(false,.x (.i .i64))],[([.x (.i .i64)],[])],true,[],fun p=>match p with|(span_0,most_1)=>r_ span_0 most_1⟩
theorem aax:aL prog 185 adq:=aH mixed (lp:=ek) (aS:=aS) (np:=2) (an:=[]) .nil (by kernel_rfl) (by kernel_rfl)
def tg(n_0:Int):Option Int:=some (if 4503599627370496<(if(-4503599627370496)>n_0 then(-4503599627370496)else n_0)then 4503599627370496 else(if(-4503599627370496)>n_0 then(-4503599627370496)else n_0))
def adp:dG:=⟨[(false,.x (.i .i64))],[([.x (.i .i64)],[])],true,[],fun p=>match p with|n_0=>tg n_0⟩
theorem aaw:aL prog 243 adp:=aH mixed (lp:=ek) (aS:=aS) (np:=1) (an:=[]) .nil (by kernel_rfl) (by kernel_rfl)
def jh(s_0:bA):Option bA:=
 (tg (bA.Lo s_0)).bind fun r1=>
 (tg (bA.Hi s_0)).bind fun r2=>
 bif decide (r2<r1)then((nH).bind fun r3=>
 some r3)else
 (some (⟨r1,r2⟩:bA))
def ado:dG:=⟨[(false,.x y0)],[([.x y0],[])],true,[],fun p=>match p with|s_0=>jh s_0⟩
theorem QT:aL prog 186 ado:=aH mixed (lp:=ek) (aS:=aS) (np:=1) (an:=[]) (.cons aaw (.cons Xz .nil)) (by kernel_rfl) (by kernel_rfl)
set_option synthInstance.maxSize 1000 in
def pm(s_0:bA):Option Bool:=
 (jh s_0).bind fun r1=>
 (nH).bind fun r2=>
 some (decide (r1=r2))
def adn:dG:=⟨[(false,.x y0)],[([.x .b],[])],true,[],fun p=>match p with|s_0=>pm s_0⟩
theorem Uc:aL prog 129 adn:=aH mixed (lp:=ek) (aS:=aS) (np:=1) (an:=[]) (.cons QT (.cons Xz .nil)) (by kernel_rfl) (by kernel_rfl)
def tF(s_0:bA)(by_1:Int):Option bA:=
 (jh s_0).bind fun r1=>
 (tg by_1).bind fun r2=>
 (pm r1).bind fun r3=>
 bif r3 then(some r1)else
 ((jh (⟨wr .i64 ((bA.Lo r1)-(if 0>r2 then 0 else r2)),wr .i64 ((bA.Hi r1)+(if 0>r2 then 0 else r2))⟩:bA)).bind fun r4=>
 some r4)
def adm:dG:=⟨[(false,.x y0),(false,.x (.i .i64))],[([.x y0],[])],true,[],fun p=>match p with|(s_0,by_1)=>tF s_0 by_1⟩
theorem aav:aL prog 184 adm:=aH mixed (lp:=ek) (aS:=aS) (np:=2) (an:=[]) (.cons QT (.cons aaw (.cons Uc .nil))) (by kernel_rfl) (by kernel_rfl)
def z_(e_0:ak)(t_1:Int)(most_2:Int):Option bA:=
 bif(!(ak.M_ e_0))then((nH).bind fun r1=>
 some r1)else
 ((r_ (wr .i64 ((if(ak.At e_0)>t_1 then(ak.At e_0)else t_1)-(if(ak.At e_0)<t_1 then(ak.At e_0)else t_1))) most_2).bind fun r2=>
 (tF (ak.S e_0) r2).bind fun r3=>
 some r3)
def adl:dG:=⟨[(false,.x y5),(false,.x (.i .i64)),(false,.x (.i .i64))],[([.x y0],[])],true,[],fun p=>match p with|(e_0,t_1,most_2)=>z_ e_0 t_1 most_2⟩
theorem aau:aL prog 128 adl:=aH mixed (lp:=ek) (aS:=aS) (np:=3) (an:=[]) (.cons Xz (.cons aax (.cons aav .nil))) (by kernel_rfl) (by kernel_rfl)
def xl(s_0:bA):Option Int:=
 (jh s_0).bind fun r1=>
 (pm r1).bind fun r2=>
 bif r2 then(some 0)else
 (some (wr .i64 ((bA.Lo r1)+(wr .i64 ((wr .i64 ((bA.Hi r1)-(bA.Lo r1))).tdiv 2)))))
def adk:dG:=⟨[(false,.x y0)],[([.x (.i .i64)],[])],true,[],fun p=>match p with|s_0=>xl s_0⟩
theorem aat:aL prog 188 adk:=aH mixed (lp:=ek) (aS:=aS) (np:=1) (an:=[]) (.cons QT (.cons Uc .nil)) (by kernel_rfl) (by kernel_rfl)
def yc(s_0:bA):Option Int:=
 (jh s_0).bind fun r1=>
 (pm r1).bind fun r2=>
 bif r2 then(some 0)else
 ((xl r1).bind fun r3=>
 some (wr .i64 ((bA.Hi r1)-r3)))
def adj:dG:=⟨[(false,.x y0)],[([.x (.i .i64)],[])],true,[],fun p=>match p with|s_0=>yc s_0⟩
theorem aeA:aL prog 189 adj:=aH mixed (lp:=ek) (aS:=aS) (np:=1) (an:=[]) (.cons QT (.cons Uc (.cons aat .nil))) (by kernel_rfl) (by kernel_rfl)
def Aa(e_0:ak)(t_1:Int)(most_2:Int):Option (Int×Int×Bool):=
 bif(((!(ak.M_ e_0))||(decide (t_1<0)))||(decide (t_1>1099511627776)))then(some (0,0,false))else
 ((z_ e_0 t_1 most_2).bind fun r1=>
 (xl r1).bind fun r2=>
 (yc r1).bind fun r3=>
 some (wr .i64 (t_1+r2),r3,true))
def adi:dG:=⟨[(false,.x y5),(false,.x (.i .i64)),(false,.x (.i .i64))],[([.x (.i .i64),.x (.i .i64),.x .b],[])],true,[],fun p=>match p with|(e_0,t_1,most_2)=>Aa e_0 t_1 most_2⟩
theorem aez:aL prog 131 adi:=aH mixed (lp:=ek) (aS:=aS) (np:=3) (an:=[]) (.cons aau (.cons aat (.cons aeA .nil))) (by kernel_rfl) (by kernel_rfl)
def t_(x_0_c:aj)(x_0_volatile_est:Arr 8 ak)(r_1:aQ):(Int×Sl Int)->Option ((Int×Sl Int)⊕(Bool⊕(Sl Int))):=fun(i4,s5)=>
 bif decide (i4<(((aQ.pT r_1).l).length:Int))then((cH i4 ((aQ.pT r_1).l).length).bind fun n6=>
 (cH (gt ((aQ.pT r_1).l) n6) 8).bind fun n7=>
 (Aa (gt x_0_volatile_est.1 n7) (aQ.At r_1) (aj.SW x_0_c)).bind fun(r8,r9,r10)=>
 bif((!r10)||(decide (r9>(aj.vi x_0_c))))then(some (.inr (.inl false)))else
 ((g_ (s5.l++[r8])).bind fun l11=>
 some (.inl (wr .i64 (i4+1),(Sl.mk l11)))))else
 (some (.inr (.inr s5)))
def nv(x_0_c:aj)(x_0_routes:Sl (Sl (Sl Int)))(x_0_l:Sl ai)(x_0_at:ad)(x_0_volatile_phase:Int)(x_0_volatile_plan:am)(x_0_volatile_cur:Int)(x_0_volatile_want:Mp Int aa)(x_0_volatile_sent:Int)(x_0_volatile_rest:Int)(x_0_volatile_skip:Int)(x_0_volatile_healed:Int)(x_0_volatile_est:Arr 8 ak)(x_0_volatile_asked:Arr 8 Int)(x_0_volatile_out:Sl aa)(x_0_volatile_events:Sl aw)(r_1:aQ):Option (Sl Int×Bool×aj×Sl (Sl (Sl Int))×Sl ai×ad×Int×am×Int×Mp Int aa×Int×Int×Int×Int×Arr 8 ak×Arr 8 Int×Sl aa×Sl aw):=
 (aU (t_ x_0_c x_0_volatile_est r_1) (0,Sl.nil)).bind fun
 |.inl b12=>(some (Sl.nil,b12,x_0_c,x_0_routes,x_0_l,x_0_at,x_0_volatile_phase,x_0_volatile_plan,x_0_volatile_cur,x_0_volatile_want,x_0_volatile_sent,x_0_volatile_rest,x_0_volatile_skip,x_0_volatile_healed,x_0_volatile_est,x_0_volatile_asked,x_0_volatile_out,x_0_volatile_events))
 |.inr s13=>(some (s13,true,x_0_c,x_0_routes,x_0_l,x_0_at,x_0_volatile_phase,x_0_volatile_plan,x_0_volatile_cur,x_0_volatile_want,x_0_volatile_sent,x_0_volatile_rest,x_0_volatile_skip,x_0_volatile_healed,x_0_volatile_est,x_0_volatile_asked,x_0_volatile_out,x_0_volatile_events))
def adh:dG:=⟨[(true,h0),(false,.x y9)],[([.x (.sl (.i .i64)),.x .b],[h0])],false,[true,false],fun p=>match p with|(x_0_c,x_0_routes,x_0_l,x_0_at,x_0_volatile_phase,x_0_volatile_plan,x_0_volatile_cur,x_0_volatile_want,x_0_volatile_sent,x_0_volatile_rest,x_0_volatile_skip,x_0_volatile_healed,x_0_volatile_est,x_0_volatile_asked,x_0_volatile_out,x_0_volatile_events,r_1)=>nv x_0_c x_0_routes x_0_l x_0_at x_0_volatile_phase x_0_volatile_plan x_0_volatile_cur x_0_volatile_want x_0_volatile_sent x_0_volatile_rest x_0_volatile_skip x_0_volatile_healed x_0_volatile_est x_0_volatile_asked x_0_volatile_out x_0_volatile_events r_1⟩
theorem aas:aL prog 68 adh:=aH mixed (lp:=ek) (aS:=aS) (np:=2) (an:=[(7,{j:=some {vs:=[(6,.so 0),(15,.x (.i .i64))],os:=[.ar (.i .i64)]},e:=[(.ret,{vs:=[(4,.nl 0),(5,.x .b)]}),(.exit 0,{vs:=[(6,.so 0)],os:=[.ar (.i .i64)]})]})]) (.cons aez .nil) (by kernel_rfl) (by kernel_rfl)
def gH(n_0:Int)(below_1:Int):Option Bool:=some ((decide (n_0>=0))&&(decide (n_0<below_1)))
def adg:dG:=⟨[(false,.x (.i .i64)),(false,.x (.i .i64))],[([.x .b],[])],true,[],fun p=>match p with|(n_0,below_1)=>gH n_0 below_1⟩
theorem Xy:aL prog 134 adg:=aH mixed (lp:=ek) (aS:=aS) (np:=2) (an:=[]) .nil (by kernel_rfl) (by kernel_rfl)
def rJ(s_0:ad)(r_1:ai):Option (ad×Bool):=
 (bif(((ad.jz s_0)||((ad.oD s_0) !=0))||((ai.U r_1) !=(wr .i64 ((ad.U s_0)+1))))then(some true)else
 ((gH (ai.A r_1) 16).bind fun r1=>
 bif(!r1)then(some true)else
 ((gH (ai.B r_1) 1125899906842625).bind fun r2=>
 some (!r2))):Option Bool).bind fun b3=>
 bif b3 then(some (s_0,false))else
 (some ((⟨ai.U r_1,ad.pU s_0,true,ai.A r_1,ai.B r_1,0,false,false,0⟩:ad),true))
def adf:dG:=⟨[(false,.x pg),(false,.x y8)],[([.x pg,.x .b],[])],true,[],fun p=>match p with|(s_0,r_1)=>rJ s_0 r_1⟩
theorem aey:aL prog 74 adf:=aH mixed (lp:=ek) (aS:=aS) (np:=2) (an:=[(4,{j:=some {vs:=[(32,.x .b)]}})]) (.cons Xy .nil) (by kernel_rfl) (by kernel_rfl)
def me(s_0:ad)(r_1:ai):Option (ad×Bool):=
 (bif((ad.jz s_0)||((ai.B r_1) !=0))then(some true)else
 ((gH (ai.A r_1) 8).bind fun r1=>
 bif(!r1)then(some true)else
 ((yt .i64 (ad.oD s_0) (ai.A r_1)).bind fun i2=>
 some ((qO .i64 i2 1)==0))):Option Bool).bind fun b3=>
 bif b3 then(some (s_0,false))else
 ((zd .i64 1 (ai.A r_1)).bind fun i4=>
 some ((⟨ad.U s_0,ad.pU s_0,ad.jz s_0,ad.eQ s_0,ad.At s_0,ad.f9 s_0,ad.oU s_0,ad.bH s_0,gC .i64 (ad.oD s_0) i4⟩:ad),true))
def ade:dG:=⟨[(false,.x pg),(false,.x y8)],[([.x pg,.x .b],[])],true,[],fun p=>match p with|(s_0,r_1)=>me s_0 r_1⟩
theorem aex:aL prog 75 ade:=aH mixed (lp:=ek) (aS:=aS) (np:=2) (an:=[(4,{j:=some {vs:=[(27,.x .b)]}})]) (.cons Xy .nil) (by kernel_rfl) (by kernel_rfl)
def nm(s_0:ad):Option ad:=some (⟨ad.U s_0,ad.pU s_0,false,0,0,0,false,false,ad.oD s_0⟩:ad)
def adc:dG:=⟨[(false,.x pg)],[([.x pg],[])],true,[],fun p=>match p with|s_0=>nm s_0⟩
theorem aew:aL prog 135 adc:=aH mixed (lp:=ek) (aS:=aS) (np:=1) (an:=[]) .nil (by kernel_rfl) (by kernel_rfl)
def jW(s_0:ad)(r_1:ai):Option (ad×Bool):=
 (bif((!(ad.jz s_0))||((ai.B r_1) !=0))then(some true)else
 (some ((((ai.A r_1) !=0)&&((ai.cY r_1) !=2))&&((ai.cY r_1) !=6))):Option Bool).bind fun b1=>
 bif b1 then(some (s_0,false))else
 ((bif((ai.cY r_1)==2)then((bif(((!(ad.oU s_0))&&(!(ad.bH s_0)))&&((ai.A r_1)==(ad.f9 s_0)))then((gH (ad.f9 s_0) 8).bind fun r2=>
 some r2)else
 (some false):Option Bool).bind fun b3=>
 some (b3,(⟨ad.U s_0,ad.pU s_0,ad.jz s_0,ad.eQ s_0,ad.At s_0,wr .i64 ((ad.f9 s_0)+1),ad.oU s_0,ad.bH s_0,ad.oD s_0⟩:ad)))else
 (bif((ai.cY r_1)==3)then(some ((((!(ad.oU s_0))&&(!(ad.bH s_0)))&&(decide ((ad.f9 s_0)>0))),(⟨ad.U s_0,ad.pU s_0,ad.jz s_0,ad.eQ s_0,ad.At s_0,ad.f9 s_0,true,ad.bH s_0,ad.oD s_0⟩:ad)))else
 (bif((ai.cY r_1)==4)then(some ((!(ad.bH s_0)),(⟨ad.U s_0,ad.pU s_0,ad.jz s_0,ad.eQ s_0,ad.At s_0,ad.f9 s_0,ad.oU s_0,true,ad.oD s_0⟩:ad)))else
 (bif((ai.cY r_1)==5)then((nm (⟨ad.U s_0,ad.eQ s_0,ad.jz s_0,ad.eQ s_0,ad.At s_0,ad.f9 s_0,ad.oU s_0,ad.bH s_0,ad.oD s_0⟩:ad)).bind fun r4=>
 some (((ad.oU s_0)&&(!(ad.bH s_0))),r4))else
 (bif((ai.cY r_1)==6)then((bif ad.bH s_0 then((gH (ai.A r_1) 256).bind fun r5=>
 some r5)else
 (some false):Option Bool).bind fun b6=>
 (nm (⟨ad.U s_0,ad.pU s_0,ad.jz s_0,ad.eQ s_0,ad.At s_0,ad.f9 s_0,ad.oU s_0,ad.bH s_0,ai.A r_1⟩:ad)).bind fun r7=>
 some (b6,r7))else
 (some (false,s_0)))))):Option (Bool×ad)).bind fun(b8,x9)=>
 some (x9,b8))
def adb:dG:=⟨[(false,.x pg),(false,.x y8)],[([.x pg,.x .b],[])],true,[],fun p=>match p with|(s_0,r_1)=>jW s_0 r_1⟩
theorem aev:aL prog 76 adb:=aH mixed (lp:=ek) (aS:=aS) (np:=2) (an:=[(4,{j:=some {vs:=[(30,.x .b)]}}),(11,{e:=[(.normal,{vs:=[(2,.op 0 pg []),(7,.x .b)],os:=[.bx pg (.x pg)],kl:=[0]})]}),(17,{j:=some {vs:=[(7,.x .b)]}}),(39,{j:=some {vs:=[(7,.x .b)]}})]) (.cons Xy (.cons aew .nil)) (by kernel_rfl) (by kernel_rfl)
def fP(s_0:ad)(r_1:ai):Option (ad×Int):=
 (bif((ai.cY r_1)==1)then((rJ s_0 r_1).bind fun(r1,r2)=>
 some (r2,r1))else
 (bif((ai.U r_1) !=(ad.U s_0))then(some (false,s_0))else
 (bif((ai.cY r_1)==7)then((me s_0 r_1).bind fun(r3,r4)=>
 some (r4,r3))else
 ((jW s_0 r_1).bind fun(r5,r6)=>
 some (r6,r5)))):Option (Bool×ad)).bind fun(b7,x8)=>
 bif(!b7)then(some (s_0,5))else
 (some (x8,0))
def ada:dG:=⟨[(false,.x pg),(false,.x y8)],[([.x pg,.x (.i .i64)],[])],true,[],fun p=>match p with|(s_0,r_1)=>fP s_0 r_1⟩
theorem aar:aL prog 36 ada:=aH mixed (lp:=ek) (aS:=aS) (np:=2) (an:=[(4,{e:=[(.normal,{vs:=[(6,.op 0 pg []),(7,.x .b)],os:=[.bx pg (.x pg)],kl:=[3]})]})]) (.cons aey (.cons aex (.cons aev .nil))) (by kernel_rfl) (by kernel_rfl)
def eI(x_0_c:aj)(x_0_routes:Sl (Sl (Sl Int)))(x_0_l:Sl ai)(x_0_at:ad)(x_0_volatile_phase:Int)(x_0_volatile_plan:am)(x_0_volatile_cur:Int)(x_0_volatile_want:Mp Int aa)(x_0_volatile_sent:Int)(x_0_volatile_rest:Int)(x_0_volatile_skip:Int)(x_0_volatile_healed:Int)(x_0_volatile_est:Arr 8 ak)(x_0_volatile_asked:Arr 8 Int)(x_0_volatile_out:Sl aa)(x_0_volatile_events:Sl aw)(kind_1:Int)(u_2:Int)(a_3:Int)(b_4:Int):Option (aj×Sl (Sl (Sl Int))×Sl ai×ad×Int×am×Int×Mp Int aa×Int×Int×Int×Int×Arr 8 ak×Arr 8 Int×Sl aa×Sl aw):=
 (g_ (x_0_l.l++[(⟨kind_1,u_2,a_3,b_4⟩:ai)])).bind fun l1=>
 (fP x_0_at (⟨kind_1,u_2,a_3,b_4⟩:ai)).bind fun(r2,_)=>
 some (x_0_c,x_0_routes,(Sl.mk l1),r2,x_0_volatile_phase,x_0_volatile_plan,x_0_volatile_cur,x_0_volatile_want,x_0_volatile_sent,x_0_volatile_rest,x_0_volatile_skip,x_0_volatile_healed,x_0_volatile_est,x_0_volatile_asked,x_0_volatile_out,x_0_volatile_events)
def ac_:dG:=⟨[(true,h0),(false,.x (.i .i64)),(false,.x (.i .i64)),(false,.x (.i .i64)),(false,.x (.i .i64))],[([],[h0])],false,[true,false,false,false,false],fun p=>match p with|(x_0_c,x_0_routes,x_0_l,x_0_at,x_0_volatile_phase,x_0_volatile_plan,x_0_volatile_cur,x_0_volatile_want,x_0_volatile_sent,x_0_volatile_rest,x_0_volatile_skip,x_0_volatile_healed,x_0_volatile_est,x_0_volatile_asked,x_0_volatile_out,x_0_volatile_events,kind_1,u_2,a_3,b_4)=>eI x_0_c x_0_routes x_0_l x_0_at x_0_volatile_phase x_0_volatile_plan x_0_volatile_cur x_0_volatile_want x_0_volatile_sent x_0_volatile_rest x_0_volatile_skip x_0_volatile_healed x_0_volatile_est x_0_volatile_asked x_0_volatile_out x_0_volatile_events kind_1 u_2 a_3 b_4⟩
theorem KI:aL prog 70 ac_:=aH mixed (lp:=ek) (aS:=aS) (np:=5) (an:=[]) (.cons aar .nil) (by kernel_rfl) (by kernel_rfl)
def sX(rd_0:Int)(sw_1:Int):Option Int:=some (wr .i64 ((wr .i64 (rd_0*8))+sw_1))
def ac9:dG:=⟨[(false,.x (.i .i64)),(false,.x (.i .i64))],[([.x (.i .i64)],[])],true,[],fun p=>match p with|(rd_0,sw_1)=>sX rd_0 sw_1⟩
theorem Xx:aL prog 130 ac9:=aH mixed (lp:=ek) (aS:=aS) (np:=2) (an:=[]) .nil (by kernel_rfl) (by kernel_rfl)
def mV(x_0_volatile_want:Mp Int aa):(Int×aj×Sl (Sl (Sl Int))×ad×Int×am×Int×Int×Int×Int×Int×Arr 8 ak×Arr 8 Int×Sl ai×Mp Int aa×Sl aa×Sl aw)->Option ((Int×aj×Sl (Sl (Sl Int))×ad×Int×am×Int×Int×Int×Int×Int×Arr 8 ak×Arr 8 Int×Sl ai×Mp Int aa×Sl aa×Sl aw)⊕(aj×Sl (Sl (Sl Int))×ad×Int×am×Int×Int×Int×Int×Int×Arr 8 ak×Arr 8 Int×Sl ai×Mp Int aa×Sl aa×Sl aw)):=fun(i19,x20,s21,x22,i23,x24,i25,i26,i27,i28,i29,v30,v31,s32,m33,s34,s35)=>
 bif decide (i19<(((oO x_0_volatile_want).l).length:Int))then((cH i19 ((oO x_0_volatile_want).l).length).bind fun n36=>
 (g_ (s34.l++[kF m33 (⟨0,0,0,0,0,0,0,0,0,Sl.nil⟩:aa) (gt ((oO x_0_volatile_want).l) n36)])).bind fun l37=>
 some (.inl (wr .i64 (i19+1),x20,s21,x22,i23,x24,i25,i26,i27,i28,i29,v30,v31,s32,m33,(Sl.mk l37),s35)))else
 (some (.inr (x20,s21,x22,i23,x24,i25,i26,i27,i28,i29,v30,v31,s32,m33,s34,s35)))
def jw(x_0_c:aj)(x_0_routes:Sl (Sl (Sl Int)))(x_0_l:Sl ai)(x_0_at:ad)(x_0_volatile_phase:Int)(x_0_volatile_plan:am)(x_0_volatile_cur:Int)(x_0_volatile_want:Mp Int aa)(_x_0_volatile_sent:Int)(x_0_volatile_rest:Int)(x_0_volatile_skip:Int)(x_0_volatile_healed:Int)(x_0_volatile_est:Arr 8 ak)(x_0_volatile_asked:Arr 8 Int)(x_0_volatile_out:Sl aa)(x_0_volatile_events:Sl aw)(now_1:Int):Option (aj×Sl (Sl (Sl Int))×Sl ai×ad×Int×am×Int×Mp Int aa×Int×Int×Int×Int×Arr 8 ak×Arr 8 Int×Sl aa×Sl aw):=
 bif FL x_0_volatile_want then((aU (mV x_0_volatile_want) (0,x_0_c,x_0_routes,x_0_at,x_0_volatile_phase,x_0_volatile_plan,x_0_volatile_cur,now_1,x_0_volatile_rest,x_0_volatile_skip,x_0_volatile_healed,x_0_volatile_est,x_0_volatile_asked,x_0_l,x_0_volatile_want,x_0_volatile_out,x_0_volatile_events)).bind fun(x38,s39,x40,i41,x42,i43,i44,i45,i46,i47,v48,v49,s50,m51,s52,s53)=>
 some (x38,s39,s50,x40,i41,x42,i43,m51,i44,i45,i46,i47,v48,v49,s52,s53))else(none)
def ac8:dG:=⟨[(true,h0),(false,.x (.i .i64))],[([],[h0])],false,[true,false],fun p=>match p with|(x_0_c,x_0_routes,x_0_l,x_0_at,x_0_volatile_phase,x_0_volatile_plan,x_0_volatile_cur,x_0_volatile_want,x_0_volatile_sent,x_0_volatile_rest,x_0_volatile_skip,x_0_volatile_healed,x_0_volatile_est,x_0_volatile_asked,x_0_volatile_out,x_0_volatile_events,now_1)=>jw x_0_c x_0_routes x_0_l x_0_at x_0_volatile_phase x_0_volatile_plan x_0_volatile_cur x_0_volatile_want x_0_volatile_sent x_0_volatile_rest x_0_volatile_skip x_0_volatile_healed x_0_volatile_est x_0_volatile_asked x_0_volatile_out x_0_volatile_events now_1⟩
theorem aaq:aL prog 133 ac8:=aH mixed (lp:=ek) (aS:=aS) (np:=2) (an:=[(4,{j:=some {vs:=[(0,.op 0 mH []),(19,.x (.i .i64))],gs:=(.co (.op 0 mH []) .ni),os:=[.bx mH (.rc (.co (.x y4) (.co (.x (.sl (.sl (.sl (.i .i64))))) (.co (.so 1) (.co (.x pg) (.co (.rc (.co (.x (.i .i64)) (.co (.x y7) (.co (.x (.i .i64)) (.co (.om 2) (.co (.x (.i .i64)) (.co (.x (.i .i64)) (.co (.x (.i .i64)) (.co (.x (.i .i64)) (.co (.x (.ar 8 y5)) (.co (.x (.ar 8 (.i .i64))) (.co (.so 3) (.co (.so 4) .ni))))))))))))) .ni)))))),.ar y8,.mp (.i .i64) iX,.ar iX,.ar y2],kl:=[0,13,31,76,77,78]},e:=[(.exit 0,{gs:=(.co (.op 0 mH []) .ni),os:=[.bx mH (.rc (.co (.x y4) (.co (.x (.sl (.sl (.sl (.i .i64))))) (.co (.so 1) (.co (.x pg) (.co (.rc (.co (.x (.i .i64)) (.co (.x y7) (.co (.x (.i .i64)) (.co (.om 2) (.co (.x (.i .i64)) (.co (.x (.i .i64)) (.co (.x (.i .i64)) (.co (.x (.i .i64)) (.co (.x (.ar 8 y5)) (.co (.x (.ar 8 (.i .i64))) (.co (.so 3) (.co (.so 4) .ni))))))))))))) .ni)))))),.ar y8,.mp (.i .i64) iX,.ar iX,.ar y2],kl:=[0,13,31,76,77,78]})]})]) (.Rz @UI (.Rz @OD .nil)) (by kernel_rfl) (by kernel_rfl)
def qw(l_2:Sl aa):(Int×aj×Sl (Sl (Sl Int))×ad×Int×am×Int×Int×Int×Int×Int×Arr 8 ak×Arr 8 Int×Sl ai×Mp Int aa×Sl aa×Sl aw)->Option ((Int×aj×Sl (Sl (Sl Int))×ad×Int×am×Int×Int×Int×Int×Int×Arr 8 ak×Arr 8 Int×Sl ai×Mp Int aa×Sl aa×Sl aw)⊕(aj×Sl (Sl (Sl Int))×ad×Int×am×Int×Int×Int×Int×Int×Arr 8 ak×Arr 8 Int×Sl ai×Mp Int aa×Sl aa×Sl aw)):=fun(i19,x20,s21,x22,i23,x24,i25,i26,i27,i28,i29,v30,v31,s32,m33,s34,s35)=>
 bif decide (i19<(l_2.l.length:Int))then((cH i19 l_2.l.length).bind fun n36=>
 (sX (aa.Rd (gt l_2.l n36)) (aa.Sw (gt l_2.l n36))).bind fun r37=>
 some (.inl (wr .i64 (i19+1),x20,s21,x22,i23,x24,i25,i26,i27,i28,i29,v30,v31,s32,(xA m33 r37 (gt l_2.l n36)),s34,s35)))else
 (some (.inr (x20,s21,x22,i23,x24,i25,i26,i27,i28,i29,v30,v31,s32,m33,s34,s35)))
def jY(x_0_c:aj)(x_0_routes:Sl (Sl (Sl Int)))(x_0_l:Sl ai)(x_0_at:ad)(x_0_volatile_phase:Int)(x_0_volatile_plan:am)(x_0_volatile_cur:Int)(_x_0_volatile_want:Mp Int aa)(x_0_volatile_sent:Int)(x_0_volatile_rest:Int)(x_0_volatile_skip:Int)(x_0_volatile_healed:Int)(x_0_volatile_est:Arr 8 ak)(x_0_volatile_asked:Arr 8 Int)(x_0_volatile_out:Sl aa)(x_0_volatile_events:Sl aw)(now_1:Int)(l_2:Sl aa):Option (aj×Sl (Sl (Sl Int))×Sl ai×ad×Int×am×Int×Mp Int aa×Int×Int×Int×Int×Arr 8 ak×Arr 8 Int×Sl aa×Sl aw):=
 (aU (qw l_2) (0,x_0_c,x_0_routes,x_0_at,x_0_volatile_phase,x_0_volatile_plan,x_0_volatile_cur,x_0_volatile_sent,x_0_volatile_rest,x_0_volatile_skip,x_0_volatile_healed,x_0_volatile_est,x_0_volatile_asked,x_0_l,(Mp.none:Mp Int aa),x_0_volatile_out,x_0_volatile_events)).bind fun(x38,s39,x40,i41,x42,i43,i44,i45,i46,i47,v48,v49,s50,m51,s52,s53)=>
 (jw x38 s39 s50 x40 i41 x42 i43 m51 i44 i45 i46 i47 v48 v49 s52 s53 now_1).bind fun(q54,q55,s56,q57,q58,q59,q60,q61,q62,q63,q64,q65,q66,q67,s68,s69)=>
 some (q54,q55,s56,q57,q58,q59,q60,q61,q62,q63,q64,q65,q66,q67,s68,s69)
def ac7:dG:=⟨[(true,h0),(false,.x (.i .i64)),(false,.x (.sl iX))],[([],[h0])],false,[true,false,false],fun p=>match p with|(x_0_c,x_0_routes,x_0_l,x_0_at,x_0_volatile_phase,x_0_volatile_plan,x_0_volatile_cur,x_0_volatile_want,x_0_volatile_sent,x_0_volatile_rest,x_0_volatile_skip,x_0_volatile_healed,x_0_volatile_est,x_0_volatile_asked,x_0_volatile_out,x_0_volatile_events,now_1,l_2)=>jY x_0_c x_0_routes x_0_l x_0_at x_0_volatile_phase x_0_volatile_plan x_0_volatile_cur x_0_volatile_want x_0_volatile_sent x_0_volatile_rest x_0_volatile_skip x_0_volatile_healed x_0_volatile_est x_0_volatile_asked x_0_volatile_out x_0_volatile_events now_1 l_2⟩
theorem Ub:aL prog 72 ac7:=aH mixed (lp:=ek) (aS:=aS) (np:=3) (an:=[(5,{j:=some {vs:=[(0,.op 0 mH []),(15,.x (.i .i64))],gs:=(.co (.op 0 mH []) .ni),os:=[.bx mH (.rc (.co (.x y4) (.co (.x (.sl (.sl (.sl (.i .i64))))) (.co (.so 1) (.co (.x pg) (.co (.rc (.co (.x (.i .i64)) (.co (.x y7) (.co (.x (.i .i64)) (.co (.om 2) (.co (.x (.i .i64)) (.co (.x (.i .i64)) (.co (.x (.i .i64)) (.co (.x (.i .i64)) (.co (.x (.ar 8 y5)) (.co (.x (.ar 8 (.i .i64))) (.co (.so 3) (.co (.so 4) .ni))))))))))))) .ni)))))),.ar y8,.mp (.i .i64) iX,.ar iX,.ar y2],kl:=[0,13,76,77,78]},e:=[(.exit 0,{vs:=[(0,.op 0 mH [])],gs:=(.co (.op 0 mH []) .ni),os:=[.bx mH (.rc (.co (.x y4) (.co (.x (.sl (.sl (.sl (.i .i64))))) (.co (.so 1) (.co (.x pg) (.co (.rc (.co (.x (.i .i64)) (.co (.x y7) (.co (.x (.i .i64)) (.co (.om 2) (.co (.x (.i .i64)) (.co (.x (.i .i64)) (.co (.x (.i .i64)) (.co (.x (.i .i64)) (.co (.x (.ar 8 y5)) (.co (.x (.ar 8 (.i .i64))) (.co (.so 3) (.co (.so 4) .ni))))))))))))) .ni)))))),.ar y8,.mp (.i .i64) iX,.ar iX,.ar y2],kl:=[0,13,76,77,78]})]})]) (.cons Xx (.cons aaq .nil)) (by kernel_rfl) (by kernel_rfl)
def fQ(x_0_c:aj)(x_0_routes:Sl (Sl (Sl Int)))(x_0_l:Sl ai)(x_0_at:ad)(x_0_volatile_phase:Int)(x_0_volatile_plan:am)(x_0_volatile_cur:Int)(x_0_volatile_want:Mp Int aa)(x_0_volatile_sent:Int)(x_0_volatile_rest:Int)(x_0_volatile_skip:Int)(x_0_volatile_healed:Int)(x_0_volatile_est:Arr 8 ak)(x_0_volatile_asked:Arr 8 Int)(x_0_volatile_out:Sl aa)(x_0_volatile_events:Sl aw)(now_1:Int)(kind_2:Int)(sw_3:Int)(a_4:Int)(b_5:Int):Option (aj×Sl (Sl (Sl Int))×Sl ai×ad×Int×am×Int×Mp Int aa×Int×Int×Int×Int×Arr 8 ak×Arr 8 Int×Sl aa×Sl aw):=
 (g_ (x_0_volatile_events.l++[(⟨kind_2,now_1,ad.U x_0_at,sw_3,a_4,b_5⟩:aw)])).bind fun l1=>
 some (x_0_c,x_0_routes,x_0_l,x_0_at,x_0_volatile_phase,x_0_volatile_plan,x_0_volatile_cur,x_0_volatile_want,x_0_volatile_sent,x_0_volatile_rest,x_0_volatile_skip,x_0_volatile_healed,x_0_volatile_est,x_0_volatile_asked,x_0_volatile_out,(Sl.mk l1))
def ac6:dG:=⟨[(true,h0),(false,.x (.i .i64)),(false,.x (.i .i64)),(false,.x (.i .i64)),(false,.x (.i .i64)),(false,.x (.i .i64))],[([],[h0])],false,[true,false,false,false,false,false],fun p=>match p with|(x_0_c,x_0_routes,x_0_l,x_0_at,x_0_volatile_phase,x_0_volatile_plan,x_0_volatile_cur,x_0_volatile_want,x_0_volatile_sent,x_0_volatile_rest,x_0_volatile_skip,x_0_volatile_healed,x_0_volatile_est,x_0_volatile_asked,x_0_volatile_out,x_0_volatile_events,now_1,kind_2,sw_3,a_4,b_5)=>fQ x_0_c x_0_routes x_0_l x_0_at x_0_volatile_phase x_0_volatile_plan x_0_volatile_cur x_0_volatile_want x_0_volatile_sent x_0_volatile_rest x_0_volatile_skip x_0_volatile_healed x_0_volatile_est x_0_volatile_asked x_0_volatile_out x_0_volatile_events now_1 kind_2 sw_3 a_4 b_5⟩
theorem QS:aL prog 71 ac6:=aH mixed (lp:=ek) (aS:=aS) (np:=6) (an:=[]) .nil (by kernel_rfl) (by kernel_rfl)
def lN(x_0_c:aj)(x_0_routes:Sl (Sl (Sl Int)))(x_0_l:Sl ai)(x_0_at:ad)(_x_0_volatile_phase:Int)(x_0_volatile_plan:am)(x_0_volatile_cur:Int)(x_0_volatile_want:Mp Int aa)(x_0_volatile_sent:Int)(_x_0_volatile_rest:Int)(x_0_volatile_skip:Int)(_x_0_volatile_healed:Int)(x_0_volatile_est:Arr 8 ak)(x_0_volatile_asked:Arr 8 Int)(x_0_volatile_out:Sl aa)(x_0_volatile_events:Sl aw):Option (aj×Sl (Sl (Sl Int))×Sl ai×ad×Int×am×Int×Mp Int aa×Int×Int×Int×Int×Arr 8 ak×Arr 8 Int×Sl aa×Sl aw):=some (x_0_c,x_0_routes,x_0_l,x_0_at,0,x_0_volatile_plan,x_0_volatile_cur,x_0_volatile_want,x_0_volatile_sent,(-1),x_0_volatile_skip,(-1),x_0_volatile_est,x_0_volatile_asked,x_0_volatile_out,x_0_volatile_events)
def ac5:dG:=⟨[(true,h0)],[([],[h0])],false,[true],fun p=>match p with|(x_0_c,x_0_routes,x_0_l,x_0_at,x_0_volatile_phase,x_0_volatile_plan,x_0_volatile_cur,x_0_volatile_want,x_0_volatile_sent,x_0_volatile_rest,x_0_volatile_skip,x_0_volatile_healed,x_0_volatile_est,x_0_volatile_asked,x_0_volatile_out,x_0_volatile_events)=>lN x_0_c x_0_routes x_0_l x_0_at x_0_volatile_phase x_0_volatile_plan x_0_volatile_cur x_0_volatile_want x_0_volatile_sent x_0_volatile_rest x_0_volatile_skip x_0_volatile_healed x_0_volatile_est x_0_volatile_asked x_0_volatile_out x_0_volatile_events⟩
theorem Xw:aL prog 115 ac5:=aH mixed (lp:=ek) (aS:=aS) (np:=1) (an:=[]) .nil (by kernel_rfl) (by kernel_rfl)
def mi(x_0_c:aj)(x_0_routes:Sl (Sl (Sl Int)))(x_0_l:Sl ai)(x_0_at:ad)(x_0_volatile_phase:Int)(x_0_volatile_plan:am)(x_0_volatile_cur:Int)(x_0_volatile_want:Mp Int aa)(x_0_volatile_sent:Int)(x_0_volatile_rest:Int)(x_0_volatile_skip:Int)(x_0_volatile_healed:Int)(x_0_volatile_est:Arr 8 ak)(x_0_volatile_asked:Arr 8 Int)(x_0_volatile_out:Sl aa)(x_0_volatile_events:Sl aw)(now_1:Int)(_up_2:Int):Option (aj×Sl (Sl (Sl Int))×Sl ai×ad×Int×am×Int×Mp Int aa×Int×Int×Int×Int×Arr 8 ak×Arr 8 Int×Sl aa×Sl aw):=
 bif(x_0_volatile_phase==1)then(none)else
 (bif(x_0_volatile_phase==2)then(bif decide ((wr .i64 (x_0_volatile_cur+1))<(((am.aV x_0_volatile_plan).l).length:Int))then(none)else
 ((eI x_0_c x_0_routes x_0_l x_0_at x_0_volatile_phase x_0_volatile_plan x_0_volatile_cur x_0_volatile_want x_0_volatile_sent x_0_volatile_rest x_0_volatile_skip x_0_volatile_healed x_0_volatile_est x_0_volatile_asked x_0_volatile_out x_0_volatile_events 3 (ad.U x_0_at) 0 0).bind fun(q1,q2,s3,q4,_,q6,q7,q8,q9,q10,q11,q12,q13,q14,s15,s16)=>
 some (q1,q2,s3,q4,3,q6,q7,q8,q9,q10,q11,q12,q13,q14,s15,s16)))else
 (bif(x_0_volatile_phase==4)then((eI x_0_c x_0_routes x_0_l x_0_at x_0_volatile_phase x_0_volatile_plan x_0_volatile_cur x_0_volatile_want x_0_volatile_sent x_0_volatile_rest x_0_volatile_skip x_0_volatile_healed x_0_volatile_est x_0_volatile_asked x_0_volatile_out x_0_volatile_events 5 (ad.U x_0_at) 0 0).bind fun(q17,q18,s19,q20,q21,q22,q23,q24,q25,q26,q27,q28,q29,q30,s31,s32)=>
 (fQ q17 q18 s19 q20 q21 q22 q23 q24 q25 q26 q27 q28 q29 q30 s31 s32 now_1 9 0 (ad.pU q20) 0).bind fun(q33,q34,s35,q36,q37,q38,q39,q40,q41,q42,q43,q44,q45,q46,s47,s48)=>
 (lN q33 q34 s35 q36 q37 q38 q39 q40 q41 q42 q43 q44 q45 q46 s47 s48).bind fun(q49,q50,s51,q52,q53,q54,q55,q56,q57,q58,q59,q60,q61,q62,s63,s64)=>
 some (q49,q50,s51,q52,q53,q54,q55,q56,q57,q58,q59,q60,q61,q62,s63,s64))else
 (bif(x_0_volatile_phase==5)then(some (x_0_c,x_0_routes,x_0_l,x_0_at,x_0_volatile_phase,x_0_volatile_plan,x_0_volatile_cur,x_0_volatile_want,x_0_volatile_sent,wr .i64 ((wr .i64 (now_1+(am.yG x_0_volatile_plan)))+1),x_0_volatile_skip,x_0_volatile_healed,x_0_volatile_est,x_0_volatile_asked,x_0_volatile_out,x_0_volatile_events))else
 (some (x_0_c,x_0_routes,x_0_l,x_0_at,x_0_volatile_phase,x_0_volatile_plan,x_0_volatile_cur,x_0_volatile_want,x_0_volatile_sent,x_0_volatile_rest,x_0_volatile_skip,x_0_volatile_healed,x_0_volatile_est,x_0_volatile_asked,x_0_volatile_out,x_0_volatile_events)))))
def ac4:dG:=⟨[(true,h0),(false,.x (.i .i64)),(false,.x (.i .i64))],[([],[h0])],false,[true,false,false],fun p=>match p with|(x_0_c,x_0_routes,x_0_l,x_0_at,x_0_volatile_phase,x_0_volatile_plan,x_0_volatile_cur,x_0_volatile_want,x_0_volatile_sent,x_0_volatile_rest,x_0_volatile_skip,x_0_volatile_healed,x_0_volatile_est,x_0_volatile_asked,x_0_volatile_out,x_0_volatile_events,now_1,up_2)=>mi x_0_c x_0_routes x_0_l x_0_at x_0_volatile_phase x_0_volatile_plan x_0_volatile_cur x_0_volatile_want x_0_volatile_sent x_0_volatile_rest x_0_volatile_skip x_0_volatile_healed x_0_volatile_est x_0_volatile_asked x_0_volatile_out x_0_volatile_events now_1 up_2⟩
theorem aeu:aL prog 112 ac4:=aH mixed (lp:=ek) (aS:=aS) (np:=3) (an:=[]) (.cons KI (.cons QS (.cons Xw .nil))) (by kernel_rfl) (by kernel_rfl)
def mU(x_0_volatile_plan:am)(k_2:Int)(up_3:Int)(n1:Nat):(Int×aj×Sl (Sl (Sl Int))×ad×Int×am×Int×Int×Int×Int×Int×Arr 8 ak×Arr 8 Int×Sl aa×Sl ai×Mp Int aa×Sl aa×Sl aw)->Option ((Int×aj×Sl (Sl (Sl Int))×ad×Int×am×Int×Int×Int×Int×Int×Arr 8 ak×Arr 8 Int×Sl aa×Sl ai×Mp Int aa×Sl aa×Sl aw)⊕(aj×Sl (Sl (Sl Int))×ad×Int×am×Int×Int×Int×Int×Int×Arr 8 ak×Arr 8 Int×Sl aa×Sl ai×Mp Int aa×Sl aa×Sl aw)):=fun(i21,x22,s23,x24,i25,x26,i27,i28,i29,i30,i31,v32,v33,s34,s35,m36,s37,s38)=>
 bif decide (i21<(((aQ.pT (gt ((am.aV x_0_volatile_plan).l) n1)).l).length:Int))then(((cH i21 ((aQ.pT (gt ((am.aV x_0_volatile_plan).l) n1)).l).length).bind fun n39=>
 (yt .i64 (gC .i64 up_3 i30) (gt ((aQ.pT (gt ((am.aV x_0_volatile_plan).l) n1)).l) n39)).bind fun i40=>
 bif((qO .i64 i40 1)==0)then((zd .i64 1 (gt ((aQ.pT (gt ((am.aV x_0_volatile_plan).l) n1)).l) n39)).bind fun i41=>
 some (x22,s23,x24,i25,x26,i27,i28,i29,A9 .i64 i30 i41,i31,v32,v33,s34,s35,m36,s37,s38))else
 ((g_ (s34.l++[(⟨5,gt ((aQ.pT (gt ((am.aV x_0_volatile_plan).l) n1)).l) n39,ad.U x24,k_2,0,0,0,0,0,Sl.nil⟩:aa)])).bind fun l42=>
 some (x22,s23,x24,i25,x26,i27,i28,i29,i30,i31,v32,v33,(Sl.mk l42),s35,m36,s37,s38)):Option (aj×Sl (Sl (Sl Int))×ad×Int×am×Int×Int×Int×Int×Int×Arr 8 ak×Arr 8 Int×Sl aa×Sl ai×Mp Int aa×Sl aa×Sl aw)).bind fun(x43,s44,x45,i46,x47,i48,i49,i50,i51,i52,v53,v54,s55,s56,m57,s58,s59)=>
 some (.inl (wr .i64 (i21+1),x43,s44,x45,i46,x47,i48,i49,i50,i51,i52,v53,v54,s55,s56,m57,s58,s59)))else
 (some (.inr (x22,s23,x24,i25,x26,i27,i28,i29,i30,i31,v32,v33,s34,s35,m36,s37,s38)))
def ju(x_0_c:aj)(x_0_routes:Sl (Sl (Sl Int)))(x_0_l:Sl ai)(x_0_at:ad)(x_0_volatile_phase:Int)(x_0_volatile_plan:am)(_x_0_volatile_cur:Int)(x_0_volatile_want:Mp Int aa)(x_0_volatile_sent:Int)(_x_0_volatile_rest:Int)(x_0_volatile_skip:Int)(x_0_volatile_healed:Int)(x_0_volatile_est:Arr 8 ak)(x_0_volatile_asked:Arr 8 Int)(x_0_volatile_out:Sl aa)(x_0_volatile_events:Sl aw)(now_1:Int)(k_2:Int)(up_3:Int):Option (aj×Sl (Sl (Sl Int))×Sl ai×ad×Int×am×Int×Mp Int aa×Int×Int×Int×Int×Arr 8 ak×Arr 8 Int×Sl aa×Sl aw):=
 (cH k_2 ((am.aV x_0_volatile_plan).l).length).bind fun n1=>
 (aU (mU x_0_volatile_plan k_2 up_3 n1) (0,x_0_c,x_0_routes,x_0_at,x_0_volatile_phase,x_0_volatile_plan,k_2,x_0_volatile_sent,(-1),x_0_volatile_skip,x_0_volatile_healed,x_0_volatile_est,x_0_volatile_asked,Sl.nil,x_0_l,x_0_volatile_want,x_0_volatile_out,x_0_volatile_events)).bind fun(x60,s61,x62,i63,x64,i65,i66,i67,i68,i69,v70,v71,s72,s73,m74,s75,s76)=>
 (jY x60 s61 s73 x62 i63 x64 i65 m74 i66 i67 i68 i69 v70 v71 s75 s76 now_1 s72).bind fun(q77,q78,s79,q80,q81,q82,q83,q84,q85,q86,q87,q88,q89,q90,s91,s92)=>
 bif((s72.l.length:Int)==0)then((mi q77 q78 s79 q80 q81 q82 q83 q84 q85 q86 q87 q88 q89 q90 s91 s92 now_1 up_3).bind fun(q93,q94,s95,q96,q97,q98,q99,q100,q101,q102,q103,q104,q105,q106,s107,s108)=>
 some (q93,q94,s95,q96,q97,q98,q99,q100,q101,q102,q103,q104,q105,q106,s107,s108))else
 (some (q77,q78,s79,q80,q81,q82,q83,q84,q85,q86,q87,q88,q89,q90,s91,s92))
def ac3:dG:=⟨[(true,h0),(false,.x (.i .i64)),(false,.x (.i .i64)),(false,.x (.i .i64))],[([],[h0])],false,[true,false,false,false],fun p=>match p with|(x_0_c,x_0_routes,x_0_l,x_0_at,x_0_volatile_phase,x_0_volatile_plan,x_0_volatile_cur,x_0_volatile_want,x_0_volatile_sent,x_0_volatile_rest,x_0_volatile_skip,x_0_volatile_healed,x_0_volatile_est,x_0_volatile_asked,x_0_volatile_out,x_0_volatile_events,now_1,k_2,up_3)=>ju x_0_c x_0_routes x_0_l x_0_at x_0_volatile_phase x_0_volatile_plan x_0_volatile_cur x_0_volatile_want x_0_volatile_sent x_0_volatile_rest x_0_volatile_skip x_0_volatile_healed x_0_volatile_est x_0_volatile_asked x_0_volatile_out x_0_volatile_events now_1 k_2 up_3⟩
theorem aap:aL prog 114 ac3:=aH mixed (lp:=ek) (aS:=aS) (np:=4) (an:=[(7,{j:=some {vs:=[(0,.op 0 mH []),(8,.so 1),(31,.x (.i .i64))],gs:=(.co (.op 0 mH []) .ni),os:=[.bx mH (.rc (.co (.x y4) (.co (.x (.sl (.sl (.sl (.i .i64))))) (.co (.so 2) (.co (.x pg) (.co (.rc (.co (.x (.i .i64)) (.co (.x y7) (.co (.x (.i .i64)) (.co (.om 3) (.co (.x (.i .i64)) (.co (.x (.i .i64)) (.co (.x (.i .i64)) (.co (.x (.i .i64)) (.co (.x (.ar 8 y5)) (.co (.x (.ar 8 (.i .i64))) (.co (.so 4) (.co (.so 5) .ni))))))))))))) .ni)))))),.ar iX,.ar y8,.mp (.i .i64) iX,.ar iX,.ar y2],kl:=[0,13,31,76,77]},e:=[(.exit 0,{vs:=[(0,.op 0 mH []),(8,.so 1)],gs:=(.co (.op 0 mH []) .ni),os:=[.bx mH (.rc (.co (.x y4) (.co (.x (.sl (.sl (.sl (.i .i64))))) (.co (.so 2) (.co (.x pg) (.co (.rc (.co (.x (.i .i64)) (.co (.x y7) (.co (.x (.i .i64)) (.co (.om 3) (.co (.x (.i .i64)) (.co (.x (.i .i64)) (.co (.x (.i .i64)) (.co (.x (.i .i64)) (.co (.x (.ar 8 y5)) (.co (.x (.ar 8 (.i .i64))) (.co (.so 4) (.co (.so 5) .ni))))))))))))) .ni)))))),.ar iX,.ar y8,.mp (.i .i64) iX,.ar iX,.ar y2],kl:=[0,13,31,76,77]})]}),(11,{e:=[(.normal,{vs:=[(0,.op 0 mH []),(8,.so 1)],gs:=(.co (.op 0 mH []) .ni),os:=[.bx mH (.rc (.co (.x y4) (.co (.x (.sl (.sl (.sl (.i .i64))))) (.co (.so 2) (.co (.x pg) (.co (.rc (.co (.x (.i .i64)) (.co (.x y7) (.co (.x (.i .i64)) (.co (.om 3) (.co (.x (.i .i64)) (.co (.x (.i .i64)) (.co (.x (.i .i64)) (.co (.x (.i .i64)) (.co (.x (.ar 8 y5)) (.co (.x (.ar 8 (.i .i64))) (.co (.so 4) (.co (.so 5) .ni))))))))))))) .ni)))))),.ar iX,.ar y8,.mp (.i .i64) iX,.ar iX,.ar y2],kl:=[78,79,80,81,82,83]})]})]) (.cons Ub (.cons aeu .nil)) (by kernel_rfl) (by kernel_rfl)
def ik(x_0_c:aj)(x_0_routes:Sl (Sl (Sl Int)))(x_0_l:Sl ai)(x_0_at:ad)(x_0_volatile_phase:Int)(x_0_volatile_plan:am)(x_0_volatile_cur:Int)(x_0_volatile_want:Mp Int aa)(x_0_volatile_sent:Int)(x_0_volatile_rest:Int)(x_0_volatile_skip:Int)(x_0_volatile_healed:Int)(x_0_volatile_est:Arr 8 ak)(x_0_volatile_asked:Arr 8 Int)(x_0_volatile_out:Sl aa)(x_0_volatile_events:Sl aw)(now_1:Int)(up_2:Int):Option (aj×Sl (Sl (Sl Int))×Sl ai×ad×Int×am×Int×Mp Int aa×Int×Int×Int×Int×Arr 8 ak×Arr 8 Int×Sl aa×Sl aw):=
 (bif(!(ad.bH x_0_at))then((eI x_0_c x_0_routes x_0_l x_0_at x_0_volatile_phase x_0_volatile_plan x_0_volatile_cur x_0_volatile_want x_0_volatile_sent x_0_volatile_rest x_0_volatile_skip x_0_volatile_healed x_0_volatile_est x_0_volatile_asked x_0_volatile_out x_0_volatile_events 4 (ad.U x_0_at) 0 0).bind fun(q1,q2,s3,q4,q5,q6,q7,q8,q9,q10,q11,q12,q13,q14,s15,s16)=>
 some (q1,q2,q4,q5,q6,q7,q9,q10,q11,q12,q13,q14,s3,q8,s15,s16))else
 (some (x_0_c,x_0_routes,x_0_at,x_0_volatile_phase,x_0_volatile_plan,x_0_volatile_cur,x_0_volatile_sent,x_0_volatile_rest,x_0_volatile_skip,x_0_volatile_healed,x_0_volatile_est,x_0_volatile_asked,x_0_l,x_0_volatile_want,x_0_volatile_out,x_0_volatile_events)):Option (aj×Sl (Sl (Sl Int))×ad×Int×am×Int×Int×Int×Int×Int×Arr 8 ak×Arr 8 Int×Sl ai×Mp Int aa×Sl aa×Sl aw)).bind fun(x17,s18,x19,_,x21,i22,i23,i24,i25,i26,v27,v28,s29,m30,s31,s32)=>
 (ju x17 s18 s29 x19 5 x21 i22 m30 i23 i24 i25 i26 v27 v28 s31 s32 now_1 (wr .i64 ((((am.aV x21).l).length:Int)-1)) up_2).bind fun(q33,q34,s35,q36,q37,q38,q39,q40,q41,q42,q43,q44,q45,q46,s47,s48)=>
 some (q33,q34,s35,q36,q37,q38,q39,q40,q41,q42,q43,q44,q45,q46,s47,s48)
def ac2:dG:=⟨[(true,h0),(false,.x (.i .i64)),(false,.x (.i .i64))],[([],[h0])],false,[true,false,false],fun p=>match p with|(x_0_c,x_0_routes,x_0_l,x_0_at,x_0_volatile_phase,x_0_volatile_plan,x_0_volatile_cur,x_0_volatile_want,x_0_volatile_sent,x_0_volatile_rest,x_0_volatile_skip,x_0_volatile_healed,x_0_volatile_est,x_0_volatile_asked,x_0_volatile_out,x_0_volatile_events,now_1,up_2)=>ik x_0_c x_0_routes x_0_l x_0_at x_0_volatile_phase x_0_volatile_plan x_0_volatile_cur x_0_volatile_want x_0_volatile_sent x_0_volatile_rest x_0_volatile_skip x_0_volatile_healed x_0_volatile_est x_0_volatile_asked x_0_volatile_out x_0_volatile_events now_1 up_2⟩
theorem Ua:aL prog 62 ac2:=aH mixed (lp:=ek) (aS:=aS) (np:=3) (an:=[(0,{e:=[(.normal,{vs:=[(0,.op 0 mH [])],gs:=(.co (.op 0 mH []) .ni),os:=[.bx mH (.rc (.co (.x y4) (.co (.x (.sl (.sl (.sl (.i .i64))))) (.co (.so 1) (.co (.x pg) (.co (.rc (.co (.x (.i .i64)) (.co (.x y7) (.co (.x (.i .i64)) (.co (.om 2) (.co (.x (.i .i64)) (.co (.x (.i .i64)) (.co (.x (.i .i64)) (.co (.x (.i .i64)) (.co (.x (.ar 8 y5)) (.co (.x (.ar 8 (.i .i64))) (.co (.so 3) (.co (.so 4) .ni))))))))))))) .ni)))))),.ar y8,.mp (.i .i64) iX,.ar iX,.ar y2],kl:=[0,13,31,76,77]})]})]) (.cons KI (.cons aap .nil)) (by kernel_rfl) (by kernel_rfl)
def qx(k_2:Int)(r2:Sl Int)(q39:ad)(q41:am)(n52:Nat):(Int×Sl aa)->Option ((Int×Sl aa)⊕(Sl aa)):=fun(i56,s57)=>
 bif decide (i56<(((aQ.pT (gt ((am.aV q41).l) n52)).l).length:Int))then((cH i56 ((aQ.pT (gt ((am.aV q41).l) n52)).l).length).bind fun n58=>
 (cH i56 r2.l.length).bind fun n59=>
 (g_ (s57.l++[(⟨4,gt ((aQ.pT (gt ((am.aV q41).l) n52)).l) n58,ad.U q39,k_2,0,gt r2.l n59,0,0,0,Sl.nil⟩:aa)])).bind fun l60=>
 some (.inl (wr .i64 (i56+1),(Sl.mk l60))))else
 (some (.inr s57))
def nu(x_0_c:aj)(x_0_routes:Sl (Sl (Sl Int)))(x_0_l:Sl ai)(x_0_at:ad)(x_0_volatile_phase:Int)(x_0_volatile_plan:am)(x_0_volatile_cur:Int)(x_0_volatile_want:Mp Int aa)(x_0_volatile_sent:Int)(x_0_volatile_rest:Int)(x_0_volatile_skip:Int)(x_0_volatile_healed:Int)(x_0_volatile_est:Arr 8 ak)(x_0_volatile_asked:Arr 8 Int)(x_0_volatile_out:Sl aa)(x_0_volatile_events:Sl aw)(now_1:Int)(k_2:Int)(up_3:Int):Option (aj×Sl (Sl (Sl Int))×Sl ai×ad×Int×am×Int×Mp Int aa×Int×Int×Int×Int×Arr 8 ak×Arr 8 Int×Sl aa×Sl aw):=
 (cH k_2 ((am.aV x_0_volatile_plan).l).length).bind fun n1=>
 (nv x_0_c x_0_routes x_0_l x_0_at x_0_volatile_phase x_0_volatile_plan x_0_volatile_cur x_0_volatile_want x_0_volatile_sent x_0_volatile_rest x_0_volatile_skip x_0_volatile_healed x_0_volatile_est x_0_volatile_asked x_0_volatile_out x_0_volatile_events (gt ((am.aV x_0_volatile_plan).l) n1)).bind fun(r2,r3,q4,q5,s6,q7,q8,q9,q10,q11,q12,q13,q14,q15,q16,q17,s18,s19)=>
 bif(!r3)then((ik q4 q5 s6 q7 q8 q9 q10 q11 q12 q13 q14 q15 q16 q17 s18 s19 now_1 up_3).bind fun(q20,q21,s22,q23,q24,q25,q26,q27,q28,q29,q30,q31,q32,q33,s34,s35)=>
 some (q20,q21,s22,q23,q24,q25,q26,q27,q28,q29,q30,q31,q32,q33,s34,s35))else
 ((eI q4 q5 s6 q7 q8 q9 q10 q11 q12 q13 q14 q15 q16 q17 s18 s19 2 (ad.U q7) k_2 0).bind fun(q36,q37,s38,q39,_,q41,_,q43,q44,q45,q46,q47,q48,q49,s50,s51)=>
 (cH k_2 ((am.aV q41).l).length).bind fun n52=>
 (aU (qx k_2 r2 q39 q41 n52) (0,Sl.nil)).bind fun s61=>
 (jY q36 q37 s38 q39 2 q41 k_2 q43 q44 q45 q46 q47 q48 q49 s50 s51 now_1 s61).bind fun(q62,q63,s64,q65,q66,q67,q68,q69,q70,q71,q72,q73,q74,q75,s76,s77)=>
 some (q62,q63,s64,q65,q66,q67,q68,q69,q70,q71,q72,q73,q74,q75,s76,s77))
def ac1:dG:=⟨[(true,h0),(false,.x (.i .i64)),(false,.x (.i .i64)),(false,.x (.i .i64))],[([],[h0])],false,[true,false,false,false],fun p=>match p with|(x_0_c,x_0_routes,x_0_l,x_0_at,x_0_volatile_phase,x_0_volatile_plan,x_0_volatile_cur,x_0_volatile_want,x_0_volatile_sent,x_0_volatile_rest,x_0_volatile_skip,x_0_volatile_healed,x_0_volatile_est,x_0_volatile_asked,x_0_volatile_out,x_0_volatile_events,now_1,k_2,up_3)=>nu x_0_c x_0_routes x_0_l x_0_at x_0_volatile_phase x_0_volatile_plan x_0_volatile_cur x_0_volatile_want x_0_volatile_sent x_0_volatile_rest x_0_volatile_skip x_0_volatile_healed x_0_volatile_est x_0_volatile_asked x_0_volatile_out x_0_volatile_events now_1 k_2 up_3⟩
theorem aet:aL prog 172 ac1:=aH mixed (lp:=ek) (aS:=aS) (np:=4) (an:=[(16,{j:=some {vs:=[(10,.so 0),(61,.x (.i .i64))],os:=[.ar iX]},e:=[(.exit 0,{vs:=[(10,.so 0)],os:=[.ar iX]})]})]) (.cons aas (.cons Ua (.cons KI (.cons Ub .nil)))) (by kernel_rfl) (by kernel_rfl)
def lO(x_0_c:aj)(x_0_routes:Sl (Sl (Sl Int)))(x_0_l:Sl ai)(x_0_at:ad)(x_0_volatile_phase:Int)(x_0_volatile_plan:am)(x_0_volatile_cur:Int)(x_0_volatile_want:Mp Int aa)(x_0_volatile_sent:Int)(x_0_volatile_rest:Int)(x_0_volatile_skip:Int)(x_0_volatile_healed:Int)(x_0_volatile_est:Arr 8 ak)(x_0_volatile_asked:Arr 8 Int)(x_0_volatile_out:Sl aa)(x_0_volatile_events:Sl aw)(now_1:Int)(up_2:Int):Option (aj×Sl (Sl (Sl Int))×Sl ai×ad×Int×am×Int×Mp Int aa×Int×Int×Int×Int×Arr 8 ak×Arr 8 Int×Sl aa×Sl aw):=
 bif(x_0_volatile_phase==1)then((nu x_0_c x_0_routes x_0_l x_0_at x_0_volatile_phase x_0_volatile_plan x_0_volatile_cur x_0_volatile_want x_0_volatile_sent x_0_volatile_rest x_0_volatile_skip x_0_volatile_healed x_0_volatile_est x_0_volatile_asked x_0_volatile_out x_0_volatile_events now_1 0 up_2).bind fun(q1,q2,s3,q4,q5,q6,q7,q8,q9,q10,q11,q12,q13,q14,s15,s16)=>
 some (q1,q2,s3,q4,q5,q6,q7,q8,q9,q10,q11,q12,q13,q14,s15,s16))else
 (bif(x_0_volatile_phase==2)then(bif decide ((wr .i64 (x_0_volatile_cur+1))<(((am.aV x_0_volatile_plan).l).length:Int))then((nu x_0_c x_0_routes x_0_l x_0_at x_0_volatile_phase x_0_volatile_plan x_0_volatile_cur x_0_volatile_want x_0_volatile_sent x_0_volatile_rest x_0_volatile_skip x_0_volatile_healed x_0_volatile_est x_0_volatile_asked x_0_volatile_out x_0_volatile_events now_1 (wr .i64 (x_0_volatile_cur+1)) up_2).bind fun(q17,q18,s19,q20,q21,q22,q23,q24,q25,q26,q27,q28,q29,q30,s31,s32)=>
 some (q17,q18,s19,q20,q21,q22,q23,q24,q25,q26,q27,q28,q29,q30,s31,s32))else
 ((eI x_0_c x_0_routes x_0_l x_0_at x_0_volatile_phase x_0_volatile_plan x_0_volatile_cur x_0_volatile_want x_0_volatile_sent x_0_volatile_rest x_0_volatile_skip x_0_volatile_healed x_0_volatile_est x_0_volatile_asked x_0_volatile_out x_0_volatile_events 3 (ad.U x_0_at) 0 0).bind fun(q33,q34,s35,q36,_,q38,q39,q40,q41,q42,q43,q44,q45,q46,s47,s48)=>
 some (q33,q34,s35,q36,3,q38,q39,q40,q41,q42,q43,q44,q45,q46,s47,s48)))else
 (bif(x_0_volatile_phase==4)then((eI x_0_c x_0_routes x_0_l x_0_at x_0_volatile_phase x_0_volatile_plan x_0_volatile_cur x_0_volatile_want x_0_volatile_sent x_0_volatile_rest x_0_volatile_skip x_0_volatile_healed x_0_volatile_est x_0_volatile_asked x_0_volatile_out x_0_volatile_events 5 (ad.U x_0_at) 0 0).bind fun(q49,q50,s51,q52,q53,q54,q55,q56,q57,q58,q59,q60,q61,q62,s63,s64)=>
 (fQ q49 q50 s51 q52 q53 q54 q55 q56 q57 q58 q59 q60 q61 q62 s63 s64 now_1 9 0 (ad.pU q52) 0).bind fun(q65,q66,s67,q68,q69,q70,q71,q72,q73,q74,q75,q76,q77,q78,s79,s80)=>
 (lN q65 q66 s67 q68 q69 q70 q71 q72 q73 q74 q75 q76 q77 q78 s79 s80).bind fun(q81,q82,s83,q84,q85,q86,q87,q88,q89,q90,q91,q92,q93,q94,s95,s96)=>
 some (q81,q82,s83,q84,q85,q86,q87,q88,q89,q90,q91,q92,q93,q94,s95,s96))else
 (bif(x_0_volatile_phase==5)then(some (x_0_c,x_0_routes,x_0_l,x_0_at,x_0_volatile_phase,x_0_volatile_plan,x_0_volatile_cur,x_0_volatile_want,x_0_volatile_sent,wr .i64 ((wr .i64 (now_1+(am.yG x_0_volatile_plan)))+1),x_0_volatile_skip,x_0_volatile_healed,x_0_volatile_est,x_0_volatile_asked,x_0_volatile_out,x_0_volatile_events))else
 (some (x_0_c,x_0_routes,x_0_l,x_0_at,x_0_volatile_phase,x_0_volatile_plan,x_0_volatile_cur,x_0_volatile_want,x_0_volatile_sent,x_0_volatile_rest,x_0_volatile_skip,x_0_volatile_healed,x_0_volatile_est,x_0_volatile_asked,x_0_volatile_out,x_0_volatile_events)))))
def ac0:dG:=⟨[(true,h0),(false,.x (.i .i64)),(false,.x (.i .i64))],[([],[h0])],false,[true,false,false],fun p=>match p with|(x_0_c,x_0_routes,x_0_l,x_0_at,x_0_volatile_phase,x_0_volatile_plan,x_0_volatile_cur,x_0_volatile_want,x_0_volatile_sent,x_0_volatile_rest,x_0_volatile_skip,x_0_volatile_healed,x_0_volatile_est,x_0_volatile_asked,x_0_volatile_out,x_0_volatile_events,now_1,up_2)=>lO x_0_c x_0_routes x_0_l x_0_at x_0_volatile_phase x_0_volatile_plan x_0_volatile_cur x_0_volatile_want x_0_volatile_sent x_0_volatile_rest x_0_volatile_skip x_0_volatile_healed x_0_volatile_est x_0_volatile_asked x_0_volatile_out x_0_volatile_events now_1 up_2⟩
theorem aao:aL prog 112 ac0:=aH mixed (lp:=ek) (aS:=aS) (np:=3) (an:=[]) (.cons aet (.cons KI (.cons QS (.cons Xw .nil)))) (by kernel_rfl) (by kernel_rfl)
def kz(x_0_c:aj)(x_0_routes:Sl (Sl (Sl Int)))(x_0_l:Sl ai)(x_0_at:ad)(x_0_volatile_phase:Int)(x_0_volatile_plan:am)(x_0_volatile_cur:Int)(x_0_volatile_want:Mp Int aa)(x_0_volatile_sent:Int)(x_0_volatile_rest:Int)(x_0_volatile_skip:Int)(x_0_volatile_healed:Int)(x_0_volatile_est:Arr 8 ak)(x_0_volatile_asked:Arr 8 Int)(x_0_volatile_out:Sl aa)(x_0_volatile_events:Sl aw)(now_1:Int):Option (aj×Sl (Sl (Sl Int))×Sl ai×ad×Int×am×Int×Mp Int aa×Int×Int×Int×Int×Arr 8 ak×Arr 8 Int×Sl aa×Sl aw):=
 (bif decide ((x_0_volatile_want.es.length:Int)>0)then((lw x_0_c x_0_routes x_0_l x_0_at x_0_volatile_phase x_0_volatile_plan x_0_volatile_cur x_0_volatile_want x_0_volatile_sent x_0_volatile_rest x_0_volatile_skip x_0_volatile_healed x_0_volatile_est x_0_volatile_asked x_0_volatile_out x_0_volatile_events now_1 x_0_volatile_sent).bind fun(r1,q2,q3,s4,q5,q6,q7,q8,q9,q10,q11,q12,q13,q14,q15,s16,s17)=>
 some (r1,q2,q3,q5,q6,q7,q8,q10,q11,q12,q13,q14,q15,s4,q9,s16,s17))else
 (some (false,x_0_c,x_0_routes,x_0_at,x_0_volatile_phase,x_0_volatile_plan,x_0_volatile_cur,x_0_volatile_sent,x_0_volatile_rest,x_0_volatile_skip,x_0_volatile_healed,x_0_volatile_est,x_0_volatile_asked,x_0_l,x_0_volatile_want,x_0_volatile_out,x_0_volatile_events)):Option (Bool×aj×Sl (Sl (Sl Int))×ad×Int×am×Int×Int×Int×Int×Int×Arr 8 ak×Arr 8 Int×Sl ai×Mp Int aa×Sl aa×Sl aw)).bind fun(b18,x19,s20,x21,i22,x23,i24,i25,i26,i27,i28,v29,v30,s31,m32,s33,s34)=>
 bif b18 then((jw x19 s20 s31 x21 i22 x23 i24 m32 i25 i26 i27 i28 v29 v30 s33 s34 now_1).bind fun(q35,q36,s37,q38,q39,q40,q41,q42,q43,q44,q45,q46,q47,q48,s49,s50)=>
 some (q35,q36,s37,q38,q39,q40,q41,q42,q43,q44,q45,q46,q47,q48,s49,s50))else
 (some (x19,s20,s31,x21,i22,x23,i24,m32,i25,i26,i27,i28,v29,v30,s33,s34))
def acZ:dG:=⟨[(true,h0),(false,.x (.i .i64))],[([],[h0])],false,[true,false],fun p=>match p with|(x_0_c,x_0_routes,x_0_l,x_0_at,x_0_volatile_phase,x_0_volatile_plan,x_0_volatile_cur,x_0_volatile_want,x_0_volatile_sent,x_0_volatile_rest,x_0_volatile_skip,x_0_volatile_healed,x_0_volatile_est,x_0_volatile_asked,x_0_volatile_out,x_0_volatile_events,now_1)=>kz x_0_c x_0_routes x_0_l x_0_at x_0_volatile_phase x_0_volatile_plan x_0_volatile_cur x_0_volatile_want x_0_volatile_sent x_0_volatile_rest x_0_volatile_skip x_0_volatile_healed x_0_volatile_est x_0_volatile_asked x_0_volatile_out x_0_volatile_events now_1⟩
theorem aan:aL prog 113 acZ:=aH mixed (lp:=ek) (aS:=aS) (np:=2) (an:=[(1,{j:=some {vs:=[(0,.op 0 mH []),(20,.x .b)],gs:=(.co (.op 0 mH []) .ni),os:=[.bx mH (.rc (.co (.x y4) (.co (.x (.sl (.sl (.sl (.i .i64))))) (.co (.so 1) (.co (.x pg) (.co (.rc (.co (.x (.i .i64)) (.co (.x y7) (.co (.x (.i .i64)) (.co (.om 2) (.co (.x (.i .i64)) (.co (.x (.i .i64)) (.co (.x (.i .i64)) (.co (.x (.i .i64)) (.co (.x (.ar 8 y5)) (.co (.x (.ar 8 (.i .i64))) (.co (.so 3) (.co (.so 4) .ni))))))))))))) .ni)))))),.ar y8,.mp (.i .i64) iX,.ar iX,.ar y2],kl:=[0,13,31,76,77]}})]) (.cons XA (.cons aaq .nil)) (by kernel_rfl) (by kernel_rfl)
def nV(x_0_c:aj)(x_0_routes:Sl (Sl (Sl Int)))(x_0_l:Sl ai)(x_0_at:ad)(x_0_volatile_phase:Int)(x_0_volatile_plan:am)(x_0_volatile_cur:Int)(x_0_volatile_want:Mp Int aa)(x_0_volatile_sent:Int)(x_0_volatile_rest:Int)(x_0_volatile_skip:Int)(x_0_volatile_healed:Int)(x_0_volatile_est:Arr 8 ak)(x_0_volatile_asked:Arr 8 Int)(x_0_volatile_out:Sl aa)(x_0_volatile_events:Sl aw)(now_1:Int)(up_2:Int):Option (aj×Sl (Sl (Sl Int))×Sl ai×ad×Int×am×Int×Mp Int aa×Int×Int×Int×Int×Arr 8 ak×Arr 8 Int×Sl aa×Sl aw):=
 bif zH x_0_volatile_want then(bif((decide ((x_0_volatile_want.es.length:Int)>0))&&(((oP up_2 x_0_volatile_want).es.length:Int)==0))then((lO x_0_c x_0_routes x_0_l x_0_at x_0_volatile_phase x_0_volatile_plan x_0_volatile_cur (oP up_2 x_0_volatile_want) x_0_volatile_sent x_0_volatile_rest (iM up_2 x_0_volatile_want x_0_volatile_skip) x_0_volatile_healed x_0_volatile_est x_0_volatile_asked x_0_volatile_out x_0_volatile_events now_1 up_2).bind fun(q1,q2,s3,q4,q5,q6,q7,q8,q9,q10,q11,q12,q13,q14,s15,s16)=>
 some (q1,q2,s3,q4,q5,q6,q7,q8,q9,q10,q11,q12,q13,q14,s15,s16))else
 (bif((x_0_volatile_rest==(-1))||(decide (now_1<x_0_volatile_rest)))then((kz x_0_c x_0_routes x_0_l x_0_at x_0_volatile_phase x_0_volatile_plan x_0_volatile_cur (oP up_2 x_0_volatile_want) x_0_volatile_sent x_0_volatile_rest (iM up_2 x_0_volatile_want x_0_volatile_skip) x_0_volatile_healed x_0_volatile_est x_0_volatile_asked x_0_volatile_out x_0_volatile_events now_1).bind fun(q17,q18,s19,q20,q21,q22,q23,q24,q25,q26,q27,q28,q29,q30,s31,s32)=>
 some (q17,q18,s19,q20,q21,q22,q23,q24,q25,q26,q27,q28,q29,q30,s31,s32))else
 (bif decide (x_0_volatile_cur>0)then((ju x_0_c x_0_routes x_0_l x_0_at x_0_volatile_phase x_0_volatile_plan x_0_volatile_cur (oP up_2 x_0_volatile_want) x_0_volatile_sent x_0_volatile_rest (iM up_2 x_0_volatile_want x_0_volatile_skip) x_0_volatile_healed x_0_volatile_est x_0_volatile_asked x_0_volatile_out x_0_volatile_events now_1 (wr .i64 (x_0_volatile_cur-1)) up_2).bind fun(q33,q34,s35,q36,q37,q38,q39,q40,q41,q42,q43,q44,q45,q46,s47,s48)=>
 some (q33,q34,s35,q36,q37,q38,q39,q40,q41,q42,q43,q44,q45,q46,s47,s48))else
 ((zd .i64 1 (ao.au (aj.T x_0_c))).bind fun i49=>
 (eI x_0_c x_0_routes x_0_l x_0_at x_0_volatile_phase x_0_volatile_plan x_0_volatile_cur (oP up_2 x_0_volatile_want) x_0_volatile_sent x_0_volatile_rest (iM up_2 x_0_volatile_want x_0_volatile_skip) x_0_volatile_healed x_0_volatile_est x_0_volatile_asked x_0_volatile_out x_0_volatile_events 6 (ad.U x_0_at) (A9 .i64 (iM up_2 x_0_volatile_want x_0_volatile_skip) (gC .i64 (wr .i64 (i49-1)) up_2)) 0).bind fun(q50,q51,s52,q53,q54,q55,q56,q57,q58,q59,q60,q61,q62,q63,s64,s65)=>
 (fQ q50 q51 s52 q53 q54 q55 q56 q57 q58 q59 q60 q61 q62 q63 s64 s65 now_1 10 0 (A9 .i64 (iM up_2 x_0_volatile_want x_0_volatile_skip) (gC .i64 (wr .i64 (i49-1)) up_2)) 0).bind fun(q66,q67,s68,q69,q70,q71,q72,q73,q74,q75,q76,q77,q78,q79,s80,s81)=>
 (lN q66 q67 s68 q69 q70 q71 q72 q73 q74 q75 q76 q77 q78 q79 s80 s81).bind fun(q82,q83,s84,q85,q86,q87,q88,q89,q90,q91,q92,q93,q94,q95,s96,s97)=>
 some (q82,q83,s84,q85,q86,q87,q88,q89,q90,q91,q92,q93,q94,q95,s96,s97)))))else(none)
def acY:dG:=⟨[(true,h0),(false,.x (.i .i64)),(false,.x (.i .i64))],[([],[h0])],false,[true,false,false],fun p=>match p with|(x_0_c,x_0_routes,x_0_l,x_0_at,x_0_volatile_phase,x_0_volatile_plan,x_0_volatile_cur,x_0_volatile_want,x_0_volatile_sent,x_0_volatile_rest,x_0_volatile_skip,x_0_volatile_healed,x_0_volatile_est,x_0_volatile_asked,x_0_volatile_out,x_0_volatile_events,now_1,up_2)=>nV x_0_c x_0_routes x_0_l x_0_at x_0_volatile_phase x_0_volatile_plan x_0_volatile_cur x_0_volatile_want x_0_volatile_sent x_0_volatile_rest x_0_volatile_skip x_0_volatile_healed x_0_volatile_est x_0_volatile_asked x_0_volatile_out x_0_volatile_events now_1 up_2⟩
theorem aes:aL prog 59 acY:=aH mixed (lp:=ek) (aS:=aS) (np:=3) (an:=[]) (.Rz @XS (.cons aao (.cons aan (.cons aap (.cons KI (.cons QS (.cons Xw .nil))))))) (by kernel_rfl) (by kernel_rfl)
def nQ(p_0:am)(i7:Int)(n9:Nat):(Int×Int×Arr 8 Int)->Option ((Int×Int×Arr 8 Int)⊕(Int×Arr 8 Int)):=fun(i15,i16,v17)=>
 bif decide (i16<(((aQ.pT (gt ((am.aV p_0).l) n9)).l).length:Int))then((cH i16 ((aQ.pT (gt ((am.aV p_0).l) n9)).l).length).bind fun n18=>
 (zd .i64 1 (gt ((aQ.pT (gt ((am.aV p_0).l) n9)).l) n18)).bind fun i19=>
 (cH (gt ((aQ.pT (gt ((am.aV p_0).l) n9)).l) n18) 8).bind fun n20=>
 (zd .i64 1 i7).bind fun i21=>
 (cH (gt ((aQ.pT (gt ((am.aV p_0).l) n9)).l) n18) 8).bind fun n22=>
 some (.inl (A9 .i64 i15 i19,wr .i64 (i16+1),Arr.set v17 n22 (A9 .i64 (gt v17.1 n20) i21))))else
 (some (.inr (i15,v17)))
def nP(p_0:am):(Int×Int×Arr 8 Int)->Option ((Int×Int×Arr 8 Int)⊕(Int×Arr 8 Int)):=fun(i6,i7,v8)=>
 bif decide (i7<(((am.aV p_0).l).length:Int))then((cH i7 ((am.aV p_0).l).length).bind fun n9=>
 (aU (nQ p_0 i7 n9) (i6,0,v8)).bind fun(i23,v24)=>
 some (.inl (i23,wr .i64 (i7+1),v24)))else
 (some (.inr (i6,v8)))
def jb(p_0:am):Option (Int×Arr 8 Int):=
 (aU (nP p_0) (0,0,(qK (.ar 8 (.i .i64))))).bind fun(i25,v26)=>
 some (i25,v26)
def acX:dG:=⟨[(false,.x y7)],[([.x (.i .i64),.x (.ar 8 (.i .i64))],[])],true,[],fun p=>match p with|p_0=>jb p_0⟩
theorem Xv:aL prog 67 acX:=aH mixed (lp:=ek) (aS:=aS) (np:=1) (an:=[(7,{j:=some {vs:=[(4,.x (.i .i64)),(5,.op 0 (.ar 8 (.i .i64)) []),(14,.x (.i .i64))],os:=[.bx (.ar 8 (.i .i64)) (.x (.ar 8 (.i .i64)))],kl:=[2]},e:=[(.exit 0,{vs:=[(4,.x (.i .i64)),(5,.op 0 (.ar 8 (.i .i64)) [])],os:=[.bx (.ar 8 (.i .i64)) (.x (.ar 8 (.i .i64)))],kl:=[2]})]}),(16,{j:=some {vs:=[(4,.x (.i .i64)),(5,.op 0 (.ar 8 (.i .i64)) []),(22,.x (.i .i64))],os:=[.bx (.ar 8 (.i .i64)) (.x (.ar 8 (.i .i64)))],kl:=[3]},e:=[(.exit 2,{vs:=[(4,.x (.i .i64)),(5,.op 0 (.ar 8 (.i .i64)) [])],os:=[.bx (.ar 8 (.i .i64)) (.x (.ar 8 (.i .i64)))],kl:=[3]})]})]) .nil (by kernel_rfl) (by kernel_rfl)
def lc(x_0_c:aj)(x_0_at:ad)(r1:Int)(r2:Arr 8 Int):(Int×Sl aa)->Option ((Int×Sl aa)⊕(Sl aa)):=fun(i6,s7)=>
 bif decide (i6<(ao.au (aj.T x_0_c)))then(((yt .i64 r1 i6).bind fun i8=>
 bif((qO .i64 i8 1)==1)then((cH i6 8).bind fun n9=>
 (g_ (s7.l++[(⟨6,i6,ad.U x_0_at,0,0,0,0,0,gt r2.1 n9,Sl.nil⟩:aa)])).bind fun l10=>
 some (Sl.mk l10))else
 (some s7):Option (Sl aa)).bind fun s11=>
 some (.inl (wr .i64 (i6+1),s11)))else
 (some (.inr s7))
def mC(x_0_c:aj)(x_0_routes:Sl (Sl (Sl Int)))(x_0_l:Sl ai)(x_0_at:ad)(_x_0_volatile_phase:Int)(x_0_volatile_plan:am)(x_0_volatile_cur:Int)(x_0_volatile_want:Mp Int aa)(x_0_volatile_sent:Int)(x_0_volatile_rest:Int)(x_0_volatile_skip:Int)(x_0_volatile_healed:Int)(x_0_volatile_est:Arr 8 ak)(x_0_volatile_asked:Arr 8 Int)(x_0_volatile_out:Sl aa)(x_0_volatile_events:Sl aw)(now_1:Int):Option (aj×Sl (Sl (Sl Int))×Sl ai×ad×Int×am×Int×Mp Int aa×Int×Int×Int×Int×Arr 8 ak×Arr 8 Int×Sl aa×Sl aw):=
 (jb x_0_volatile_plan).bind fun(r1,r2)=>
 (aU (lc x_0_c x_0_at r1 r2) (0,Sl.nil)).bind fun s12=>
 (jY x_0_c x_0_routes x_0_l x_0_at 4 x_0_volatile_plan x_0_volatile_cur x_0_volatile_want x_0_volatile_sent x_0_volatile_rest x_0_volatile_skip x_0_volatile_healed x_0_volatile_est x_0_volatile_asked x_0_volatile_out x_0_volatile_events now_1 s12).bind fun(q13,q14,s15,q16,q17,q18,q19,q20,q21,q22,q23,q24,q25,q26,s27,s28)=>
 some (q13,q14,s15,q16,q17,q18,q19,q20,q21,q22,q23,q24,q25,q26,s27,s28)
def acW:dG:=⟨[(true,h0),(false,.x (.i .i64))],[([],[h0])],false,[true,false],fun p=>match p with|(x_0_c,x_0_routes,x_0_l,x_0_at,x_0_volatile_phase,x_0_volatile_plan,x_0_volatile_cur,x_0_volatile_want,x_0_volatile_sent,x_0_volatile_rest,x_0_volatile_skip,x_0_volatile_healed,x_0_volatile_est,x_0_volatile_asked,x_0_volatile_out,x_0_volatile_events,now_1)=>mC x_0_c x_0_routes x_0_l x_0_at x_0_volatile_phase x_0_volatile_plan x_0_volatile_cur x_0_volatile_want x_0_volatile_sent x_0_volatile_rest x_0_volatile_skip x_0_volatile_healed x_0_volatile_est x_0_volatile_asked x_0_volatile_out x_0_volatile_events now_1⟩
theorem aer:aL prog 116 acW:=aH mixed (lp:=ek) (aS:=aS) (np:=2) (an:=[(9,{j:=some {vs:=[(6,.so 0),(27,.x (.i .i64))],os:=[.ar iX]},e:=[(.exit 0,{vs:=[(6,.so 0)],os:=[.ar iX]})]}),(13,{e:=[(.normal,{vs:=[(6,.so 0)],os:=[.ar iX],kl:=[88]})]})]) (.cons Xv (.cons Ub .nil)) (by kernel_rfl) (by kernel_rfl)
def mA(x_0_c:aj)(x_0_routes:Sl (Sl (Sl Int)))(x_0_l:Sl ai)(x_0_at:ad)(x_0_volatile_phase:Int)(x_0_volatile_plan:am)(x_0_volatile_cur:Int)(x_0_volatile_want:Mp Int aa)(x_0_volatile_sent:Int)(x_0_volatile_rest:Int)(x_0_volatile_skip:Int)(x_0_volatile_healed:Int)(x_0_volatile_est:Arr 8 ak)(x_0_volatile_asked:Arr 8 Int)(x_0_volatile_out:Sl aa)(x_0_volatile_events:Sl aw)(now_1:Int)(up_2:Int):Option (aj×Sl (Sl (Sl Int))×Sl ai×ad×Int×am×Int×Mp Int aa×Int×Int×Int×Int×Arr 8 ak×Arr 8 Int×Sl aa×Sl aw):=
 (jb x_0_volatile_plan).bind fun(r1,_)=>
 (bif(x_0_volatile_phase==2)then(some x_0_volatile_cur)else
 (some 0):Option Int).bind fun i3=>
 bif((gC .i64 r1 up_2) !=0)then((ik x_0_c x_0_routes x_0_l x_0_at x_0_volatile_phase x_0_volatile_plan x_0_volatile_cur x_0_volatile_want x_0_volatile_sent x_0_volatile_rest x_0_volatile_skip x_0_volatile_healed x_0_volatile_est x_0_volatile_asked x_0_volatile_out x_0_volatile_events now_1 up_2).bind fun(q4,q5,s6,q7,q8,q9,q10,q11,q12,q13,q14,q15,q16,q17,s18,s19)=>
 some (q4,q5,s6,q7,q8,q9,q10,q11,q12,q13,q14,q15,q16,q17,s18,s19))else
 ((bif decide (x_0_volatile_phase<=2)then((cH i3 ((am.aV x_0_volatile_plan).l).length).bind fun n20=>
 some (decide (now_1>=(wr .i64 ((aQ.At (gt ((am.aV x_0_volatile_plan).l) n20))-(aj.Ho x_0_c))))))else
 (some false):Option Bool).bind fun b21=>
 bif b21 then((ik x_0_c x_0_routes x_0_l x_0_at x_0_volatile_phase x_0_volatile_plan x_0_volatile_cur x_0_volatile_want x_0_volatile_sent x_0_volatile_rest x_0_volatile_skip x_0_volatile_healed x_0_volatile_est x_0_volatile_asked x_0_volatile_out x_0_volatile_events now_1 up_2).bind fun(q22,q23,s24,q25,q26,q27,q28,q29,q30,q31,q32,q33,q34,q35,s36,s37)=>
 some (q22,q23,s24,q25,q26,q27,q28,q29,q30,q31,q32,q33,q34,q35,s36,s37))else
 (bif((x_0_volatile_phase==3)&&(decide (now_1>(am.To x_0_volatile_plan))))then((mC x_0_c x_0_routes x_0_l x_0_at x_0_volatile_phase x_0_volatile_plan x_0_volatile_cur x_0_volatile_want x_0_volatile_sent x_0_volatile_rest x_0_volatile_skip x_0_volatile_healed x_0_volatile_est x_0_volatile_asked x_0_volatile_out x_0_volatile_events now_1).bind fun(q38,q39,s40,q41,q42,q43,q44,q45,q46,q47,q48,q49,q50,q51,s52,s53)=>
 some (q38,q39,s40,q41,q42,q43,q44,q45,q46,q47,q48,q49,q50,q51,s52,s53))else
 ((kz x_0_c x_0_routes x_0_l x_0_at x_0_volatile_phase x_0_volatile_plan x_0_volatile_cur x_0_volatile_want x_0_volatile_sent x_0_volatile_rest x_0_volatile_skip x_0_volatile_healed x_0_volatile_est x_0_volatile_asked x_0_volatile_out x_0_volatile_events now_1).bind fun(q54,q55,s56,q57,q58,q59,q60,q61,q62,q63,q64,q65,q66,q67,s68,s69)=>
 some (q54,q55,s56,q57,q58,q59,q60,q61,q62,q63,q64,q65,q66,q67,s68,s69))))
def acV:dG:=⟨[(true,h0),(false,.x (.i .i64)),(false,.x (.i .i64))],[([],[h0])],false,[true,false,false],fun p=>match p with|(x_0_c,x_0_routes,x_0_l,x_0_at,x_0_volatile_phase,x_0_volatile_plan,x_0_volatile_cur,x_0_volatile_want,x_0_volatile_sent,x_0_volatile_rest,x_0_volatile_skip,x_0_volatile_healed,x_0_volatile_est,x_0_volatile_asked,x_0_volatile_out,x_0_volatile_events,now_1,up_2)=>mA x_0_c x_0_routes x_0_l x_0_at x_0_volatile_phase x_0_volatile_plan x_0_volatile_cur x_0_volatile_want x_0_volatile_sent x_0_volatile_rest x_0_volatile_skip x_0_volatile_healed x_0_volatile_est x_0_volatile_asked x_0_volatile_out x_0_volatile_events now_1 up_2⟩
theorem aeq:aL prog 60 acV:=aH mixed (lp:=ek) (aS:=aS) (np:=3) (an:=[(4,{e:=[(.normal,{vs:=[(8,.x (.i .i64))]})]}),(12,{j:=some {vs:=[(41,.x .b)]}})]) (.cons Xv (.cons Ua (.cons aer (.cons aan .nil)))) (by kernel_rfl) (by kernel_rfl)
def jc(x_0_c:aj)(x_0_routes:Sl (Sl (Sl Int)))(x_0_l:Sl ai)(x_0_at:ad)(x_0_volatile_phase:Int)(x_0_volatile_plan:am)(x_0_volatile_cur:Int)(x_0_volatile_want:Mp Int aa)(x_0_volatile_sent:Int)(x_0_volatile_rest:Int)(x_0_volatile_skip:Int)(x_0_volatile_healed:Int)(x_0_volatile_est:Arr 8 ak)(x_0_volatile_asked:Arr 8 Int)(x_0_volatile_out:Sl aa)(x_0_volatile_events:Sl aw)(now_1:Int)(up_2:Int):Option (aj×Sl (Sl (Sl Int))×Sl ai×ad×Int×am×Int×Mp Int aa×Int×Int×Int×Int×Arr 8 ak×Arr 8 Int×Sl aa×Sl aw):=
 (eJ x_0_c x_0_routes x_0_l x_0_at x_0_volatile_phase x_0_volatile_plan x_0_volatile_cur x_0_volatile_want x_0_volatile_sent x_0_volatile_rest x_0_volatile_skip x_0_volatile_healed x_0_volatile_est x_0_volatile_asked x_0_volatile_out x_0_volatile_events).bind fun(r1,q2,q3,s4,q5,q6,q7,q8,q9,q10,q11,q12,q13,q14,q15,s16,s17)=>
 bif(r1==6)then(some (q2,q3,s4,q5,q6,q7,q8,q9,q10,q11,q12,q13,q14,q15,s16,s17))else
 ((mB q2 q3 s4 q5 q6 q7 q8 q9 q10 q11 q12 q13 q14 q15 s16 s17 now_1 up_2).bind fun(q18,q19,s20,q21,q22,q23,q24,q25,q26,q27,q28,q29,q30,q31,s32,s33)=>
 bif(q22==0)then((nU q18 q19 s20 q21 q22 q23 q24 q25 q26 q27 q28 q29 q30 q31 s32 s33 now_1 up_2).bind fun(q34,q35,s36,q37,q38,q39,q40,q41,q42,q43,q44,q45,q46,q47,s48,s49)=>
 some (q34,q35,s36,q37,q38,q39,q40,q41,q42,q43,q44,q45,q46,q47,s48,s49))else
 (bif(q22==5)then((nV q18 q19 s20 q21 q22 q23 q24 q25 q26 q27 q28 q29 q30 q31 s32 s33 now_1 up_2).bind fun(q50,q51,s52,q53,q54,q55,q56,q57,q58,q59,q60,q61,q62,q63,s64,s65)=>
 some (q50,q51,s52,q53,q54,q55,q56,q57,q58,q59,q60,q61,q62,q63,s64,s65))else
 ((mA q18 q19 s20 q21 q22 q23 q24 q25 q26 q27 q28 q29 q30 q31 s32 s33 now_1 up_2).bind fun(q66,q67,s68,q69,q70,q71,q72,q73,q74,q75,q76,q77,q78,q79,s80,s81)=>
 some (q66,q67,s68,q69,q70,q71,q72,q73,q74,q75,q76,q77,q78,q79,s80,s81))))
def Z9:dG:=⟨[(true,h0),(false,.x (.i .i64)),(false,.x (.i .i64))],[([],[h0])],false,[true,false,false],fun p=>match p with|(x_0_c,x_0_routes,x_0_l,x_0_at,x_0_volatile_phase,x_0_volatile_plan,x_0_volatile_cur,x_0_volatile_want,x_0_volatile_sent,x_0_volatile_rest,x_0_volatile_skip,x_0_volatile_healed,x_0_volatile_est,x_0_volatile_asked,x_0_volatile_out,x_0_volatile_events,now_1,up_2)=>jc x_0_c x_0_routes x_0_l x_0_at x_0_volatile_phase x_0_volatile_plan x_0_volatile_cur x_0_volatile_want x_0_volatile_sent x_0_volatile_rest x_0_volatile_skip x_0_volatile_healed x_0_volatile_est x_0_volatile_asked x_0_volatile_out x_0_volatile_events now_1 up_2⟩
theorem Wg:aL prog 24 Z9:=aH mixed (lp:=ek) (aS:=aS) (np:=3) (an:=[]) (.cons QU (.cons aeC (.cons aeB (.cons aes (.cons aeq .nil))))) (by kernel_rfl) (by kernel_rfl)
def FF(kind_0:Int):Option Int:=
 bif(kind_0==1)then(some 1)else
 (bif(kind_0==2)then(some 7)else
 (bif(kind_0==3)then(some 152)else
 (bif(kind_0==4)then(some 26)else
 (bif(kind_0==5)then(some 24)else
 (bif(kind_0==6)then(some 72)else
 (bif(kind_0==7)then(some 60)else
 (bif(kind_0==8)then(some 124)else
 (some 0))))))))
def Z8:dG:=⟨[(false,.x (.i .i64))],[([.x (.i .i64)],[])],true,[],fun p=>match p with|kind_0=>FF kind_0⟩
theorem abM:aL prog 119 Z8:=aH mixed (lp:=ek) (aS:=aS) (np:=1) (an:=[]) .nil (by kernel_rfl) (by kernel_rfl)
theorem Wm:Fk prog 119 (VT [(1,1),(2,7),(3,152),(4,26),(5,24),(6,72),(7,60),(8,124)] 0):=PI (fn:=FF) (ro:=true) abM fun x=>rfl
def fY(n_0:Int)(from_1:Int)(to_2:Int):Option Bool:=some ((decide (n_0>=from_1))&&(decide (n_0<=to_2)))
def Z7:dG:=⟨[(false,.x (.i .i64)),(false,.x (.i .i64)),(false,.x (.i .i64))],[([.x .b],[])],true,[],fun p=>match p with|(n_0,from_1,to_2)=>fY n_0 from_1 to_2⟩
theorem Wf:aL prog 120 Z7:=aH mixed (lp:=ek) (aS:=aS) (np:=3) (an:=[]) .nil (by kernel_rfl) (by kernel_rfl)
def rV(m_0:aa):Option aa:=
 bif((aa.cY m_0)==1)then(some (⟨aa.cY m_0,aa.Sw m_0,0,0,aa.T1 m_0,0,0,0,0,Sl.nil⟩:aa))else
 (bif((aa.cY m_0)==2)then(some (⟨aa.cY m_0,aa.Sw m_0,0,0,aa.T1 m_0,aa.T2 m_0,aa.yG m_0,0,0,Sl.nil⟩:aa))else
 (bif((aa.cY m_0)==3)then(some (⟨aa.cY m_0,aa.Sw m_0,aa.U m_0,aa.Rd m_0,0,0,0,0,0,aa.ny m_0⟩:aa))else
 (bif((aa.cY m_0)==4)then(some (⟨aa.cY m_0,aa.Sw m_0,aa.U m_0,aa.Rd m_0,0,aa.T2 m_0,0,0,0,Sl.nil⟩:aa))else
 (bif((aa.cY m_0)==5)then(some (⟨aa.cY m_0,aa.Sw m_0,aa.U m_0,aa.Rd m_0,0,0,0,0,0,Sl.nil⟩:aa))else
 (bif((aa.cY m_0)==6)then(some (⟨aa.cY m_0,aa.Sw m_0,aa.U m_0,0,0,0,0,0,aa.Code m_0,Sl.nil⟩:aa))else
 (bif((aa.cY m_0)==7)then(some (⟨aa.cY m_0,aa.Sw m_0,aa.U m_0,aa.Rd m_0,0,0,aa.yG m_0,aa.Of m_0,0,Sl.nil⟩:aa))else
 (bif((aa.cY m_0)==8)then(some (⟨aa.cY m_0,aa.Sw m_0,aa.U m_0,aa.Rd m_0,0,0,aa.yG m_0,aa.Of m_0,aa.Code m_0,Sl.nil⟩:aa))else
 (some (⟨aa.cY m_0,aa.Sw m_0,0,0,0,0,0,0,0,Sl.nil⟩:aa)))))))))
def Z6:dG:=⟨[(false,.x iX)],[([.x iX],[])],false,[],fun p=>match p with|m_0=>rV m_0⟩
theorem abL:aL prog 122 Z6:=aH mixed (lp:=ek) (aS:=aek) (np:=1) (an:=[(7,{u:=12})]) (.Rz @Wm .nil) (by kernel_rfl) (by kernel_rfl)
def Ag(a_0:bT)(b_1:bT):Option Bool:=some (((bT.LB a_0)==(bT.LB b_1))&&(decide ((bT.M a_0)=(bT.M b_1))))
def Z5:dG:=⟨[(false,.x VR),(false,.x VR)],[([.x .b],[])],true,[],fun p=>match p with|(a_0,b_1)=>Ag a_0 b_1⟩
theorem abK:aL prog 277 Z5:=aH mixed (lp:=ek) (aS:=aS) (np:=2) (an:=[]) .nil (by kernel_rfl) (by kernel_rfl)
def gT(s1_0:Sl cI)(s2_1:Sl cI):Int->Option (Int⊕(Bool⊕Unit)):=fun i2=>
 bif decide (i2<(s1_0.l.length:Int))then((cH i2 s1_0.l.length).bind fun n3=>
 (cH i2 s2_1.l.length).bind fun n4=>
 bif(!(decide ((gt s1_0.l n3)=(gt s2_1.l n4))))then(some (.inr (.inl false)))else
 (some (.inl (wr .i64 (i2+1)))))else
 (some (.inr (.inr ())))
def eT(s1_0:Sl cI)(s2_1:Sl cI):Option Bool:=
 bif((s1_0.l.length:Int) !=(s2_1.l.length:Int))then(some false)else
 ((aU (gT s1_0 s2_1) 0).bind fun
 |.inl b5=>(some b5)
 |.inr _=>(some true))
def Z4:dG:=⟨[(false,.x (.sl y3)),(false,.x (.sl y3))],[([.x .b],[])],true,[],fun p=>match p with|(s1_0,s2_1)=>eT s1_0 s2_1⟩
theorem abJ:aL prog 322 Z4:=aH mixed (lp:=ek) (aS:=aS) (np:=2) (an:=[(10,{j:=some {vs:=[(13,.x (.i .i64))]},e:=[(.ret,{vs:=[(4,.x .b)]}),(.exit 0,{})]})]) .nil (by kernel_rfl) (by kernel_rfl)
def vU(a_0:Sl cI)(b_1:Sl cI):Option Bool:=
 (eT a_0 b_1).bind fun r1=>
 some r1
def Z3:dG:=⟨[(false,.x (.sl y3)),(false,.x (.sl y3))],[([.x .b],[])],true,[],fun p=>match p with|(a_0,b_1)=>vU a_0 b_1⟩
theorem abI:aL prog 278 Z3:=aH mixed (lp:=ek) (aS:=aS) (np:=2) (an:=[]) (.cons abJ .nil) (by kernel_rfl) (by kernel_rfl)
def vA(a_0:bT)(b_1:bT):Option Bool:=
 ((Ag a_0 b_1).bind fun r1=>
 bif r1 then((vU (bT.CL a_0) (bT.CL b_1)).bind fun r2=>
 some r2)else
 (some false):Option Bool).bind fun b3=>
 some b3
def Z2:dG:=⟨[(false,.x VR),(false,.x VR)],[([.x .b],[])],true,[],fun p=>match p with|(a_0,b_1)=>vA a_0 b_1⟩
theorem abH:aL prog 240 Z2:=aH mixed (lp:=ek) (aS:=aS) (np:=2) (an:=[(3,{j:=some {vs:=[(4,.x .b)]}})]) (.cons abK (.cons abI .nil)) (by kernel_rfl) (by kernel_rfl)
def kU(a_0:aY)(b_1:aY):Option Bool:=
 (bif(((aY.cY a_0)==(aY.cY b_1))&&((aY.Nc a_0)==(aY.Nc b_1)))then((vA (aY.R a_0) (aY.R b_1)).bind fun r1=>
 some r1)else
 (some false):Option Bool).bind fun b2=>
 some b2
def Z1:dG:=⟨[(false,.x LJ),(false,.x LJ)],[([.x .b],[])],true,[],fun p=>match p with|(a_0,b_1)=>kU a_0 b_1⟩
theorem abG:aL prog 181 Z1:=aH mixed (lp:=ek) (aS:=aS) (np:=2) (an:=[(3,{j:=some {vs:=[(4,.x .b)]}})]) (.cons abH .nil) (by kernel_rfl) (by kernel_rfl)
def bI(s1_0:Sl aY)(s2_1:Sl aY):Int->Option (Int⊕(Bool⊕Unit)):=fun i2=>
 bif decide (i2<(s1_0.l.length:Int))then((cH i2 s1_0.l.length).bind fun n3=>
 (cH i2 s2_1.l.length).bind fun n4=>
 (kU (gt s1_0.l n3) (gt s2_1.l n4)).bind fun r5=>
 bif(!r5)then(some (.inr (.inl false)))else
 (some (.inl (wr .i64 (i2+1)))))else
 (some (.inr (.inr ())))
def bm(s1_0:Sl aY)(s2_1:Sl aY):Option Bool:=
 bif((s1_0.l.length:Int) !=(s2_1.l.length:Int))then(some false)else
 ((aU (bI s1_0 s2_1) 0).bind fun
 |.inl b6=>(some b6)
 |.inr _=>(some true))
def Z0:dG:=⟨[(false,.x (.sl LJ)),(false,.x (.sl LJ)),(false,.fn 181 .ni)],[([.x .b],[])],true,[],fun p=>match p with|(s1_0,s2_1)=>bm s1_0 s2_1⟩
theorem abF:aL prog 180 Z0:=aH mixed (lp:=ek) (aS:=aS) (np:=3) (an:=[(10,{j:=some {vs:=[(17,.x (.i .i64))]},e:=[(.ret,{vs:=[(6,.x .b)]}),(.exit 0,{})]})]) (.cons abG .nil) (by kernel_rfl) (by kernel_rfl)
def ri(a_0:aa)(b_1:aa):Option Bool:=
 (bif((((((((((aa.cY a_0)==(aa.cY b_1))&&((aa.Sw a_0)==(aa.Sw b_1)))&&((aa.U a_0)==(aa.U b_1)))&&((aa.Rd a_0)==(aa.Rd b_1)))&&((aa.T1 a_0)==(aa.T1 b_1)))&&((aa.T2 a_0)==(aa.T2 b_1)))&&((aa.yG a_0)==(aa.yG b_1)))&&((aa.Of a_0)==(aa.Of b_1)))&&((aa.Code a_0)==(aa.Code b_1)))then((bm (aa.ny a_0) (aa.ny b_1)).bind fun r1=>
 some r1)else
 (some false):Option Bool).bind fun b2=>
 some b2
def ZZ:dG:=⟨[(false,.x iX),(false,.x iX)],[([.x .b],[])],true,[],fun p=>match p with|(a_0,b_1)=>ri a_0 b_1⟩
theorem abE:aL prog 121 ZZ:=aH mixed (lp:=ek) (aS:=aS) (np:=2) (an:=[(3,{j:=some {vs:=[(4,.x .b)]}})]) (.cons abF .nil) (by kernel_rfl) (by kernel_rfl)
def uF(f_0:Int):Option Int:=
 (bif(f_0==0)then(some (f_0==0))else
 (bif(f_0==1)then(some (f_0==1))else
 (some (f_0==3))):Option Bool).bind fun b1=>
 bif b1 then(some 8)else
 (bif(f_0==2)then(some 4)else
 (some 0))
def ZY:dG:=⟨[(false,.x (.i .i64))],[([.x (.i .i64)],[])],true,[],fun p=>match p with|f_0=>uF f_0⟩
theorem abD:aL prog 323 ZY:=aH mixed (lp:=ek) (aS:=aS) (np:=1) (an:=[(5,{e:=[(.normal,{vs:=[(4,.x .b)]})]})]) .nil (by kernel_rfl) (by kernel_rfl)
def lG(f_0:Int):Option Int:=
 (uF f_0).bind fun r1=>
 (zd .i64 1 r1).bind fun i2=>
 some (wr .i64 (i2-1))
def ZX:dG:=⟨[(false,.x (.i .i64))],[([.x (.i .i64)],[])],true,[],fun p=>match p with|f_0=>lG f_0⟩
theorem QW:aL prog 279 ZX:=aH mixed (lp:=ek) (aS:=aS) (np:=1) (an:=[]) (.cons abD .nil) (by kernel_rfl) (by kernel_rfl)
def qn(m_0:cz):Int->Option (Int⊕(Bool⊕Unit)):=fun i2=>
 bif decide (i2<4)then((cH i2 4).bind fun n3=>
 (bif decide ((gt ((cz.LC m_0).1) n3)<0)then(some true)else
 ((lG i2).bind fun r4=>
 bif decide ((gt ((cz.LC m_0).1) n3)>r4)then(some true)else
 ((cH i2 4).bind fun n5=>
 bif decide ((gt ((cz.Val m_0).1) n5)<0)then(some true)else
 ((cH i2 4).bind fun n6=>
 some ((gC .i64 (gt ((cz.Val m_0).1) n6) (gt ((cz.LC m_0).1) n3)) !=0)))):Option Bool).bind fun b7=>
 bif b7 then(some (.inr (.inl false)))else
 (some (.inl (wr .i64 (i2+1)))))else
 (some (.inr (.inr ())))
def pN(m_0:cz):Option Bool:=
 bif((decide ((cz.gk m_0)<(-1)))||(decide ((cz.gk m_0)>=8)))then(some false)else
 ((aU (qn m_0) 0).bind fun
 |.inl b8=>(some b8)
 |.inr _=>(some true))
def ZW:dG:=⟨[(false,.x WN)],[([.x .b],[])],true,[],fun p=>match p with|m_0=>pN m_0⟩
theorem abC:aL prog 241 ZW:=aH mixed (lp:=ek) (aS:=aS) (np:=1) (an:=[(10,{j:=some {vs:=[(15,.x (.i .i64))]},e:=[(.ret,{vs:=[(2,.x .b)]}),(.exit 0,{})]}),(18,{j:=some {vs:=[(42,.x .b)]}})]) (.cons QW .nil) (by kernel_rfl) (by kernel_rfl)
set_option synthInstance.maxSize 1000 in
def yo(a_0:cI)(ports_1:Int):Option Bool:=
 bif((cI.cY a_0)==1)then((bif(((decide ((cI.F a_0)>=0))&&(decide ((cI.F a_0)<4)))&&(decide ((cI.V a_0)>=0)))then((lG (cI.F a_0)).bind fun r1=>
 some (decide ((cI.V a_0)<=r1)))else
 (some false):Option Bool).bind fun b2=>
 some b2)else
 (bif((cI.cY a_0)==2)then(some ((((cI.F a_0)==0)&&(decide ((cI.V a_0)>=0)))&&(decide ((cI.V a_0)<ports_1))))else
 (some (decide (a_0=(⟨3,0,0⟩:cI)))))
def ZV:dG:=⟨[(false,.x y3),(false,.x (.i .i64))],[([.x .b],[])],true,[],fun p=>match p with|(a_0,ports_1)=>yo a_0 ports_1⟩
theorem abB:aL prog 282 ZV:=aH mixed (lp:=ek) (aS:=aS) (np:=2) (an:=[(8,{j:=some {vs:=[(4,.x .b)]}})]) (.cons QW .nil) (by kernel_rfl) (by kernel_rfl)
def uO(a_0:cI)(c_1:Int):Option Bool:=
 (yo a_0 c_1).bind fun r1=>
 some (!r1)
def ZU:dG:=⟨[(false,.x y3),(false,.pt (.i .i64))],[([.x .b],[])],true,[],fun p=>match p with|(a_0,c_1)=>uO a_0 c_1⟩
theorem abA:aL prog 281 ZU:=aH mixed (lp:=ek) (aS:=aS) (np:=2) (an:=[]) (.cons abB .nil) (by kernel_rfl) (by kernel_rfl)
def ei(s_0:Sl cI)(f_1_c0:Int):Int->Option (Int⊕(Int⊕Unit)):=fun i2=>
 bif decide (i2<(s_0.l.length:Int))then((cH i2 s_0.l.length).bind fun n3=>
 (uO (gt s_0.l n3) f_1_c0).bind fun r4=>
 bif r4 then(some (.inr (.inl i2)))else
 (some (.inl (wr .i64 (i2+1)))))else
 (some (.inr (.inr ())))
def cK(s_0:Sl cI)(f_1_c0:Int):Option Int:=
 (aU (ei s_0 f_1_c0) 0).bind fun
 |.inl i5=>(some i5)
 |.inr _=>(some (-1))
def ZT:dG:=⟨[(false,.x (.sl y3)),(false,.fn 281 (.pr (.pt (.i .i64)) .ni))],[([.x (.i .i64)],[])],true,[],fun p=>match p with|(s_0,f_1_c0)=>cK s_0 f_1_c0⟩
theorem abz:aL prog 324 ZT:=aH mixed (lp:=ek) (aS:=aS) (np:=2) (an:=[(5,{j:=some {vs:=[(8,.x (.i .i64))]},e:=[(.ret,{vs:=[(4,.x (.i .i64))]}),(.exit 0,{})]})]) (.cons abA .nil) (by kernel_rfl) (by kernel_rfl)
def cw(s_0:Sl cI)(f_1_c0:Int):Option Bool:=
 (cK s_0 f_1_c0).bind fun r1=>
 some (decide (r1>=0))
def ZS:dG:=⟨[(false,.x (.sl y3)),(false,.fn 281 (.pr (.pt (.i .i64)) .ni))],[([.x .b],[])],true,[],fun p=>match p with|(s_0,f_1_c0)=>cw s_0 f_1_c0⟩
theorem aby:aL prog 280 ZS:=aH mixed (lp:=ek) (aS:=aS) (np:=2) (an:=[]) (.cons abz .nil) (by kernel_rfl) (by kernel_rfl)
def tA(l_0:Sl cI)(ports_1:Int):Option Bool:=
 (bif decide ((l_0.l.length:Int)<=16)then((cw l_0 ports_1).bind fun r1=>
 some (!r1))else
 (some false):Option Bool).bind fun b2=>
 some b2
def ZR:dG:=⟨[(false,.x (.sl y3)),(false,.x (.i .i64))],[([.x .b],[])],true,[],fun p=>match p with|(l_0,ports_1)=>tA l_0 ports_1⟩
theorem abx:aL prog 242 ZR:=aH mixed (lp:=ek) (aS:=aS) (np:=2) (an:=[(3,{j:=some {vs:=[(4,.x .b)]}})]) (.cons aby .nil) (by kernel_rfl) (by kernel_rfl)
def qZ(x_0:bT)(ports_1:Int):Option Bool:=
 (bif((decide ((bT.LB x_0)>=0))&&(decide ((bT.LB x_0)<65536)))then((pN (bT.M x_0)).bind fun r1=>
 bif r1 then((tA (bT.CL x_0) ports_1).bind fun r2=>
 some r2)else
 (some false))else
 (some false):Option Bool).bind fun b3=>
 some b3
def ZQ:dG:=⟨[(false,.x VR),(false,.x (.i .i64))],[([.x .b],[])],true,[],fun p=>match p with|(x_0,ports_1)=>qZ x_0 ports_1⟩
theorem abw:aL prog 183 ZQ:=aH mixed (lp:=ek) (aS:=aS) (np:=2) (an:=[(3,{j:=some {vs:=[(4,.x .b)]}})]) (.cons abC (.cons abx .nil)) (by kernel_rfl) (by kernel_rfl)
def nJ(m_0:aY):Option Bool:=
 ((fY (aY.cY m_0) 1 5).bind fun r1=>
 bif r1 then((qZ (aY.R m_0) 8).bind fun r2=>
 some r2)else
 (some false):Option Bool).bind fun b3=>
 some b3
def ZP:dG:=⟨[(false,.x LJ)],[([.x .b],[])],true,[],fun p=>match p with|m_0=>nJ m_0⟩
theorem abv:aL prog 125 ZP:=aH mixed (lp:=ek) (aS:=aS) (np:=1) (an:=[(3,{j:=some {vs:=[(2,.x .b)]}})]) (.cons Wf (.cons abw .nil)) (by kernel_rfl) (by kernel_rfl)
def mw(x_0:aY):Option Bool:=
 (nJ x_0).bind fun r1=>
 some (!r1)
def ZO:dG:=⟨[(false,.x LJ)],[([.x .b],[])],true,[],fun p=>match p with|x_0=>mw x_0⟩
theorem abu:aL prog 124 ZO:=aH mixed (lp:=ek) (aS:=aS) (np:=1) (an:=[]) (.cons abv .nil) (by kernel_rfl) (by kernel_rfl)
def cR(s_0:Sl aY):Int->Option (Int⊕(Int⊕Unit)):=fun i2=>
 bif decide (i2<(s_0.l.length:Int))then((cH i2 s_0.l.length).bind fun n3=>
 (mw (gt s_0.l n3)).bind fun r4=>
 bif r4 then(some (.inr (.inl i2)))else
 (some (.inl (wr .i64 (i2+1)))))else
 (some (.inr (.inr ())))
def cD(s_0:Sl aY):Option Int:=
 (aU (cR s_0) 0).bind fun
 |.inl i5=>(some i5)
 |.inr _=>(some (-1))
def ZN:dG:=⟨[(false,.x (.sl LJ)),(false,.fn 124 .ni)],[([.x (.i .i64)],[])],true,[],fun p=>match p with|s_0=>cD s_0⟩
theorem abt:aL prog 182 ZN:=aH mixed (lp:=ek) (aS:=aS) (np:=2) (an:=[(5,{j:=some {vs:=[(8,.x (.i .i64))]},e:=[(.ret,{vs:=[(4,.x (.i .i64))]}),(.exit 0,{})]})]) (.cons abu .nil) (by kernel_rfl) (by kernel_rfl)
def bG(s_0:Sl aY):Option Bool:=
 (cD s_0).bind fun r1=>
 some (decide (r1>=0))
def ZM:dG:=⟨[(false,.x (.sl LJ)),(false,.fn 124 .ni)],[([.x .b],[])],true,[],fun p=>match p with|s_0=>bG s_0⟩
theorem abr:aL prog 123 ZM:=aH mixed (lp:=ek) (aS:=aS) (np:=2) (an:=[]) (.cons abt .nil) (by kernel_rfl) (by kernel_rfl)
def pK(m_0:aa):Option Bool:=
 (bif((aa.cY m_0)==1)then(some 1)else
 (bif((aa.cY m_0)==2)then(some 7)else
 (bif((aa.cY m_0)==3)then(some 152)else
 (bif((aa.cY m_0)==4)then(some 26)else
 (bif((aa.cY m_0)==5)then(some 24)else
 (bif((aa.cY m_0)==6)then(some 72)else
 (bif((aa.cY m_0)==7)then(some 60)else
 (bif((aa.cY m_0)==8)then(some 124)else
 (some 0)))))))):Option Int).bind fun i1=>
 (bif(i1==0)then(some true)else
 ((fY (aa.Sw m_0) 0 7).bind fun r2=>
 bif(!r2)then(some true)else
 ((rV m_0).bind fun r3=>
 (ri r3 m_0).bind fun r4=>
 some (!r4))):Option Bool).bind fun b5=>
 bif b5 then(some false)else
 ((bif((((aa.cY m_0)==5)||((aa.cY m_0)==7))||((aa.cY m_0)==8))then(some (-1))else
 (some 0):Option Int).bind fun i6=>
 ((fY (aa.T1 m_0) 0 1125899906842624).bind fun r7=>
 bif(!r7)then(some true)else
 ((fY (aa.T2 m_0) (-1125899906842624) 1125899906842624).bind fun r8=>
 bif(!r8)then(some true)else
 ((fY (aa.yG m_0) 0 65535).bind fun r9=>
 some (!r9))):Option Bool).bind fun b10=>
 bif b10 then(some false)else
 (((bif((qO .i64 i1 8) !=0)then((fY (aa.U m_0) 1 65535).bind fun r11=>
 some (!r11))else
 (some false):Option Bool).bind fun b12=>
 bif b12 then(some b12)else
 ((bif((qO .i64 i1 16) !=0)then((fY (aa.Rd m_0) i6 7).bind fun r13=>
 some (!r13))else
 (some false):Option Bool).bind fun b14=>
 bif b14 then(some b14)else
 ((bif((qO .i64 i1 32) !=0)then((fY (aa.Of m_0) 3 6).bind fun r15=>
 some (!r15))else
 (some false):Option Bool).bind fun b16=>
 some b16)):Option Bool).bind fun b17=>
 bif b17 then(some false)else
 ((fY (aa.Code m_0) 0 255).bind fun r18=>
 bif((!r18)||(decide ((((aa.ny m_0).l).length:Int)>16)))then(some false)else
 ((bG (aa.ny m_0)).bind fun r19=>
 some (!r19)))))
def ZL:dG:=⟨[(false,.x iX)],[([.x .b],[])],true,[],fun p=>match p with|m_0=>pK m_0⟩
theorem abq:aL prog 63 ZL:=aH mixed (lp:=ek) (aS:=aS) (np:=1) (an:=[(3,{j:=some {vs:=[(3,.x (.i .i64))]}}),(6,{j:=some {vs:=[(22,.x .b)]}}),(11,{e:=[(.normal,{vs:=[(4,.x (.i .i64))]})]}),(17,{j:=some {vs:=[(36,.x .b)]}}),(20,{e:=[(.normal,{vs:=[(53,.x .b)]})]}),(22,{j:=some {vs:=[(53,.x .b)]}}),(24,{j:=some {vs:=[(53,.x .b)]}}),(25,{j:=some {vs:=[(53,.x .b)]}})]) (.Rz @Wm (.cons Wf (.cons abL (.cons abE (.cons abr .nil))))) (by kernel_rfl) (by kernel_rfl)
def v7(t1_0:Int)(t2_1:Int)(t4_2:Int)(most_3:Int):Option bA:=
 (r_ (wr .i64 (t4_2-t1_0)) most_3).bind fun r1=>
 (tF (⟨wr .i64 (t2_1-t4_2),wr .i64 (t2_1-t1_0)⟩:bA) r1).bind fun r2=>
 some r2
def ZK:dG:=⟨[(false,.x (.i .i64)),(false,.x (.i .i64)),(false,.x (.i .i64)),(false,.x (.i .i64))],[([.x y0],[])],true,[],fun p=>match p with|(t1_0,t2_1,t4_2,most_3)=>v7 t1_0 t2_1 t4_2 most_3⟩
theorem abp:aL prog 126 ZK:=aH mixed (lp:=ek) (aS:=aS) (np:=4) (an:=[]) (.cons aax (.cons aav .nil)) (by kernel_rfl) (by kernel_rfl)
def yb(a_0:bA)(b_1:bA):Option bA:=
 (jh a_0).bind fun r1=>
 (jh b_1).bind fun r2=>
 (jh (⟨(if(bA.Lo r2)>(bA.Lo r1)then(bA.Lo r2)else(bA.Lo r1)),(if(bA.Hi r2)<(bA.Hi r1)then(bA.Hi r2)else(bA.Hi r1))⟩:bA)).bind fun r3=>
 some r3
def ZJ:dG:=⟨[(false,.x y0),(false,.x y0)],[([.x y0],[])],true,[],fun p=>match p with|(a_0,b_1)=>yb a_0 b_1⟩
theorem abo:aL prog 127 ZJ:=aH mixed (lp:=ek) (aS:=aS) (np:=2) (an:=[]) (.cons QT .nil) (by kernel_rfl) (by kernel_rfl)
def vw(e_0:ak)(t1_1:Int)(t2_2:Int)(t4_3:Int)(most_4:Int):Option (ak×Int):=
 bif(((((decide (t1_1<0))||(decide (t4_3<t1_1)))||(decide (t4_3>1099511627776)))||(decide (t2_2<(-1125899906842624))))||(decide (t2_2>1125899906842624)))then(some (e_0,2))else
 (bif((ak.M_ e_0)&&(decide (t4_3<(ak.At e_0))))then(some (e_0,2))else
 ((v7 t1_1 t2_2 t4_3 most_4).bind fun r1=>
 (bif ak.M_ e_0 then((z_ e_0 t4_3 most_4).bind fun r2=>
 (yb r1 r2).bind fun r3=>
 some r3)else
 (some r1):Option bA).bind fun x4=>
 (pm x4).bind fun r5=>
 bif r5 then(some (e_0,16))else
 (some ((⟨true,x4,t4_3⟩:ak),0))))
def ZI:dG:=⟨[(false,.x y5),(false,.x (.i .i64)),(false,.x (.i .i64)),(false,.x (.i .i64)),(false,.x (.i .i64))],[([.x y5,.x (.i .i64)],[])],true,[],fun p=>match p with|(e_0,t1_1,t2_2,t4_3,most_4)=>vw e_0 t1_1 t2_2 t4_3 most_4⟩
theorem abn:aL prog 64 ZI:=aH mixed (lp:=ek) (aS:=aS) (np:=5) (an:=[(13,{e:=[(.normal,{vs:=[(12,.op 0 y0 [])],os:=[.bx y0 (.x y0)],kl:=[4]})]})]) (.cons abp (.cons aau (.cons abo (.cons Uc .nil)))) (by kernel_rfl) (by kernel_rfl)
def jt(x_0_c:aj)(x_0_routes:Sl (Sl (Sl Int)))(x_0_l:Sl ai)(x_0_at:ad)(x_0_volatile_phase:Int)(x_0_volatile_plan:am)(x_0_volatile_cur:Int)(x_0_volatile_want:Mp Int aa)(x_0_volatile_sent:Int)(x_0_volatile_rest:Int)(x_0_volatile_skip:Int)(x_0_volatile_healed:Int)(x_0_volatile_est:Arr 8 ak)(x_0_volatile_asked:Arr 8 Int)(x_0_volatile_out:Sl aa)(x_0_volatile_events:Sl aw)(m_1:aa):Option (Bool×aj×Sl (Sl (Sl Int))×Sl ai×ad×Int×am×Int×Mp Int aa×Int×Int×Int×Int×Arr 8 ak×Arr 8 Int×Sl aa×Sl aw):=
 (sX (aa.Rd m_1) (aa.Sw m_1)).bind fun r1=>
 (bif((DN x_0_volatile_want r1)&&((aa.cY (kF x_0_volatile_want (⟨0,0,0,0,0,0,0,0,0,Sl.nil⟩:aa) r1))==(aa.Of m_1)))then(some ((((decide (x_0_volatile_phase>=1))&&(decide (x_0_volatile_phase<=2)))||(x_0_volatile_phase==4))||(x_0_volatile_phase==5)))else
 (some false):Option Bool).bind fun b2=>
 some (b2,x_0_c,x_0_routes,x_0_l,x_0_at,x_0_volatile_phase,x_0_volatile_plan,x_0_volatile_cur,x_0_volatile_want,x_0_volatile_sent,x_0_volatile_rest,x_0_volatile_skip,x_0_volatile_healed,x_0_volatile_est,x_0_volatile_asked,x_0_volatile_out,x_0_volatile_events)
def ZH:dG:=⟨[(true,h0),(false,.x iX)],[([.x .b],[h0])],false,[true,false],fun p=>match p with|(x_0_c,x_0_routes,x_0_l,x_0_at,x_0_volatile_phase,x_0_volatile_plan,x_0_volatile_cur,x_0_volatile_want,x_0_volatile_sent,x_0_volatile_rest,x_0_volatile_skip,x_0_volatile_healed,x_0_volatile_est,x_0_volatile_asked,x_0_volatile_out,x_0_volatile_events,m_1)=>jt x_0_c x_0_routes x_0_l x_0_at x_0_volatile_phase x_0_volatile_plan x_0_volatile_cur x_0_volatile_want x_0_volatile_sent x_0_volatile_rest x_0_volatile_skip x_0_volatile_healed x_0_volatile_est x_0_volatile_asked x_0_volatile_out x_0_volatile_events m_1⟩
theorem We:aL prog 66 ZH:=aH mixed (lp:=ek) (aS:=aS) (np:=2) (an:=[(5,{j:=some {vs:=[(4,.x .b)]}})]) (.cons Xx .nil) (by kernel_rfl) (by kernel_rfl)
def mE(x_0_c:aj)(x_0_routes:Sl (Sl (Sl Int)))(x_0_l:Sl ai)(x_0_at:ad)(x_0_volatile_phase:Int)(x_0_volatile_plan:am)(x_0_volatile_cur:Int)(x_0_volatile_want:Mp Int aa)(x_0_volatile_sent:Int)(x_0_volatile_rest:Int)(x_0_volatile_skip:Int)(x_0_volatile_healed:Int)(x_0_volatile_est:Arr 8 ak)(x_0_volatile_asked:Arr 8 Int)(x_0_volatile_out:Sl aa)(x_0_volatile_events:Sl aw)(now_1:Int)(m_2:aa)(up_3:Int):Option (aj×Sl (Sl (Sl Int))×Sl ai×ad×Int×am×Int×Mp Int aa×Int×Int×Int×Int×Arr 8 ak×Arr 8 Int×Sl aa×Sl aw):=
 bif(x_0_volatile_phase==0)then((bif(((aa.Of m_2)==5)&&((aa.Rd m_2)==(-1)))then((yt .i64 (ad.oD x_0_at) (aa.Sw m_2)).bind fun i1=>
 some ((qO .i64 i1 1)==1))else
 (some false):Option Bool).bind fun b2=>
 bif b2 then((eI x_0_c x_0_routes x_0_l x_0_at x_0_volatile_phase x_0_volatile_plan x_0_volatile_cur x_0_volatile_want x_0_volatile_sent x_0_volatile_rest x_0_volatile_skip x_0_volatile_healed x_0_volatile_est x_0_volatile_asked x_0_volatile_out x_0_volatile_events 7 (ad.U x_0_at) (aa.Sw m_2) 0).bind fun(q3,q4,s5,q6,q7,q8,q9,q10,q11,q12,q13,q14,q15,q16,s17,s18)=>
 (fQ q3 q4 s5 q6 q7 q8 q9 q10 q11 q12 q13 q14 q15 q16 s17 s18 now_1 11 (aa.Sw m_2) 0 0).bind fun(q19,q20,s21,q22,q23,q24,q25,q26,q27,q28,q29,q30,q31,q32,s33,s34)=>
 some (q19,q20,s21,q22,q23,q24,q25,q26,q27,q28,q29,q30,q31,q32,s33,s34))else
 (some (x_0_c,x_0_routes,x_0_l,x_0_at,x_0_volatile_phase,x_0_volatile_plan,x_0_volatile_cur,x_0_volatile_want,x_0_volatile_sent,x_0_volatile_rest,x_0_volatile_skip,x_0_volatile_healed,x_0_volatile_est,x_0_volatile_asked,x_0_volatile_out,x_0_volatile_events)))else
 ((jt x_0_c x_0_routes x_0_l x_0_at x_0_volatile_phase x_0_volatile_plan x_0_volatile_cur x_0_volatile_want x_0_volatile_sent x_0_volatile_rest x_0_volatile_skip x_0_volatile_healed x_0_volatile_est x_0_volatile_asked x_0_volatile_out x_0_volatile_events m_2).bind fun(r35,q36,q37,s38,q39,q40,q41,q42,q43,q44,q45,q46,q47,q48,q49,s50,s51)=>
 bif(!r35)then(some (q36,q37,s38,q39,q40,q41,q42,q43,q44,q45,q46,q47,q48,q49,s50,s51))else
 ((sX (aa.Rd m_2) (aa.Sw m_2)).bind fun r52=>
 bif(((tQ q43 r52).es.length:Int)==0)then((lO q36 q37 s38 q39 q40 q41 q42 (tQ q43 r52) q44 q45 q46 q47 q48 q49 s50 s51 now_1 up_3).bind fun(q53,q54,s55,q56,q57,q58,q59,q60,q61,q62,q63,q64,q65,q66,s67,s68)=>
 some (q53,q54,s55,q56,q57,q58,q59,q60,q61,q62,q63,q64,q65,q66,s67,s68))else
 (some (q36,q37,s38,q39,q40,q41,q42,(tQ q43 r52),q44,q45,q46,q47,q48,q49,s50,s51))))
def ZG:dG:=⟨[(true,h0),(false,.x (.i .i64)),(false,.x iX),(false,.x (.i .i64))],[([],[h0])],false,[true,false,false,false],fun p=>match p with|(x_0_c,x_0_routes,x_0_l,x_0_at,x_0_volatile_phase,x_0_volatile_plan,x_0_volatile_cur,x_0_volatile_want,x_0_volatile_sent,x_0_volatile_rest,x_0_volatile_skip,x_0_volatile_healed,x_0_volatile_est,x_0_volatile_asked,x_0_volatile_out,x_0_volatile_events,now_1,m_2,up_3)=>mE x_0_c x_0_routes x_0_l x_0_at x_0_volatile_phase x_0_volatile_plan x_0_volatile_cur x_0_volatile_want x_0_volatile_sent x_0_volatile_rest x_0_volatile_skip x_0_volatile_healed x_0_volatile_est x_0_volatile_asked x_0_volatile_out x_0_volatile_events now_1 m_2 up_3⟩
theorem abm:aL prog 65 ZG:=aH mixed (lp:=ek) (aS:=aS) (np:=4) (an:=[(7,{j:=some {vs:=[(33,.x .b)]}})]) (.cons KI (.cons QS (.cons We (.cons Xx (.cons aao .nil))))) (by kernel_rfl) (by kernel_rfl)
def j5(x_0_c:aj)(x_0_routes:Sl (Sl (Sl Int)))(x_0_l:Sl ai)(x_0_at:ad)(x_0_volatile_phase:Int)(x_0_volatile_plan:am)(x_0_volatile_cur:Int)(x_0_volatile_want:Mp Int aa)(x_0_volatile_sent:Int)(x_0_volatile_rest:Int)(x_0_volatile_skip:Int)(x_0_volatile_healed:Int)(x_0_volatile_est:Arr 8 ak)(x_0_volatile_asked:Arr 8 Int)(x_0_volatile_out:Sl aa)(x_0_volatile_events:Sl aw)(now_1:Int)(m_2:aa)(up_3:Int):Option (aj×Sl (Sl (Sl Int))×Sl ai×ad×Int×am×Int×Mp Int aa×Int×Int×Int×Int×Arr 8 ak×Arr 8 Int×Sl aa×Sl aw):=
 ((eJ x_0_c x_0_routes x_0_l x_0_at x_0_volatile_phase x_0_volatile_plan x_0_volatile_cur x_0_volatile_want x_0_volatile_sent x_0_volatile_rest x_0_volatile_skip x_0_volatile_healed x_0_volatile_est x_0_volatile_asked x_0_volatile_out x_0_volatile_events).bind fun(r1,q2,q3,s4,q5,q6,q7,q8,q9,q10,q11,q12,q13,q14,q15,s16,s17)=>
 bif(r1==6)then(some (true,q2,q3,q5,q6,q7,q8,q10,q11,q12,q13,q14,q15,s4,q9,s16,s17))else
 ((pK m_2).bind fun r18=>
 some (((!r18)||(decide ((aa.Sw m_2)>=(ao.au (aj.T q2))))),q2,q3,q5,q6,q7,q8,q10,q11,q12,q13,q14,q15,s4,q9,s16,s17)):Option (Bool×aj×Sl (Sl (Sl Int))×ad×Int×am×Int×Int×Int×Int×Int×Arr 8 ak×Arr 8 Int×Sl ai×Mp Int aa×Sl aa×Sl aw)).bind fun(b19,x20,s21,x22,i23,x24,i25,i26,i27,i28,i29,v30,v31,s32,m33,s34,s35)=>
 bif b19 then(some (x20,s21,s32,x22,i23,x24,i25,m33,i26,i27,i28,i29,v30,v31,s34,s35))else
 (bif((aa.cY m_2)==2)then((cH (aa.Sw m_2) 8).bind fun n36=>
 (vw (gt v30.1 n36) (aa.T1 m_2) (aa.T2 m_2) now_1 (aj.SW x20)).bind fun(r37,r38)=>
 bif(r38==0)then((cH (aa.Sw m_2) 8).bind fun n39=>
 some (x20,s21,s32,x22,i23,x24,i25,m33,i26,i27,i28,i29,Arr.set v30 n39 r37,v31,s34,s35))else
 (some (x20,s21,s32,x22,i23,x24,i25,m33,i26,i27,i28,i29,v30,v31,s34,s35)))else
 (bif((aa.U m_2) !=(ad.U x22))then(some (x20,s21,s32,x22,i23,x24,i25,m33,i26,i27,i28,i29,v30,v31,s34,s35))else
 (bif((aa.cY m_2)==7)then((mE x20 s21 s32 x22 i23 x24 i25 m33 i26 i27 i28 i29 v30 v31 s34 s35 now_1 m_2 up_3).bind fun(q40,q41,s42,q43,q44,q45,q46,q47,q48,q49,q50,q51,q52,q53,s54,s55)=>
 some (q40,q41,s42,q43,q44,q45,q46,q47,q48,q49,q50,q51,q52,q53,s54,s55))else
 ((bif(((aa.cY m_2)==8)&&((aa.Of m_2) !=5))then((jt x20 s21 s32 x22 i23 x24 i25 m33 i26 i27 i28 i29 v30 v31 s34 s35 m_2).bind fun(r56,q57,q58,s59,q60,q61,q62,q63,q64,q65,q66,q67,q68,q69,q70,s71,s72)=>
 some (r56,q57,q58,q60,q61,q62,q63,q65,q66,q67,q68,q69,q70,s59,q64,s71,s72))else
 (some (false,x20,s21,x22,i23,x24,i25,i26,i27,i28,i29,v30,v31,s32,m33,s34,s35)):Option (Bool×aj×Sl (Sl (Sl Int))×ad×Int×am×Int×Int×Int×Int×Int×Arr 8 ak×Arr 8 Int×Sl ai×Mp Int aa×Sl aa×Sl aw)).bind fun(b73,x74,s75,x76,i77,x78,i79,i80,i81,i82,i83,v84,v85,s86,m87,s88,s89)=>
 bif b73 then((ik x74 s75 s86 x76 i77 x78 i79 m87 i80 i81 i82 i83 v84 v85 s88 s89 now_1 up_3).bind fun(q90,q91,s92,q93,q94,q95,q96,q97,q98,q99,q100,q101,q102,q103,s104,s105)=>
 some (q90,q91,s92,q93,q94,q95,q96,q97,q98,q99,q100,q101,q102,q103,s104,s105))else
 (some (x74,s75,s86,x76,i77,x78,i79,m87,i80,i81,i82,i83,v84,v85,s88,s89))))))
def ZF:dG:=⟨[(true,h0),(false,.x (.i .i64)),(false,.x iX),(false,.x (.i .i64))],[([],[h0])],false,[true,false,false,false],fun p=>match p with|(x_0_c,x_0_routes,x_0_l,x_0_at,x_0_volatile_phase,x_0_volatile_plan,x_0_volatile_cur,x_0_volatile_want,x_0_volatile_sent,x_0_volatile_rest,x_0_volatile_skip,x_0_volatile_healed,x_0_volatile_est,x_0_volatile_asked,x_0_volatile_out,x_0_volatile_events,now_1,m_2,up_3)=>j5 x_0_c x_0_routes x_0_l x_0_at x_0_volatile_phase x_0_volatile_plan x_0_volatile_cur x_0_volatile_want x_0_volatile_sent x_0_volatile_rest x_0_volatile_skip x_0_volatile_healed x_0_volatile_est x_0_volatile_asked x_0_volatile_out x_0_volatile_events now_1 m_2 up_3⟩
theorem Wd:aL prog 27 ZF:=aH mixed (lp:=ek) (aS:=aS) (np:=4) (an:=[(4,{j:=some {vs:=[(0,.op 0 mH []),(28,.x .b)],gs:=(.co (.op 0 mH []) .ni),os:=[.bx mH (.rc (.co (.x y4) (.co (.x (.sl (.sl (.sl (.i .i64))))) (.co (.so 1) (.co (.x pg) (.co (.rc (.co (.x (.i .i64)) (.co (.x y7) (.co (.x (.i .i64)) (.co (.om 2) (.co (.x (.i .i64)) (.co (.x (.i .i64)) (.co (.x (.i .i64)) (.co (.x (.i .i64)) (.co (.x (.ar 8 y5)) (.co (.x (.ar 8 (.i .i64))) (.co (.so 3) (.co (.so 4) .ni))))))))))))) .ni)))))),.ar y8,.mp (.i .i64) iX,.ar iX,.ar y2],kl:=[0,13,31,76,77]}}),(18,{j:=some {vs:=[(0,.op 0 mH []),(83,.x .b)],gs:=(.co (.op 0 mH []) .ni),os:=[.bx mH (.rc (.co (.x y4) (.co (.x (.sl (.sl (.sl (.i .i64))))) (.co (.so 1) (.co (.x pg) (.co (.rc (.co (.x (.i .i64)) (.co (.x y7) (.co (.x (.i .i64)) (.co (.om 2) (.co (.x (.i .i64)) (.co (.x (.i .i64)) (.co (.x (.i .i64)) (.co (.x (.i .i64)) (.co (.x (.ar 8 y5)) (.co (.x (.ar 8 (.i .i64))) (.co (.so 3) (.co (.so 4) .ni))))))))))))) .ni)))))),.ar y8,.mp (.i .i64) iX,.ar iX,.ar y2],kl:=[79,80,81,82,83]}})]) (.cons QU (.cons abq (.cons abn (.cons abm (.cons We (.cons Ua .nil)))))) (by kernel_rfl) (by kernel_rfl)
def kA(x_0_c:aj)(x_0_routes:Sl (Sl (Sl Int)))(x_0_l:Sl ai)(x_0_at:ad)(x_0_volatile_phase:Int)(x_0_volatile_plan:am)(x_0_volatile_cur:Int)(x_0_volatile_want:Mp Int aa)(x_0_volatile_sent:Int)(x_0_volatile_rest:Int)(x_0_volatile_skip:Int)(x_0_volatile_healed:Int)(x_0_volatile_est:Arr 8 ak)(x_0_volatile_asked:Arr 8 Int)(x_0_volatile_out:Sl aa)(x_0_volatile_events:Sl aw):Option (Sl aa×Sl aw×aj×Sl (Sl (Sl Int))×Sl ai×ad×Int×am×Int×Mp Int aa×Int×Int×Int×Int×Arr 8 ak×Arr 8 Int×Sl aa×Sl aw):=some (x_0_volatile_out,x_0_volatile_events,x_0_c,x_0_routes,x_0_l,x_0_at,x_0_volatile_phase,x_0_volatile_plan,x_0_volatile_cur,x_0_volatile_want,x_0_volatile_sent,x_0_volatile_rest,x_0_volatile_skip,x_0_volatile_healed,x_0_volatile_est,x_0_volatile_asked,Sl.nil,Sl.nil)
def ZE:dG:=⟨[(true,h0)],[([.x (.sl iX),.x (.sl y2)],[h0])],false,[true],fun p=>match p with|(x_0_c,x_0_routes,x_0_l,x_0_at,x_0_volatile_phase,x_0_volatile_plan,x_0_volatile_cur,x_0_volatile_want,x_0_volatile_sent,x_0_volatile_rest,x_0_volatile_skip,x_0_volatile_healed,x_0_volatile_est,x_0_volatile_asked,x_0_volatile_out,x_0_volatile_events)=>kA x_0_c x_0_routes x_0_l x_0_at x_0_volatile_phase x_0_volatile_plan x_0_volatile_cur x_0_volatile_want x_0_volatile_sent x_0_volatile_rest x_0_volatile_skip x_0_volatile_healed x_0_volatile_est x_0_volatile_asked x_0_volatile_out x_0_volatile_events⟩
theorem Wb:aL prog 11 ZE:=aH mixed (lp:=ek) (aS:=aS) (np:=1) (an:=[]) .nil (by kernel_rfl) (by kernel_rfl)
def vv(half_0:Int):Option Int:=some (wr .i64 ((wr .i64 (2*(if 1073741824<(if 0>half_0 then 0 else half_0)then 1073741824 else(if 0>half_0 then 0 else half_0))))+2))
def ZD:dG:=⟨[(false,.x (.i .i64))],[([.x (.i .i64)],[])],true,[],fun p=>match p with|half_0=>vv half_0⟩
theorem abl:aL prog 118 ZD:=aH mixed (lp:=ek) (aS:=aS) (np:=1) (an:=[]) .nil (by kernel_rfl) (by kernel_rfl)
def qj(n_0:Int)(most_1:Int):Option Bool:=some ((decide (n_0>=0))&&(decide (n_0<=most_1)))
def ZC:dG:=⟨[(false,.x (.i .i64)),(false,.x (.i .i64))],[([.x .b],[])],true,[],fun p=>match p with|(n_0,most_1)=>qj n_0 most_1⟩
theorem abk:aL prog 173 ZC:=aH mixed (lp:=ek) (aS:=aS) (np:=2) (an:=[]) .nil (by kernel_rfl) (by kernel_rfl)
def uX(p_0:Int):Option Bool:=some ((decide (p_0<0))||(decide (p_0>=8)))
def ZB:dG:=⟨[(false,.x (.i .i64))],[([.x .b],[])],true,[],fun p=>match p with|p_0=>uX p_0⟩
theorem abj:aL prog 299 ZB:=aH mixed (lp:=ek) (aS:=aS) (np:=1) (an:=[]) .nil (by kernel_rfl) (by kernel_rfl)
def cV(s_0:Sl Int):Int->Option (Int⊕(Int⊕Unit)):=fun i2=>
 bif decide (i2<(s_0.l.length:Int))then((cH i2 s_0.l.length).bind fun n3=>
 (uX (gt s_0.l n3)).bind fun r4=>
 bif r4 then(some (.inr (.inl i2)))else
 (some (.inl (wr .i64 (i2+1)))))else
 (some (.inr (.inr ())))
def df(s_0:Sl Int):Option Int:=
 (aU (cV s_0) 0).bind fun
 |.inl i5=>(some i5)
 |.inr _=>(some (-1))
def ZA:dG:=⟨[(false,.x (.sl (.i .i64))),(false,.fn 299 .ni)],[([.x (.i .i64)],[])],true,[],fun p=>match p with|s_0=>df s_0⟩
theorem abi:aL prog 101 ZA:=aH mixed (lp:=ek) (aS:=aS) (np:=2) (an:=[(5,{j:=some {vs:=[(8,.x (.i .i64))]},e:=[(.ret,{vs:=[(4,.x (.i .i64))]}),(.exit 0,{})]})]) (.cons abj .nil) (by kernel_rfl) (by kernel_rfl)
def cr(s_0:Sl Int):Option Bool:=
 (df s_0).bind fun r1=>
 some (decide (r1>=0))
def Zz:dG:=⟨[(false,.x (.sl (.i .i64))),(false,.fn 299 .ni)],[([.x .b],[])],true,[],fun p=>match p with|s_0=>cr s_0⟩
theorem abh:aL prog 50 Zz:=aH mixed (lp:=ek) (aS:=aS) (np:=2) (an:=[]) (.cons abi .nil) (by kernel_rfl) (by kernel_rfl)
def kS(t_0:ao)(r_1:Sl (Sl Int)):Int->Option (Int⊕(Bool⊕Unit)):=fun i3=>
 bif decide (i3<(r_1.l.length:Int))then((cH i3 r_1.l.length).bind fun n4=>
 (bif((((gt r_1.l n4).l).length:Int) !=(((ao.bn t_0).l).length:Int))then(some true)else
 ((cr (gt r_1.l n4)).bind fun r5=>
 some r5):Option Bool).bind fun b6=>
 bif b6 then(some (.inr (.inl false)))else
 (some (.inl (wr .i64 (i3+1)))))else
 (some (.inr (.inr ())))
def jT(t_0:ao)(r_1:Sl (Sl Int)):Option Bool:=
 (nc t_0).bind fun r1=>
 bif((!r1)||((r_1.l.length:Int) !=(ao.au t_0)))then(some false)else
 ((aU (kS t_0 r_1) 0).bind fun
 |.inl b7=>(some b7)
 |.inr _=>(some true))
def Zy:dG:=⟨[(false,.x y1),(false,.x (.sl (.sl (.i .i64))))],[([.x .b],[])],true,[],fun p=>match p with|(t_0,r_1)=>jT t_0 r_1⟩
theorem QV:aL prog 270 Zy:=aH mixed (lp:=ek) (aS:=aS) (np:=2) (an:=[(10,{j:=some {vs:=[(19,.x (.i .i64))]},e:=[(.ret,{vs:=[(4,.x .b)]}),(.exit 0,{})]}),(18,{j:=some {vs:=[(32,.x .b)]}})]) (.cons ok1 (.cons abh .nil)) (by kernel_rfl) (by kernel_rfl)
def pn(r_0:Sl (Sl Int))(sw_1:Int)(h_2:Int):Option (Int×Bool):=
 (bif(((decide (sw_1<0))||(decide (sw_1>=(r_0.l.length:Int))))||(decide (h_2<0)))then(some true)else
 ((cH sw_1 r_0.l.length).bind fun n1=>
 some (decide (h_2>=(((gt r_0.l n1).l).length:Int)))):Option Bool).bind fun b2=>
 bif b2 then(some (0,false))else
 ((cH sw_1 r_0.l.length).bind fun n3=>
 (cH h_2 ((gt r_0.l n3).l).length).bind fun n4=>
 some (gt ((gt r_0.l n3).l) n4,true))
def Zx:dG:=⟨[(false,.x (.sl (.sl (.i .i64)))),(false,.x (.i .i64)),(false,.x (.i .i64))],[([.x (.i .i64),.x .b],[])],true,[],fun p=>match p with|(r_0,sw_1,h_2)=>pn r_0 sw_1 h_2⟩
theorem Wa:aL prog 300 Zx:=aH mixed (lp:=ek) (aS:=aS) (np:=3) (an:=[(4,{j:=some {vs:=[(28,.x .b)]}})]) .nil (by kernel_rfl) (by kernel_rfl)
def iF(l_0:Sl Int):Option Bool:=
 (bif decide ((l_0.l.length:Int)>0)then((ou l_0.l 0 (wr .i64 ((l_0.l.length:Int)-1))).bind fun l1=>
 (cH (wr .i64 ((l_0.l.length:Int)-1)) l_0.l.length).bind fun n2=>
 (bJ (l_0.to l1) (gt l_0.l n2)).bind fun r3=>
 some r3)else
 (some false):Option Bool).bind fun b4=>
 some b4
def Zw:dG:=⟨[(false,.x (.sl (.i .i64)))],[([.x .b],[])],true,[],fun p=>match p with|l_0=>iF l_0⟩
theorem abg:aL prog 301 Zw:=aH mixed (lp:=ek) (aS:=aS) (np:=1) (an:=[(3,{j:=some {vs:=[(2,.x .b)]}})]) (.cons Oa .nil) (by kernel_rfl) (by kernel_rfl)
def qd(t_0:ao)(sw_1:Int)(port_2:Int):Int->Option (Int⊕((Int×Int×Int×Bool)⊕Unit)):=fun i2=>
 bif decide (i2<(((ao.a7 t_0).l).length:Int))then((cH i2 ((ao.a7 t_0).l).length).bind fun n3=>
 bif decide ((⟨sw_1,port_2⟩:bp)=(⟨a_.A (gt ((ao.a7 t_0).l) n3),a_.mq (gt ((ao.a7 t_0).l) n3)⟩:bp))then(some (.inr (.inl (a_.B (gt ((ao.a7 t_0).l) n3),a_.mo (gt ((ao.a7 t_0).l) n3),i2,true))))else
 (bif decide ((⟨sw_1,port_2⟩:bp)=(⟨a_.B (gt ((ao.a7 t_0).l) n3),a_.mo (gt ((ao.a7 t_0).l) n3)⟩:bp))then(some (.inr (.inl (a_.A (gt ((ao.a7 t_0).l) n3),a_.mq (gt ((ao.a7 t_0).l) n3),i2,true))))else
 (some (.inl (wr .i64 (i2+1))))))else
 (some (.inr (.inr ())))
def tf(t_0:ao)(sw_1:Int)(port_2:Int):Option (Int×Int×Int×Bool):=
 (aU (qd t_0 sw_1 port_2) 0).bind fun
 |.inl (i4,i5,i6,b7)=>(some (i4,i5,i6,b7))
 |.inr _=>(some (0,0,0,false))
def Zv:dG:=⟨[(false,.x y1),(false,.x (.i .i64)),(false,.x (.i .i64))],[([.x (.i .i64),.x (.i .i64),.x (.i .i64),.x .b],[])],true,[],fun p=>match p with|(t_0,sw_1,port_2)=>tf t_0 sw_1 port_2⟩
theorem abf:aL prog 333 Zv:=aH mixed (lp:=ek) (aS:=aS) (np:=3) (an:=[(7,{j:=some {vs:=[(21,.x (.i .i64))]},e:=[(.ret,{vs:=[(6,.x (.i .i64)),(7,.x (.i .i64)),(8,.x (.i .i64)),(9,.x .b)]}),(.exit 0,{})]})]) .nil (by kernel_rfl) (by kernel_rfl)
def re(t_0:ao)(r_1:Sl (Sl Int))(sw_2:Int)(h_3:Int):Option (Int×Bool):=
 (pn r_1 sw_2 h_3).bind fun(r1,r2)=>
 bif(!r2)then(some (0,false))else
 ((tf t_0 sw_2 r1).bind fun(r3,_,_,r6)=>
 some (r3,r6))
def Zu:dG:=⟨[(false,.x y1),(false,.x (.sl (.sl (.i .i64)))),(false,.x (.i .i64)),(false,.x (.i .i64))],[([.x (.i .i64),.x .b],[])],true,[],fun p=>match p with|(t_0,r_1,sw_2,h_3)=>re t_0 r_1 sw_2 h_3⟩
theorem abe:aL prog 302 Zu:=aH mixed (lp:=ek) (aS:=aS) (np:=4) (an:=[]) (.cons Wa (.cons abf .nil)) (by kernel_rfl) (by kernel_rfl)
def ku(t_0:ao)(r_1:Sl (Sl Int))(h_3:Int):(Sl Int)->Option (Sl Int⊕((Int×Sl Int)⊕Unit)):=fun s6=>
 (iF s6).bind fun r7=>
 bif(!r7)then((cH (wr .i64 ((s6.l.length:Int)-1)) s6.l.length).bind fun n8=>
 (cH h_3 ((ao.bn t_0).l).length).bind fun n9=>
 (cH (gt s6.l n8) r_1.l.length).bind fun n10=>
 (cH h_3 ((gt r_1.l n10).l).length).bind fun n11=>
 bif decide ((gt ((ao.bn t_0).l) n9)=(⟨gt s6.l n8,gt ((gt r_1.l n10).l) n11⟩:fZ))then(some (.inr (.inl (0,s6))))else
 ((re t_0 r_1 (gt s6.l n8) h_3).bind fun(r12,r13)=>
 bif(!r13)then(some (.inr (.inl (13,Sl.nil))))else
 ((g_ (s6.l++[r12])).bind fun l14=>
 some (.inl (Sl.mk l14)))))else
 (some (.inr (.inr ())))
def ra(t_0:ao)(r_1:Sl (Sl Int))(sw_2:Int)(h_3:Int):Option (Sl Int×Int):=
 (pn r_1 sw_2 h_3).bind fun(_,r2)=>
 (bif(!r2)then(some true)else
 ((jT t_0 r_1).bind fun r3=>
 some (!r3)):Option Bool).bind fun b4=>
 bif b4 then(some (Sl.nil,2))else
 ((aU (ku t_0 r_1 h_3) (Sl.mk [sw_2])).bind fun
 |.inl (i15,s16)=>(some (s16,i15))
 |.inr _=>(some (Sl.nil,12)))
def Zt:dG:=⟨[(false,.x y1),(false,.x (.sl (.sl (.i .i64)))),(false,.x (.i .i64)),(false,.x (.i .i64))],[([.x (.sl (.i .i64)),.x (.i .i64)],[])],false,[],fun p=>match p with|(t_0,r_1,sw_2,h_3)=>ra t_0 r_1 sw_2 h_3⟩
theorem abd:aL prog 271 Zt:=aH mixed (lp:=ek) (aS:=aS) (np:=4) (an:=[(6,{j:=some {vs:=[(30,.x .b)]}}),(12,{j:=some {vs:=[(12,.so 0)],os:=[.ar (.i .i64)],kl:=[3]},e:=[(.ret,{vs:=[(8,.so 0),(9,.x (.i .i64))],os:=[.ar (.i .i64)],kl:=[3]}),(.exit 0,{kl:=[3]})]})]) (.cons Wa (.cons QV (.cons abg (.cons abe .nil)))) (by kernel_rfl) (by kernel_rfl)
def lE(t_0:ao)(r_1:Sl (Sl Int))(h_2:Int):(Int×Sl Int)->Option ((Int×Sl Int)⊕(Sl Int)):=fun(i5,s6)=>
 bif decide (i5<(r_1.l.length:Int))then((ra t_0 r_1 i5 h_2).bind fun(r7,_)=>
 (g_ (s6.l++[wr .i64 ((r7.l.length:Int)-1)])).bind fun l9=>
 some (.inl (wr .i64 (i5+1),(Sl.mk l9))))else
 (some (.inr s6))
def rf(t_0:ao)(r_1:Sl (Sl Int))(h_2:Int):Option (Sl Int):=
 (jT t_0 r_1).bind fun r1=>
 bif(((!r1)||(decide (h_2<0)))||(decide (h_2>=(((ao.bn t_0).l).length:Int))))then(some Sl.nil)else
 ((aU (lE t_0 r_1 h_2) (0,Sl.nil)).bind fun s10=>
 some s10)
def Zs:dG:=⟨[(false,.x y1),(false,.x (.sl (.sl (.i .i64)))),(false,.x (.i .i64))],[([.x (.sl (.i .i64))],[])],false,[],fun p=>match p with|(t_0,r_1,h_2)=>rf t_0 r_1 h_2⟩
theorem V_:aL prog 233 Zs:=aH mixed (lp:=ek) (aS:=aS) (np:=3) (an:=[(12,{j:=some {vs:=[(7,.so 0),(28,.x (.i .i64))],os:=[.ar (.i .i64)]},e:=[(.exit 0,{vs:=[(7,.so 0)],os:=[.ar (.i .i64)]})]})]) (.cons QV (.cons abd .nil)) (by kernel_rfl) (by kernel_rfl)
def mu(t_0:ao)(r_1:Sl (Sl Int)):Int->Option (Int⊕(Bool⊕Unit)):=fun i3=>
 bif decide (i3<(((ao.bn t_0).l).length:Int))then((rf t_0 r_1 i3).bind fun r4=>
 (bJ r4 (-1)).bind fun r5=>
 bif r5 then(some (.inr (.inl false)))else
 (some (.inl (wr .i64 (i3+1)))))else
 (some (.inr (.inr ())))
def pp(t_0:ao)(r_1:Sl (Sl Int)):Option Bool:=
 (jT t_0 r_1).bind fun r1=>
 bif(!r1)then(some false)else
 ((aU (mu t_0 r_1) 0).bind fun
 |.inl b6=>(some b6)
 |.inr _=>(some true))
def Zr:dG:=⟨[(false,.x y1),(false,.x (.sl (.sl (.i .i64))))],[([.x .b],[])],true,[],fun p=>match p with|(t_0,r_1)=>pp t_0 r_1⟩
theorem abc:aL prog 232 Zr:=aH mixed (lp:=ek) (aS:=aS) (np:=2) (an:=[(10,{j:=some {vs:=[(13,.x (.i .i64))]},e:=[(.ret,{vs:=[(4,.x .b)]}),(.exit 0,{})]})]) (.cons QV (.cons V_ (.cons Oa .nil))) (by kernel_rfl) (by kernel_rfl)
theorem abb:aL prog 234 (yd y8 235 jE):=NA
def jp(old_1:Sl (Sl Int))(now_2:Sl (Sl Int))(i7:Int)(r9:Sl Int):(Int×Sl aE)->Option ((Int×Sl aE)⊕(Sl aE)):=fun(i12,s13)=>
 bif decide (i12<(now_2.l.length:Int))then(((cH i12 now_2.l.length).bind fun n14=>
 (cH i7 ((gt now_2.l n14).l).length).bind fun n15=>
 (cH i12 old_1.l.length).bind fun n16=>
 (cH i7 ((gt old_1.l n16).l).length).bind fun n17=>
 bif((gt ((gt now_2.l n14).l) n15) !=(gt ((gt old_1.l n16).l) n17))then((cH i12 now_2.l.length).bind fun n18=>
 (cH i7 ((gt now_2.l n18).l).length).bind fun n19=>
 (cH i12 r9.l.length).bind fun n20=>
 (g_ (s13.l++[(⟨i12,i7,gt ((gt now_2.l n18).l) n19,gt r9.l n20⟩:aE)])).bind fun l21=>
 some (Sl.mk l21))else
 (some s13):Option (Sl aE)).bind fun s22=>
 some (.inl (wr .i64 (i12+1),s22)))else
 (some (.inr s13))
def kX(t_0:ao)(old_1:Sl (Sl Int))(now_2:Sl (Sl Int)):(Int×Sl aE)->Option ((Int×Sl aE)⊕(Sl aE)):=fun(i7,s8)=>
 bif decide (i7<(((ao.bn t_0).l).length:Int))then((rf t_0 now_2 i7).bind fun r9=>
 (aU (jp old_1 now_2 i7 r9) (0,s8)).bind fun s23=>
 some (.inl (wr .i64 (i7+1),s23)))else
 (some (.inr s8))
def pO(t_0:ao)(old_1:Sl (Sl Int))(now_2:Sl (Sl Int)):Option (Sl aE×Int):=
 ((pp t_0 old_1).bind fun r1=>
 bif(!r1)then(some true)else
 ((pp t_0 now_2).bind fun r2=>
 some (!r2)):Option Bool).bind fun b3=>
 bif b3 then(some (Sl.nil,2))else
 ((aU (kX t_0 old_1 now_2) (0,Sl.nil)).bind fun s24=>
 (uA jE s24).bind fun s25=>
 (m8 s25 s24).bind fun _=>
 some (s25,0))
def Zq:dG:=⟨[(false,.x y1),(false,.x (.sl (.sl (.i .i64)))),(false,.x (.sl (.sl (.i .i64))))],[([.x (.sl y8),.x (.i .i64)],[])],false,[],fun p=>match p with|(t_0,old_1,now_2)=>pO t_0 old_1 now_2⟩
theorem aba:aL prog 174 Zq:=aH mixed (lp:=ek) (aS:=aS) (np:=3) (an:=[(4,{j:=some {vs:=[(21,.x .b)]}}),(12,{j:=some {vs:=[(8,.so 0),(25,.x (.i .i64))],os:=[.ar y8]},e:=[(.exit 0,{vs:=[(8,.so 0)],os:=[.ar y8]})]}),(23,{j:=some {vs:=[(8,.so 0),(34,.x (.i .i64))],os:=[.ar y8],kl:=[1]},e:=[(.exit 2,{vs:=[(8,.so 0)],os:=[.ar y8],kl:=[1]})]}),(27,{e:=[(.normal,{vs:=[(8,.so 0)],os:=[.ar y8],kl:=[3]})]})]) (.cons abc (.cons V_ (.cons abb .nil))) (by kernel_rfl) (by kernel_rfl)
def jK(t_0:ao):(Int×Int)->Option ((Int×Int)⊕Int):=fun(i3,i4)=>
 bif decide (i4<(((ao.a7 t_0).l).length:Int))then((cH i4 ((ao.a7 t_0).l).length).bind fun n5=>
 some (.inl ((if(a_.uw (gt ((ao.a7 t_0).l) n5))>i3 then(a_.uw (gt ((ao.a7 t_0).l) n5))else i3),wr .i64 (i4+1))))else
 (some (.inr i3))
def nD(t_0:ao):Option Int:=
 (aU (jK t_0) (0,0)).bind fun i6=>
 some i6
def Zp:dG:=⟨[(false,.x y1)],[([.x (.i .i64)],[])],true,[],fun p=>match p with|t_0=>nD t_0⟩
theorem aa_:aL prog 236 Zp:=aH mixed (lp:=ek) (aS:=aS) (np:=1) (an:=[(7,{j:=some {vs:=[(3,.x (.i .i64)),(9,.x (.i .i64))]},e:=[(.exit 0,{vs:=[(3,.x (.i .i64))]})]})]) .nil (by kernel_rfl) (by kernel_rfl)
def rk(t_0:ao):Option Int:=
 (nD t_0).bind fun r1=>
 some (wr .i64 ((ao.au t_0)*r1))
def Zo:dG:=⟨[(false,.x y1)],[([.x (.i .i64)],[])],true,[],fun p=>match p with|t_0=>rk t_0⟩
theorem V9:aL prog 175 Zo:=aH mixed (lp:=ek) (aS:=aS) (np:=1) (an:=[]) (.cons aa_ .nil) (by kernel_rfl) (by kernel_rfl)
theorem aa9:aL prog 237 (vq (.i .i64) uU):=PW
theorem aa8:aL prog 238 (Lh (.i .i64) qQ):=Si
def md(l_0:Sl aE):(Int×Sl Int)->Option ((Int×Sl Int)⊕(Sl Int)):=fun(i4,s5)=>
 bif decide (i4<(l_0.l.length:Int))then((cH i4 l_0.l.length).bind fun n6=>
 (g_ (s5.l++[aE.ED (gt l_0.l n6)])).bind fun l7=>
 some (.inl (wr .i64 (i4+1),(Sl.mk l7))))else
 (some (.inr s5))
def lI(l_0:Sl aE):Option (Sl Int):=
 (aU (md l_0) (0,Sl.nil)).bind fun s8=>
 (uA uU s8).bind fun s9=>
 (m8 s9 s8).bind fun _=>
 (OT qQ s9).bind fun s10=>
 some s10
def Zn:dG:=⟨[(false,.x (.sl y8))],[([.x (.sl (.i .i64))],[])],false,[],fun p=>match p with|l_0=>lI l_0⟩
theorem aa7:aL prog 176 Zn:=aH mixed (lp:=ek) (aS:=aS) (np:=1) (an:=[(7,{j:=some {vs:=[(3,.so 0),(8,.x (.i .i64))],os:=[.ar (.i .i64)]},e:=[(.exit 0,{vs:=[(3,.so 0)],os:=[.ar (.i .i64)]})]})]) (.cons aa9 (.cons aa8 .nil)) (by kernel_rfl) (by kernel_rfl)
def vE(t_0:ao)(miss_1:Int):Option Int:=
 (rk t_0).bind fun r1=>
 some (wr .i64 ((wr .i64 ((wr .i64 (2*miss_1))+r1))+1))
def Zm:dG:=⟨[(false,.x y1),(false,.x (.i .i64))],[([.x (.i .i64)],[])],true,[],fun p=>match p with|(t_0,miss_1)=>vE t_0 miss_1⟩
theorem aa6:aL prog 178 Zm:=aH mixed (lp:=ek) (aS:=aS) (np:=2) (an:=[]) (.cons V9 .nil) (by kernel_rfl) (by kernel_rfl)
def wI(a_0:a8)(c_1:Int):Option Bool:=some ((((((decide ((a8.I a_0)<0))||(decide ((a8.I a_0)>=c_1)))||(decide ((a8.J a_0)<0)))||(decide ((a8.J a_0)>=c_1)))||(decide ((a8.Gap a_0)<(-1073741824))))||(decide ((a8.Gap a_0)>1073741824)))
def Zl:dG:=⟨[(false,.x y3),(false,.pt (.i .i64))],[([.x .b],[])],true,[],fun p=>match p with|(a_0,c_1)=>wI a_0 c_1⟩
theorem aa5:aL prog 321 Zl:=aH mixed (lp:=ek) (aS:=aS) (np:=2) (an:=[]) .nil (by kernel_rfl) (by kernel_rfl)
def bK(s_0:Sl a8)(f_1_c0:Int):Int->Option (Int⊕(Int⊕Unit)):=fun i2=>
 bif decide (i2<(s_0.l.length:Int))then((cH i2 s_0.l.length).bind fun n3=>
 (wI (gt s_0.l n3) f_1_c0).bind fun r4=>
 bif r4 then(some (.inr (.inl i2)))else
 (some (.inl (wr .i64 (i2+1)))))else
 (some (.inr (.inr ())))
def bS(s_0:Sl a8)(f_1_c0:Int):Option Int:=
 (aU (bK s_0 f_1_c0) 0).bind fun
 |.inl i5=>(some i5)
 |.inr _=>(some (-1))
def Zk:dG:=⟨[(false,.x (.sl y3)),(false,.fn 321 (.pr (.pt (.i .i64)) .ni))],[([.x (.i .i64)],[])],true,[],fun p=>match p with|(s_0,f_1_c0)=>bS s_0 f_1_c0⟩
theorem aa4:aL prog 340 Zk:=aH mixed (lp:=ek) (aS:=aS) (np:=2) (an:=[(5,{j:=some {vs:=[(8,.x (.i .i64))]},e:=[(.ret,{vs:=[(4,.x (.i .i64))]}),(.exit 0,{})]})]) (.cons aa5 .nil) (by kernel_rfl) (by kernel_rfl)
def bL(s_0:Sl a8)(f_1_c0:Int):Option Bool:=
 (bS s_0 f_1_c0).bind fun r1=>
 some (decide (r1>=0))
def Zj:dG:=⟨[(false,.x (.sl y3)),(false,.fn 321 (.pr (.pt (.i .i64)) .ni))],[([.x .b],[])],true,[],fun p=>match p with|(s_0,f_1_c0)=>bL s_0 f_1_c0⟩
theorem aa3:aL prog 320 Zj:=aH mixed (lp:=ek) (aS:=aS) (np:=2) (an:=[]) (.cons aa4 .nil) (by kernel_rfl) (by kernel_rfl)
def rB(n_0:Int)(l_1:Sl a8):Option Bool:=
 bif(((decide (n_0<0))||(decide (n_0>64)))||(decide ((l_1.l.length:Int)>256)))then(some false)else
 ((bL l_1 n_0).bind fun r1=>
 some (!r1))
def Zi:dG:=⟨[(false,.x (.i .i64)),(false,.x (.sl y3))],[([.x .b],[])],true,[],fun p=>match p with|(n_0,l_1)=>rB n_0 l_1⟩
theorem aa2:aL prog 275 Zi:=aH mixed (lp:=ek) (aS:=aS) (np:=2) (an:=[]) (.cons aa3 .nil) (by kernel_rfl) (by kernel_rfl)
def ij(l_1:Sl a8):(Int×Int×Sl Int×Sl Int)->Option ((Int×Int×Sl Int×Sl Int)⊕(Int×Sl Int×Sl Int)):=fun(i19,i20,s21,s22)=>
 bif decide (i20<(l_1.l.length:Int))then(((cH i20 l_1.l.length).bind fun n23=>
 (cH (a8.I (gt l_1.l n23)) s21.l.length).bind fun n24=>
 (cH (a8.J (gt l_1.l n23)) s21.l.length).bind fun n25=>
 bif decide ((wr .i64 ((gt s21.l n24)+(a8.Gap (gt l_1.l n23))))>(gt s21.l n25))then((cH (a8.J (gt l_1.l n23)) s21.l.length).bind fun n26=>
 (cH (a8.J (gt l_1.l n23)) s22.l.length).bind fun n27=>
 some (a8.J (gt l_1.l n23),(Sl.mk (s21.l.set n26 (wr .i64 ((gt s21.l n24)+(a8.Gap (gt l_1.l n23)))))),(Sl.mk (s22.l.set n27 i20))))else
 (some (i19,s21,s22)):Option (Int×Sl Int×Sl Int)).bind fun(i28,s29,s30)=>
 some (.inl (i28,wr .i64 (i20+1),s29,s30)))else
 (some (.inr (i19,s21,s22)))
def lL(n_0:Int)(l_1:Sl a8):(Int×Int×Sl Int×Sl Int)->Option ((Int×Int×Sl Int×Sl Int)⊕(Int×Sl Int×Sl Int)):=fun(i9,i10,s11,s12)=>
 bif decide (i10<(wr .i64 (n_0+1)))then((aU (ij l_1) ((-1),0,s11,s12)).bind fun(i31,s32,s33)=>
 bif decide (i31<0)then(some (.inr (i31,s32,s33)))else
 (some (.inl (i31,wr .i64 (i10+1),s32,s33))))else
 (some (.inr (i9,s11,s12)))
def tw(n_0:Int)(l_1:Sl a8):Option (Sl Int×Sl Int×Int):=
 (zQ 0 n_0 n_0).bind fun l1=>
 (zQ 0 n_0 n_0).bind fun l2=>
 (aU (lL n_0 l_1) ((-1),0,(Sl.mk l1),(Sl.mk l2))).bind fun(i34,s35,s36)=>
 some (s35,s36,i34)
def Zh:dG:=⟨[(false,.x (.i .i64)),(false,.x (.sl y3))],[([.x (.sl (.i .i64)),.x (.sl (.i .i64)),.x (.i .i64)],[])],false,[],fun p=>match p with|(n_0,l_1)=>tw n_0 l_1⟩
theorem aa1:aL prog 276 Zh:=aH mixed (lp:=ek) (aS:=aS) (np:=2) (an:=[(10,{j:=some {vs:=[(7,.so 0),(8,.so 1),(9,.x (.i .i64)),(19,.x (.i .i64))],os:=[.ar (.i .i64),.ar (.i .i64)],kl:=[1000000,3000000]},e:=[(.exit 0,{vs:=[(7,.so 0),(8,.so 1),(9,.x (.i .i64))],os:=[.ar (.i .i64),.ar (.i .i64)],kl:=[1000000,3000000]})]}),(20,{j:=some {vs:=[(7,.so 0),(8,.so 1),(9,.x (.i .i64)),(23,.x (.i .i64))],os:=[.ar (.i .i64),.ar (.i .i64)],kl:=[6000000,6000001]},e:=[(.exit 2,{vs:=[(7,.so 0),(8,.so 1),(9,.x (.i .i64))],os:=[.ar (.i .i64),.ar (.i .i64)],kl:=[6000000,6000001]})]}),(24,{e:=[(.normal,{vs:=[(7,.so 0),(8,.so 1),(9,.x (.i .i64))],os:=[.ar (.i .i64),.ar (.i .i64)],kl:=[6000002,6000003]})]})]) .nil (by kernel_rfl) (by kernel_rfl)
def oR(n_0:Int)(l_1:Sl a8):Option (Sl Int×Bool):=
 (rB n_0 l_1).bind fun r1=>
 bif(!r1)then(some (Sl.nil,false))else
 ((tw n_0 l_1).bind fun(r2,_,r4)=>
 bif decide (r4>=0)then(some (Sl.nil,false))else
 (some (r2,true)))
def Zg:dG:=⟨[(false,.x (.i .i64)),(false,.x (.sl y3))],[([.x (.sl (.i .i64)),.x .b],[])],false,[],fun p=>match p with|(n_0,l_1)=>oR n_0 l_1⟩
theorem aa0:aL prog 239 Zg:=aH mixed (lp:=ek) (aS:=aS) (np:=2) (an:=[]) (.cons aa2 (.cons aa1 .nil)) (by kernel_rfl) (by kernel_rfl)
def mx(n_0:Int)(gap_1:Int):(Int×Sl a8)->Option ((Int×Sl a8)⊕(Sl a8)):=fun(i4,s5)=>
 bif decide (i4<n_0)then((g_ (s5.l++[(⟨wr .i64 (i4-1),i4,gap_1⟩:a8)])).bind fun l6=>
 some (.inl (wr .i64 (i4+1),(Sl.mk l6))))else
 (some (.inr s5))
def pq(n_0:Int)(gap_1:Int):Option (Sl Int):=
 (aU (mx n_0 gap_1) (1,Sl.nil)).bind fun s7=>
 (oR n_0 s7).bind fun(r8,_)=>
 some r8
def Zf:dG:=⟨[(false,.x (.i .i64)),(false,.x (.i .i64))],[([.x (.sl (.i .i64))],[])],false,[],fun p=>match p with|(n_0,gap_1)=>pq n_0 gap_1⟩
theorem aaZ:aL prog 177 Zf:=aH mixed (lp:=ek) (aS:=aS) (np:=2) (an:=[(7,{j:=some {vs:=[(5,.so 0),(6,.x (.i .i64))],os:=[.ar y3]},e:=[(.exit 0,{vs:=[(5,.so 0)],os:=[.ar y3]})]})]) (.cons aa0 .nil) (by kernel_rfl) (by kernel_rfl)
def jU(l_0:Sl aE)(round_1:Int):(Int×Sl Int)->Option ((Int×Sl Int)⊕(Sl Int)):=fun(i4,s5)=>
 bif decide (i4<(l_0.l.length:Int))then(((cH i4 l_0.l.length).bind fun n6=>
 (bif((aE.ED (gt l_0.l n6))==round_1)then((bJ s5 (aE.Sw (gt l_0.l n6))).bind fun r7=>
 some (!r7))else
 (some false):Option Bool).bind fun b8=>
 bif b8 then((g_ (s5.l++[aE.Sw (gt l_0.l n6)])).bind fun l9=>
 some (Sl.mk l9))else
 (some s5):Option (Sl Int)).bind fun s10=>
 some (.inl (wr .i64 (i4+1),s10)))else
 (some (.inr s5))
def vD(l_0:Sl aE)(round_1:Int):Option (Sl Int):=
 (aU (jU l_0 round_1) (0,Sl.nil)).bind fun s11=>
 some s11
def Ze:dG:=⟨[(false,.x (.sl y8)),(false,.x (.i .i64))],[([.x (.sl (.i .i64))],[])],false,[],fun p=>match p with|(l_0,round_1)=>vD l_0 round_1⟩
theorem aaY:aL prog 179 Ze:=aH mixed (lp:=ek) (aS:=aS) (np:=2) (an:=[(7,{j:=some {vs:=[(5,.so 0),(10,.x (.i .i64))],os:=[.ar (.i .i64)]},e:=[(.exit 0,{vs:=[(5,.so 0)],os:=[.ar (.i .i64)]})]}),(11,{e:=[(.normal,{vs:=[(5,.so 0)],os:=[.ar (.i .i64)],kl:=[0]})]}),(15,{j:=some {vs:=[(24,.x .b)]}})]) (.cons Oa .nil) (by kernel_rfl) (by kernel_rfl)
def lF(at_3:Int)(miss_4:Int)(lead_5:Int)(r5:Sl aE)(r7:Int)(r8:Sl Int)(r10:Sl Int):(Int×Sl aE×Int×Int×Int×Int×Sl aQ)->Option ((Int×Sl aE×Int×Int×Int×Int×Sl aQ)⊕(Sl aE×Int×Int×Int×Int×Sl aQ)):=fun(i19,s20,i21,i22,i23,i24,s25)=>
 bif decide (i19<(r10.l.length:Int))then((cH i19 r10.l.length).bind fun n26=>
 (cH i19 r8.l.length).bind fun n27=>
 (cH i19 r8.l.length).bind fun n28=>
 (vD r5 (gt r8.l n28)).bind fun r29=>
 (g_ (s25.l++[(⟨gt r8.l n27,wr .i64 ((wr .i64 ((wr .i64 ((wr .i64 ((wr .i64 (at_3+lead_5))+miss_4))+r7))+1))+(gt r10.l n26)),r29⟩:aQ)])).bind fun l30=>
 some (.inl (wr .i64 (i19+1),s20,i21,i22,i23,i24,(Sl.mk l30))))else
 (some (.inr (s20,i21,i22,i23,i24,s25)))
def kV(t_0:ao)(old_1:Sl (Sl Int))(now_2:Sl (Sl Int))(at_3:Int)(miss_4:Int)(lead_5:Int):Option (am×Int):=
 ((qj at_3 1099511627776).bind fun r1=>
 bif(!r1)then(some true)else
 ((qj miss_4 1048576).bind fun r2=>
 bif(!r2)then(some true)else
 ((qj lead_5 1048576).bind fun r3=>
 some (!r3))):Option Bool).bind fun b4=>
 bif b4 then(some ((⟨Sl.nil,Sl.nil,0,0,0,0⟩:am),2))else
 ((pO t_0 old_1 now_2).bind fun(r5,r6)=>
 bif(r6 !=0)then(some ((⟨Sl.nil,Sl.nil,0,0,0,0⟩:am),r6))else
 (bif((r5.l.length:Int)==0)then(some ((⟨Sl.nil,Sl.nil,0,0,0,0⟩:am),7))else
 ((rk t_0).bind fun r7=>
 (lI r5).bind fun r8=>
 (vE t_0 miss_4).bind fun r9=>
 (pq (r8.l.length:Int) r9).bind fun r10=>
 (aU (lF at_3 miss_4 lead_5 r5 r7 r8 r10) (0,r5,miss_4,r7,0,0,Sl.nil)).bind fun(s31,i32,i33,_,_,s36)=>
 (cH (wr .i64 ((s36.l.length:Int)-1)) s36.l.length).bind fun n37=>
 bif decide ((wr .i64 ((aQ.At (gt s36.l n37))+miss_4))>1099511627776)then(some ((⟨Sl.nil,Sl.nil,0,0,0,0⟩:am),11))else
 (some ((⟨s31,s36,i32,i33,wr .i64 ((wr .i64 ((wr .i64 ((wr .i64 ((wr .i64 ((wr .i64 (at_3+lead_5))+miss_4))+r7))+1))-miss_4))-i33),wr .i64 ((aQ.At (gt s36.l n37))+miss_4)⟩:am),0)))))
def Zd:dG:=⟨[(false,.x y1),(false,.x (.sl (.sl (.i .i64)))),(false,.x (.sl (.sl (.i .i64)))),(false,.x (.i .i64)),(false,.x (.i .i64)),(false,.x (.i .i64))],[([.x y7,.x (.i .i64)],[])],false,[],fun p=>match p with|(t_0,old_1,now_2,at_3,miss_4,lead_5)=>kV t_0 old_1 now_2 at_3 miss_4 lead_5⟩
theorem aaX:aL prog 117 Zd:=aH mixed (lp:=ek) (aS:=aS) (np:=6) (an:=[(4,{j:=some {vs:=[(33,.x .b)]}}),(27,{j:=some {vs:=[(16,.op 0 y7 []),(75,.x (.i .i64))],os:=[.bx y7 (.rc (.co (.x (.sl y8)) (.co (.so 1) (.co (.x (.i .i64)) (.co (.x (.i .i64)) (.co (.x (.i .i64)) (.co (.x (.i .i64)) .ni))))))),.ar y9],kl:=[5]},e:=[(.exit 1,{vs:=[(16,.op 0 y7 [])],os:=[.bx y7 (.rc (.co (.x (.sl y8)) (.co (.so 1) (.co (.x (.i .i64)) (.co (.x (.i .i64)) (.co (.x (.i .i64)) (.co (.x (.i .i64)) .ni))))))),.ar y9],kl:=[5]})]})]) (.cons abk (.cons aba (.cons V9 (.cons aa7 (.cons aa6 (.cons aaZ (.cons aaY .nil))))))) (by kernel_rfl) (by kernel_rfl)
def lM(x_0_c:aj)(x_0_routes:Sl (Sl (Sl Int)))(x_0_l:Sl ai)(x_0_at:ad)(x_0_volatile_phase:Int)(x_0_volatile_plan:am)(x_0_volatile_cur:Int)(x_0_volatile_want:Mp Int aa)(x_0_volatile_sent:Int)(x_0_volatile_rest:Int)(x_0_volatile_skip:Int)(x_0_volatile_healed:Int)(x_0_volatile_est:Arr 8 ak)(x_0_volatile_asked:Arr 8 Int)(x_0_volatile_out:Sl aa)(x_0_volatile_events:Sl aw)(target_1:Int)(at_2:Int):Option (am×Int×aj×Sl (Sl (Sl Int))×Sl ai×ad×Int×am×Int×Mp Int aa×Int×Int×Int×Int×Arr 8 ak×Arr 8 Int×Sl aa×Sl aw):=
 (cH (ad.pU x_0_at) x_0_routes.l.length).bind fun n1=>
 (cH target_1 x_0_routes.l.length).bind fun n2=>
 (vv (aj.vi x_0_c)).bind fun r3=>
 (kV (aj.T x_0_c) (gt x_0_routes.l n1) (gt x_0_routes.l n2) at_2 r3 (aj.yH x_0_c)).bind fun(r4,r5)=>
 some (r4,r5,x_0_c,x_0_routes,x_0_l,x_0_at,x_0_volatile_phase,x_0_volatile_plan,x_0_volatile_cur,x_0_volatile_want,x_0_volatile_sent,x_0_volatile_rest,x_0_volatile_skip,x_0_volatile_healed,x_0_volatile_est,x_0_volatile_asked,x_0_volatile_out,x_0_volatile_events)
def Zc:dG:=⟨[(true,h0),(false,.x (.i .i64)),(false,.x (.i .i64))],[([.x y7,.x (.i .i64)],[h0])],false,[true,false,false],fun p=>match p with|(x_0_c,x_0_routes,x_0_l,x_0_at,x_0_volatile_phase,x_0_volatile_plan,x_0_volatile_cur,x_0_volatile_want,x_0_volatile_sent,x_0_volatile_rest,x_0_volatile_skip,x_0_volatile_healed,x_0_volatile_est,x_0_volatile_asked,x_0_volatile_out,x_0_volatile_events,target_1,at_2)=>lM x_0_c x_0_routes x_0_l x_0_at x_0_volatile_phase x_0_volatile_plan x_0_volatile_cur x_0_volatile_want x_0_volatile_sent x_0_volatile_rest x_0_volatile_skip x_0_volatile_healed x_0_volatile_est x_0_volatile_asked x_0_volatile_out x_0_volatile_events target_1 at_2⟩
theorem V8:aL prog 61 Zc:=aH mixed (lp:=ek) (aS:=aS) (np:=3) (an:=[]) (.cons abl (.cons aaX .nil)) (by kernel_rfl) (by kernel_rfl)
def Bx:Option cz:=some (⟨(-1),(qK (.ar 4 (.i .i64))),(qK (.ar 4 (.i .i64)))⟩:cz)
def Zb:dG:=⟨[],[([.x WN],[])],true,[],fun p=>match p with|_=>Bx⟩
theorem aaW:aL prog 325 Zb:=aH mixed (lp:=ek) (aS:=aS) (np:=0) (an:=[]) .nil (by kernel_rfl) (by kernel_rfl)
def DQ(f_0:Int)(v_1:Int):Option cz:=
 (Bx).bind fun r1=>
 ((bif(((decide (f_0>=0))&&(decide (f_0<4)))&&(decide (v_1>=0)))then((lG f_0).bind fun r2=>
 some (decide (v_1<=r2)))else
 (some false):Option Bool).bind fun b3=>
 bif b3 then((lG f_0).bind fun r4=>
 (cH f_0 4).bind fun n5=>
 (cH f_0 4).bind fun n6=>
 some (⟨cz.gk r1,Arr.set (cz.Val r1) n5 v_1,Arr.set (cz.LC r1) n6 r4⟩:cz))else
 (some r1):Option cz).bind fun x7=>
 some x7
def Za:dG:=⟨[(false,.x (.i .i64)),(false,.x (.i .i64))],[([.x WN],[])],true,[],fun p=>match p with|(f_0,v_1)=>DQ f_0 v_1⟩
theorem aaV:aL prog 283 Za:=aH mixed (lp:=ek) (aS:=aS) (np:=2) (an:=[(4,{e:=[(.normal,{vs:=[(5,.op 0 WN [])],os:=[.bx WN (.x WN)],kl:=[10]})]}),(6,{j:=some {vs:=[(22,.x .b)]}})]) (.cons aaW (.cons QW .nil)) (by kernel_rfl) (by kernel_rfl)
def Bn(f_0:Int)(v_1:Int)(prio_2:Int):Option bT:=
 (DQ f_0 v_1).bind fun r1=>
 some (⟨prio_2,r1,Sl.nil⟩:bT)
def Y_:dG:=⟨[(false,.x (.i .i64)),(false,.x (.i .i64)),(false,.x (.i .i64))],[([.x VR],[])],false,[],fun p=>match p with|(f_0,v_1,prio_2)=>Bn f_0 v_1 prio_2⟩
theorem aaU:aL prog 244 Y_:=aH mixed (lp:=ek) (aS:=aS) (np:=3) (an:=[]) (.cons aaV .nil) (by kernel_rfl) (by kernel_rfl)
def wg(f_0:Int)(v_1:Int)(prio_2:Int)(port_3:Int):Option bT:=
 (Bn f_0 v_1 prio_2).bind fun r1=>
 some (⟨bT.LB r1,bT.M r1,(Sl.mk [(⟨2,0,port_3⟩:cI)])⟩:bT)
def Y9:dG:=⟨[(false,.x (.i .i64)),(false,.x (.i .i64)),(false,.x (.i .i64)),(false,.x (.i .i64))],[([.x VR],[])],false,[],fun p=>match p with|(f_0,v_1,prio_2,port_3)=>wg f_0 v_1 prio_2 port_3⟩
theorem aaT:aL prog 190 Y9:=aH mixed (lp:=ek) (aS:=aS) (np:=4) (an:=[]) (.cons aaU .nil) (by kernel_rfl) (by kernel_rfl)
def kx(l_0:Sl aE)(round_1:Int)(sw_2:Int):(Int×Sl aY)->Option ((Int×Sl aY)⊕(Sl aY)):=fun(i4,s5)=>
 bif decide (i4<(l_0.l.length:Int))then(((cH i4 l_0.l.length).bind fun n6=>
 bif(((aE.ED (gt l_0.l n6))==round_1)&&((aE.Sw (gt l_0.l n6))==sw_2))then((wg 1 (aE.afF (gt l_0.l n6)) 10 (aE.gk (gt l_0.l n6))).bind fun r7=>
 (g_ (s5.l++[(⟨3,r7,false⟩:aY)])).bind fun l8=>
 some (Sl.mk l8))else
 (some s5):Option (Sl aY)).bind fun s9=>
 some (.inl (wr .i64 (i4+1),s9)))else
 (some (.inr s5))
def rq(l_0:Sl aE)(round_1:Int)(sw_2:Int):Option (Sl aY):=
 (aU (kx l_0 round_1 sw_2) (0,Sl.nil)).bind fun s10=>
 some s10
def Y8:dG:=⟨[(false,.x (.sl y8)),(false,.x (.i .i64)),(false,.x (.i .i64))],[([.x (.sl LJ)],[])],false,[],fun p=>match p with|(l_0,round_1,sw_2)=>rq l_0 round_1 sw_2⟩
theorem aaS:aL prog 132 Y8:=aH mixed (lp:=ek) (aS:=aS) (np:=3) (an:=[(7,{j:=some {vs:=[(7,.so 0),(12,.x (.i .i64))],os:=[.ar LJ]},e:=[(.exit 0,{vs:=[(7,.so 0)],os:=[.ar LJ]})]}),(11,{e:=[(.normal,{vs:=[(7,.so 0)],os:=[.ar LJ],kl:=[0]})]})]) (.cons aaT .nil) (by kernel_rfl) (by kernel_rfl)
def rI(p_0:am)(k_1:Int)(n1:Nat):(Int×Sl gi)->Option ((Int×Sl gi)⊕(Sl gi)):=fun(i5,s6)=>
 bif decide (i5<(((aQ.pT (gt ((am.aV p_0).l) n1)).l).length:Int))then((cH i5 ((aQ.pT (gt ((am.aV p_0).l) n1)).l).length).bind fun n7=>
 (cH k_1 ((am.aV p_0).l).length).bind fun n8=>
 (rq (am.JS p_0) (aQ.No (gt ((am.aV p_0).l) n8)) (gt ((aQ.pT (gt ((am.aV p_0).l) n1)).l) n7)).bind fun r9=>
 (g_ (s6.l++[(⟨gt ((aQ.pT (gt ((am.aV p_0).l) n1)).l) n7,r9⟩:gi)])).bind fun l10=>
 some (.inl (wr .i64 (i5+1),(Sl.mk l10))))else
 (some (.inr s6))
def rj(p_0:am)(k_1:Int):Option (Sl gi):=
 bif((decide (k_1<0))||(decide (k_1>=(((am.aV p_0).l).length:Int))))then(some Sl.nil)else
 ((cH k_1 ((am.aV p_0).l).length).bind fun n1=>
 (aU (rI p_0 k_1 n1) (0,Sl.nil)).bind fun s11=>
 some s11)
def Y7:dG:=⟨[(false,.x y7),(false,.x (.i .i64))],[([.x (.sl y17)],[])],false,[],fun p=>match p with|(p_0,k_1)=>rj p_0 k_1⟩
theorem aaR:aL prog 69 Y7:=aH mixed (lp:=ek) (aS:=aS) (np:=2) (an:=[(12,{j:=some {vs:=[(5,.so 0),(24,.x (.i .i64))],os:=[.ar y17]},e:=[(.exit 0,{vs:=[(5,.so 0)],os:=[.ar y17]})]})]) (.cons aaS .nil) (by kernel_rfl) (by kernel_rfl)
def mX(i59:Int)(q83:ad)(r96:Sl gi):(Int×Sl aa)->Option ((Int×Sl aa)⊕(Sl aa)):=fun(i99,s100)=>
 bif decide (i99<(r96.l.length:Int))then((cH i99 r96.l.length).bind fun n101=>
 (g_ (s100.l++[(⟨3,gi.Sw (gt r96.l n101),wr .i64 ((ad.U q83)+1),i59,0,0,0,0,0,gi.ny (gt r96.l n101)⟩:aa)])).bind fun l102=>
 some (.inl (wr .i64 (i99+1),(Sl.mk l102))))else
 (some (.inr s100))
def mW(r20:am):(Int×aj×Sl (Sl (Sl Int))×ad×Int×am×Int×Int×Int×Int×Int×Arr 8 ak×Arr 8 Int×Sl aa×Sl ai×Mp Int aa×Sl aa×Sl aw)->Option ((Int×aj×Sl (Sl (Sl Int))×ad×Int×am×Int×Int×Int×Int×Int×Arr 8 ak×Arr 8 Int×Sl aa×Sl ai×Mp Int aa×Sl aa×Sl aw)⊕((Int×aj×Sl (Sl (Sl Int))×ad×Int×am×Int×Int×Int×Int×Int×Arr 8 ak×Arr 8 Int×Sl ai×Mp Int aa×Sl aa×Sl aw)⊕(aj×Sl (Sl (Sl Int))×ad×Int×am×Int×Int×Int×Int×Int×Arr 8 ak×Arr 8 Int×Sl aa×Sl ai×Mp Int aa×Sl aa×Sl aw))):=fun(i59,x60,s61,x62,i63,x64,i65,i66,i67,i68,i69,v70,v71,s72,s73,m74,s75,s76)=>
 bif decide (i59<(((am.aV r20).l).length:Int))then((cH i59 ((am.aV r20).l).length).bind fun n77=>
 (nv x60 s61 s73 x62 i63 x64 i65 m74 i66 i67 i68 i69 v70 v71 s75 s76 (gt ((am.aV r20).l) n77)).bind fun(_,r79,q80,q81,s82,q83,q84,q85,q86,q87,q88,q89,q90,q91,q92,q93,s94,s95)=>
 bif(!r79)then(some (.inr (.inl (15,q80,q81,q83,q84,q85,q86,q88,q89,q90,q91,q92,q93,s82,q87,s94,s95))))else
 ((rj r20 i59).bind fun r96=>
 (aU (mX i59 q83 r96) (0,s72)).bind fun s103=>
 some (.inl (wr .i64 (i59+1),q80,q81,q83,q84,q85,q86,q88,q89,q90,q91,q92,q93,s103,s82,q87,s94,s95))))else
 (some (.inr (.inr (x60,s61,x62,i63,x64,i65,i66,i67,i68,i69,v70,v71,s72,s73,m74,s75,s76))))
def iv(x_0_c:aj)(x_0_routes:Sl (Sl (Sl Int)))(x_0_l:Sl ai)(x_0_at:ad)(x_0_volatile_phase:Int)(x_0_volatile_plan:am)(x_0_volatile_cur:Int)(x_0_volatile_want:Mp Int aa)(x_0_volatile_sent:Int)(x_0_volatile_rest:Int)(x_0_volatile_skip:Int)(x_0_volatile_healed:Int)(x_0_volatile_est:Arr 8 ak)(x_0_volatile_asked:Arr 8 Int)(x_0_volatile_out:Sl aa)(x_0_volatile_events:Sl aw)(now_1:Int)(k_2:Int)(up_3:Int):Option (Int×aj×Sl (Sl (Sl Int))×Sl ai×ad×Int×am×Int×Mp Int aa×Int×Int×Int×Int×Arr 8 ak×Arr 8 Int×Sl aa×Sl aw):=
 (eJ x_0_c x_0_routes x_0_l x_0_at x_0_volatile_phase x_0_volatile_plan x_0_volatile_cur x_0_volatile_want x_0_volatile_sent x_0_volatile_rest x_0_volatile_skip x_0_volatile_healed x_0_volatile_est x_0_volatile_asked x_0_volatile_out x_0_volatile_events).bind fun(r1,q2,q3,s4,q5,q6,q7,q8,q9,q10,q11,q12,q13,q14,q15,s16,s17)=>
 bif(((r1 !=0)||((ad.oD q5) !=0))||(decide ((ad.U q5)>=65535)))then(some (16,q2,q3,s4,q5,q6,q7,q8,q9,q10,q11,q12,q13,q14,q15,s16,s17))else
 ((bif((decide (k_2<0))||(decide (k_2>=(q3.l.length:Int))))then(some true)else
 ((ns now_1 0 1099511627776).bind fun r18=>
 some (!r18)):Option Bool).bind fun b19=>
 bif b19 then(some (2,q2,q3,s4,q5,q6,q7,q8,q9,q10,q11,q12,q13,q14,q15,s16,s17))else
 ((lM q2 q3 s4 q5 q6 q7 q8 q9 q10 q11 q12 q13 q14 q15 s16 s17 k_2 now_1).bind fun(r20,r21,q22,q23,s24,q25,q26,q27,q28,q29,q30,q31,q32,q33,q34,q35,s36,s37)=>
 bif(r21 !=0)then(some (r21,q22,q23,s24,q25,q26,q27,q28,q29,q30,q31,q32,q33,q34,q35,s36,s37))else
 ((jb r20).bind fun(r38,_)=>
 bif((gC .i64 r38 up_3) !=0)then(some (16,q22,q23,s24,q25,q26,q27,q28,q29,q30,q31,q32,q33,q34,q35,s36,s37))else
 ((aU (mW r20) (0,q22,q23,q25,q26,q27,q28,q30,q31,q32,q33,q34,q35,Sl.nil,s24,q29,s36,s37)).bind fun
 |.inl (i104,x105,s106,x107,i108,x109,i110,i111,i112,i113,i114,v115,v116,s117,m118,s119,s120)=>(some (i104,x105,s106,s117,x107,i108,x109,i110,m118,i111,i112,i113,i114,v115,v116,s119,s120))
 |.inr (x121,s122,x123,i124,x125,i126,i127,i128,i129,i130,v131,v132,s133,s134,m135,s136,s137)=>((eI x121 s122 s134 x123 i124 x125 i126 m135 i127 i128 i129 i130 v131 v132 s136 s137 1 (wr .i64 ((ad.U x123)+1)) k_2 now_1).bind fun(q138,q139,s140,q141,q142,_,q144,q145,q146,q147,_,q149,q150,q151,s152,s153)=>
 (fQ q138 q139 s140 q141 q142 r20 q144 q145 q146 q147 0 q149 q150 q151 s152 s153 now_1 8 0 (am.YB r20) (am.To r20)).bind fun(q154,q155,s156,q157,_,q159,q160,q161,q162,q163,q164,q165,q166,q167,s168,s169)=>
 (jY q154 q155 s156 q157 1 q159 q160 q161 q162 q163 q164 q165 q166 q167 s168 s169 now_1 s133).bind fun(q170,q171,s172,q173,q174,q175,q176,q177,q178,q179,q180,q181,q182,q183,s184,s185)=>
 some (0,q170,q171,s172,q173,q174,q175,q176,q177,q178,q179,q180,q181,q182,q183,s184,s185))))))
def Y6:dG:=⟨[(true,h0),(false,.x (.i .i64)),(false,.x (.i .i64)),(false,.x (.i .i64))],[([.x (.i .i64)],[h0])],false,[true,false,false,false],fun p=>match p with|(x_0_c,x_0_routes,x_0_l,x_0_at,x_0_volatile_phase,x_0_volatile_plan,x_0_volatile_cur,x_0_volatile_want,x_0_volatile_sent,x_0_volatile_rest,x_0_volatile_skip,x_0_volatile_healed,x_0_volatile_est,x_0_volatile_asked,x_0_volatile_out,x_0_volatile_events,now_1,k_2,up_3)=>iv x_0_c x_0_routes x_0_l x_0_at x_0_volatile_phase x_0_volatile_plan x_0_volatile_cur x_0_volatile_want x_0_volatile_sent x_0_volatile_rest x_0_volatile_skip x_0_volatile_healed x_0_volatile_est x_0_volatile_asked x_0_volatile_out x_0_volatile_events now_1 k_2 up_3⟩
theorem V7:aL prog 28 Y6:=aH mixed (lp:=ek) (aS:=aS) (np:=4) (an:=[(9,{j:=some {vs:=[(54,.x .b)]}}),(31,{j:=some {vs:=[(0,.op 0 mH []),(13,.so 1),(77,.x (.i .i64))],gs:=(.co (.op 0 mH []) .ni),os:=[.bx mH (.rc (.co (.x y4) (.co (.x (.sl (.sl (.sl (.i .i64))))) (.co (.so 2) (.co (.x pg) (.co (.rc (.co (.x (.i .i64)) (.co (.x y7) (.co (.x (.i .i64)) (.co (.om 3) (.co (.x (.i .i64)) (.co (.x (.i .i64)) (.co (.x (.i .i64)) (.co (.x (.i .i64)) (.co (.x (.ar 8 y5)) (.co (.x (.ar 8 (.i .i64))) (.co (.so 4) (.co (.so 5) .ni))))))))))))) .ni)))))),.ar iX,.ar y8,.mp (.i .i64) iX,.ar iX,.ar y2],kl:=[0,168,186,231,232]},e:=[(.ret,{vs:=[(8,.x (.i .i64))],gs:=(.co (.op 0 mH []) .ni),os:=[.bx mH (.rc (.co (.x y4) (.co (.x (.sl (.sl (.sl (.i .i64))))) (.co (.so 1) (.co (.x pg) (.co (.rc (.co (.x (.i .i64)) (.co (.x y7) (.co (.x (.i .i64)) (.co (.om 2) (.co (.x (.i .i64)) (.co (.x (.i .i64)) (.co (.x (.i .i64)) (.co (.x (.i .i64)) (.co (.x (.ar 8 y5)) (.co (.x (.ar 8 (.i .i64))) (.co (.so 3) (.co (.so 4) .ni))))))))))))) .ni)))))),.ar y8,.mp (.i .i64) iX,.ar iX,.ar y2],kl:=[0,168,186,231,232]}),(.exit 0,{vs:=[(0,.op 0 mH []),(13,.so 1)],gs:=(.co (.op 0 mH []) .ni),os:=[.bx mH (.rc (.co (.x y4) (.co (.x (.sl (.sl (.sl (.i .i64))))) (.co (.so 2) (.co (.x pg) (.co (.rc (.co (.x (.i .i64)) (.co (.x y7) (.co (.x (.i .i64)) (.co (.om 3) (.co (.x (.i .i64)) (.co (.x (.i .i64)) (.co (.x (.i .i64)) (.co (.x (.i .i64)) (.co (.x (.ar 8 y5)) (.co (.x (.ar 8 (.i .i64))) (.co (.so 4) (.co (.so 5) .ni))))))))))))) .ni)))))),.ar iX,.ar y8,.mp (.i .i64) iX,.ar iX,.ar y2],kl:=[0,168,186,231,232]})]}),(47,{j:=some {vs:=[(13,.so 0),(94,.x (.i .i64))],os:=[.ar iX],kl:=[252]},e:=[(.exit 2,{vs:=[(13,.so 0)],os:=[.ar iX],kl:=[252]})]})]) (.cons QU (.cons XC (.cons V8 (.cons Xv (.cons aas (.cons aaR (.cons KI (.cons QS (.cons Ub .nil))))))))) (by kernel_rfl) (by kernel_rfl)
def ez(s_0:Sl ai):Option (Sl ai):=
 bif s_0.od then(some Sl.nil)else
 ((g_ ([]++s_0.l)).bind fun l1=>
 some (BT (Sl.mk []) s_0.l l1))
def Y5:dG:=⟨[(false,.x (.sl y8))],[([.os y8],[])],true,[],fun p=>match p with|s_0=>ez s_0⟩
theorem aaQ:aL prog 35 Y5:=aH mixed (lp:=ek) (aS:=aS) (np:=1) (an:=[]) .nil (by kernel_rfl) (by kernel_rfl)
def mj(x_0_c:aj)(x_0_routes:Sl (Sl (Sl Int)))(x_0_l:Sl ai)(x_0_at:ad)(x_0_volatile_phase:Int)(x_0_volatile_plan:am)(x_0_volatile_cur:Int)(x_0_volatile_want:Mp Int aa)(x_0_volatile_sent:Int)(x_0_volatile_rest:Int)(x_0_volatile_skip:Int)(x_0_volatile_healed:Int)(x_0_volatile_est:Arr 8 ak)(x_0_volatile_asked:Arr 8 Int)(x_0_volatile_out:Sl aa)(x_0_volatile_events:Sl aw):Option (Sl ai×aj×Sl (Sl (Sl Int))×Sl ai×ad×Int×am×Int×Mp Int aa×Int×Int×Int×Int×Arr 8 ak×Arr 8 Int×Sl aa×Sl aw):=
 (ez x_0_l).bind fun s1=>
 some (s1,x_0_c,x_0_routes,x_0_l,x_0_at,x_0_volatile_phase,x_0_volatile_plan,x_0_volatile_cur,x_0_volatile_want,x_0_volatile_sent,x_0_volatile_rest,x_0_volatile_skip,x_0_volatile_healed,x_0_volatile_est,x_0_volatile_asked,x_0_volatile_out,x_0_volatile_events)
def Y4:dG:=⟨[(true,h0)],[([.os y8],[h0])],false,[true],fun p=>match p with|(x_0_c,x_0_routes,x_0_l,x_0_at,x_0_volatile_phase,x_0_volatile_plan,x_0_volatile_cur,x_0_volatile_want,x_0_volatile_sent,x_0_volatile_rest,x_0_volatile_skip,x_0_volatile_healed,x_0_volatile_est,x_0_volatile_asked,x_0_volatile_out,x_0_volatile_events)=>mj x_0_c x_0_routes x_0_l x_0_at x_0_volatile_phase x_0_volatile_plan x_0_volatile_cur x_0_volatile_want x_0_volatile_sent x_0_volatile_rest x_0_volatile_skip x_0_volatile_healed x_0_volatile_est x_0_volatile_asked x_0_volatile_out x_0_volatile_events⟩
theorem V6:aL prog 13 Y4:=aH mixed (lp:=ek) (aS:=aS) (np:=1) (an:=[]) (.cons aaQ .nil) (by kernel_rfl) (by kernel_rfl)
def tT:(Int×aj×Sl (Sl (Sl Int))×ad×Int×am×Int×Int×Int×Int×Int×Arr 8 ak×Arr 8 Int×Sl ai×Mp Int aa×Sl aa×Sl aw)->Option ((Int×aj×Sl (Sl (Sl Int))×ad×Int×am×Int×Int×Int×Int×Int×Arr 8 ak×Arr 8 Int×Sl ai×Mp Int aa×Sl aa×Sl aw)⊕(aj×Sl (Sl (Sl Int))×ad×Int×am×Int×Int×Int×Int×Int×Arr 8 ak×Arr 8 Int×Sl ai×Mp Int aa×Sl aa×Sl aw)):=fun(i106,x107,s108,x109,i110,x111,i112,i113,i114,i115,i116,v117,v118,s119,m120,s121,s122)=>
 bif decide (i106<3)then((j5 x107 s108 s119 x109 i110 x111 i112 m120 i113 i114 i115 i116 v117 v118 s121 s122 0 (⟨2,i106,0,0,0,wr .i64 (3*i106),0,0,0,Sl.nil⟩:aa) 7).bind fun(q123,q124,s125,q126,q127,q128,q129,q130,q131,q132,q133,q134,q135,q136,s137,s138)=>
 some (.inl (wr .i64 (i106+1),q123,q124,q126,q127,q128,q129,q131,q132,q133,q134,q135,q136,s125,q130,s137,s138)))else
 (some (.inr (x107,s108,x109,i110,x111,i112,i113,i114,i115,i116,v117,v118,s119,m120,s121,s122)))
def jV:Option Bool:=
 (xF).bind fun r1=>
 (sY r1).bind fun
 |.inl r2=>((sY (⟨(⟨1,Sl.nil,Sl.nil⟩:ao),(Sl.mk [Sl.nil,Sl.nil]),(Sl.mk [0]),0,0,0,0,0,1⟩:aj)).bind fun
 |.inl r3=>(bif((r2 !=0)||(r3 !=0))then(some false)else
 ((jZ 0 7).bind fun _=>
 none))
 |.inr (_,_,_,_,_,_,_,_,_,_,_,_,_,_,_,_,r20)=>(bif((r2 !=0)||(r20 !=0))then(some false)else
 ((jZ 0 7).bind fun _=>
 none)))
 |.inr (r21,r22,s23,r24,r25,r26,r27,r28,r29,r30,r31,r32,r33,r34,s35,s36,r37)=>((sY (⟨(⟨1,Sl.nil,Sl.nil⟩:ao),(Sl.mk [Sl.nil,Sl.nil]),(Sl.mk [0]),0,0,0,0,0,1⟩:aj)).bind fun
 |.inl r38=>(bif((r37 !=0)||(r38 !=0))then(some false)else
 ((jc r21 r22 s23 r24 r25 r26 r27 r28 r29 r30 r31 r32 r33 r34 s35 s36 0 7).bind fun(_,_,_,_,_,_,_,_,_,_,_,_,_,_,_,_)=>
 none))
 |.inr (r55,r56,s57,r58,r59,r60,r61,r62,r63,r64,r65,r66,r67,r68,s69,s70,r71)=>(bif((r37 !=0)||(r71 !=0))then(some false)else
 ((jc r21 r22 s23 r24 r25 r26 r27 r28 r29 r30 r31 r32 r33 r34 s35 s36 0 7).bind fun(q72,q73,s74,q75,q76,q77,q78,q79,q80,q81,q82,q83,q84,q85,s86,s87)=>
 (aU (tT) (0,q72,q73,q75,q76,q77,q78,q80,q81,q82,q83,q84,q85,s74,q79,s86,s87)).bind fun(x139,s140,x141,i142,x143,i144,i145,i146,i147,i148,v149,v150,s151,m152,s153,s154)=>
 (kA x139 s140 s151 x141 i142 x143 i144 m152 i145 i146 i147 i148 v149 v150 s153 s154).bind fun(r155,_,q157,q158,s159,q160,q161,q162,q163,q164,q165,q166,q167,q168,q169,q170,s171,s172)=>
 (iv q157 q158 s159 q160 q161 q162 q163 q164 q165 q166 q167 q168 q169 q170 s171 s172 1 1 7).bind fun(r173,q174,q175,s176,q177,q178,q179,q180,q181,q182,q183,q184,q185,q186,q187,s188,s189)=>
 (kA q174 q175 s176 q177 q178 q179 q180 q181 q182 q183 q184 q185 q186 q187 s188 s189).bind fun(r190,r191,q192,q193,s194,q195,q196,q197,q198,q199,q200,q201,q202,q203,q204,q205,s206,s207)=>
 (bif(((r155.l.length:Int)==3)&&(r173==0))then((eJ q192 q193 s194 q195 q196 q197 q198 q199 q200 q201 q202 q203 q204 q205 s206 s207).bind fun(r208,q209,q210,s211,q212,q213,q214,q215,q216,q217,q218,q219,q220,q221,q222,s223,s224)=>
 bif(((r208==1)&&((r190.l.length:Int)==2))&&((r191.l.length:Int)==1))then((cH 0 r191.l.length).bind fun n225=>
 bif((aw.cY (gt r191.l n225))==8)then((iv r55 r56 s57 r58 r59 r60 r61 r62 r63 r64 r65 r66 r67 r68 s69 s70 0 1 1).bind fun(r226,_,_,_,_,_,_,_,_,_,_,_,_,_,_,_,_)=>
 bif(r226==7)then((mj q209 q210 s211 q212 q213 q214 q215 q216 q217 q218 q219 q220 q221 q222 s223 s224).bind fun(s243,_,_,_,_,_,_,_,_,_,_,_,_,_,_,_,_)=>
 some ((s243.l.length:Int)==1))else
 (some false))else
 (some false))else
 (some false))else
 (some false):Option Bool).bind fun b260=>
 some b260)))
def Y3:dG:=⟨[],[([.x .b],[])],true,[],fun p=>match p with|_=>jV⟩
theorem aaP:aL prog 9 Y3:=aH mixed (lp:=ek) (aS:=aS) (np:=0) (an:=[(16,{j:=some {vs:=[(1,.op 0 mH []),(5,.x (.i .i64))],os:=[.bx mH (.rc (.co (.x y4) (.co (.x (.sl (.sl (.sl (.i .i64))))) (.co (.so 1) (.co (.x pg) (.co (.rc (.co (.x (.i .i64)) (.co (.x y7) (.co (.x (.i .i64)) (.co (.om 2) (.co (.x (.i .i64)) (.co (.x (.i .i64)) (.co (.x (.i .i64)) (.co (.x (.i .i64)) (.co (.x (.ar 8 y5)) (.co (.x (.ar 8 (.i .i64))) (.co (.so 3) (.co (.so 4) .ni))))))))))))) .ni)))))),.ar y8,.mp (.i .i64) iX,.ar iX,.ar y2],kl:=[11,183,201,246,247]},e:=[(.exit 0,{vs:=[(1,.op 0 mH [])],os:=[.bx mH (.rc (.co (.x y4) (.co (.x (.sl (.sl (.sl (.i .i64))))) (.co (.so 1) (.co (.x pg) (.co (.rc (.co (.x (.i .i64)) (.co (.x y7) (.co (.x (.i .i64)) (.co (.om 2) (.co (.x (.i .i64)) (.co (.x (.i .i64)) (.co (.x (.i .i64)) (.co (.x (.i .i64)) (.co (.x (.ar 8 y5)) (.co (.x (.ar 8 (.i .i64))) (.co (.so 3) (.co (.so 4) .ni))))))))))))) .ni)))))),.ar y8,.mp (.i .i64) iX,.ar iX,.ar y2],kl:=[11,183,201,246,247]})]}),(30,{j:=some {vs:=[(0,.x .b)],kl:=[92,105,123,168,169,248,422,440,485,486]}})]) (.cons aeF (.cons aay (.cons aeD (.cons Wg (.cons Wd (.cons Wb (.cons V7 (.cons QU (.cons V6 .nil))))))))) (by kernel_rfl) (by kernel_rfl)
def tS(l_0:Sl aa)(n_1:Int):Option (aa×Bool×Sl aa):=
 bif(((l_0.l.length:Int)==0)||(decide (n_1<0)))then(some ((⟨0,0,0,0,0,0,0,0,0,Sl.nil⟩:aa),false,l_0))else
 ((Qo .i64 n_1 (l_0.l.length:Int)).bind fun i1=>
 (cH i1 l_0.l.length).bind fun n2=>
 some (gt l_0.l n2,true,l_0))
def Y2:dG:=⟨[(true,.os iX),(false,.x (.i .i64))],[([.x iX,.x .b],[.os iX])],false,[true,false],fun p=>match p with|(l_0,n_1)=>tS l_0 n_1⟩
theorem aaO:aL prog 33 Y2:=aH mixed (lp:=ek) (aS:=aS) (np:=2) (an:=[]) .nil (by kernel_rfl) (by kernel_rfl)
def sU(m_0:aa):Option aa:=
 bif((aa.cY m_0)==1)then(some (⟨2,aa.Sw m_0,0,0,aa.T1 m_0,wr .i64 ((aa.T1 m_0)+(wr .i64 (3*(aa.Sw m_0)))),0,0,0,Sl.nil⟩:aa))else
 (some (⟨7,aa.Sw m_0,aa.U m_0,aa.Rd m_0,0,0,0,aa.cY m_0,0,Sl.nil⟩:aa))
def Y1:dG:=⟨[(false,.x iX)],[([.x iX],[])],false,[],fun p=>match p with|m_0=>sU m_0⟩
theorem aaN:aL prog 34 Y1:=aH mixed (lp:=ek) (aS:=aS) (np:=1) (an:=[]) .nil (by kernel_rfl) (by kernel_rfl)
def rO(x_0_c:aj)(x_0_routes:Sl (Sl (Sl Int)))(x_0_l:Sl ai)(x_0_at:ad)(_x_0_volatile_phase:Int)(_x_0_volatile_plan:am)(_x_0_volatile_cur:Int)(_x_0_volatile_want:Mp Int aa)(_x_0_volatile_sent:Int)(_x_0_volatile_rest:Int)(_x_0_volatile_skip:Int)(_x_0_volatile_healed:Int)(_x_0_volatile_est:Arr 8 ak)(_x_0_volatile_asked:Arr 8 Int)(_x_0_volatile_out:Sl aa)(_x_0_volatile_events:Sl aw):Option (aj×Sl (Sl (Sl Int))×Sl ai×ad×Int×am×Int×Mp Int aa×Int×Int×Int×Int×Arr 8 ak×Arr 8 Int×Sl aa×Sl aw):=
 (pS).bind fun(_,r2,r3,r4,r5,r6,r7,r8,r9,r10,s11,s12)=>
 some (x_0_c,x_0_routes,x_0_l,x_0_at,6,r2,r3,r4,r5,r6,r7,r8,r9,r10,s11,s12)
def Y0:dG:=⟨[(true,h0)],[([],[h0])],false,[true],fun p=>match p with|(x_0_c,x_0_routes,x_0_l,x_0_at,x_0_volatile_phase,x_0_volatile_plan,x_0_volatile_cur,x_0_volatile_want,x_0_volatile_sent,x_0_volatile_rest,x_0_volatile_skip,x_0_volatile_healed,x_0_volatile_est,x_0_volatile_asked,x_0_volatile_out,x_0_volatile_events)=>rO x_0_c x_0_routes x_0_l x_0_at x_0_volatile_phase x_0_volatile_plan x_0_volatile_cur x_0_volatile_want x_0_volatile_sent x_0_volatile_rest x_0_volatile_skip x_0_volatile_healed x_0_volatile_est x_0_volatile_asked x_0_volatile_out x_0_volatile_events⟩
theorem aaM:aL prog 25 Y0:=aH mixed (lp:=ek) (aS:=aS) (np:=1) (an:=[]) (.cons aaz .nil) (by kernel_rfl) (by kernel_rfl)
end Go.Proofs.YtoekkpmeeclpeaaGreat.S
