/- What functions of the program compute, and that the model's run computes it. Conditions: as stated. -/
import Derived.Test.YtingpmogbibghaaKo
import Derived.Test.YtingpmogbibghaaChecked
import Derived.KernelRfl
open Go.Ev Go
noncomputable section
namespace Go.Proofs.Ytingpmogbibghaa.S
abbrev prog:Program:=Try.prog
theorem cM:prog.follows .mixedOrders=true:=by kernel_rfl
theorem cN:nd:=Re fun _=>rfl
def cE:Cq:=fun f=>if f=9 then(true,[])else if f=10 then(true,[])else if f=13 then(true,[])else if f=15 then(true,[])else if f=18 then(true,[])else if f=19 then(true,[])else if f=22 then(true,[])else if f=33 then(true,[])else if f=51 then(true,[])else if f=56 then(true,[])else if f=57 then(true,[])else if f=58 then(true,[])else if f=61 then(true,[])else if f=64 then(true,[])else if f=71 then(true,[])else if f=72 then(true,[])else if f=74 then(true,[])else if f=75 then(true,[])else if f=76 then(true,[])else if f=77 then(true,[])else if f=79 then(true,[])else if f=81 then(true,[])else if f=85 then(true,[])else if f=89 then(true,[])else if f=90 then(true,[])else if f=91 then(true,[])else if f=92 then(true,[])else if f=102 then(true,[])else if f=106 then(true,[])else if f=107 then(true,[])else if f=109 then(true,[])else if f=110 then(true,[true,false])else if f=111 then(true,[])else if f=113 then(true,[])else if f=115 then(true,[])else if f=117 then(true,[])else if f=118 then(true,[])else if f=120 then(true,[])else if f=121 then(true,[])else if f=124 then(true,[])else if f=126 then(true,[])else if f=127 then(true,[])else if f=130 then(true,[])else if f=134 then(true,[])else if f=135 then(true,[])else if f=136 then(true,[true,false,false])else if f=137 then(true,[true,false])else if f=138 then(true,[])else if f=139 then(true,[])else if f=140 then(true,[])else if f=141 then(true,[])else if f=143 then(true,[])else if f=144 then(true,[])else if f=145 then(true,[])else if f=146 then(true,[])else if f=147 then(true,[])else if f=148 then(true,[])else if f=153 then(true,[])else if f=154 then(true,[])else if f=156 then(true,[])else if f=157 then(true,[true,false,false,false])else if f=158 then(true,[true,false,false,false,false])else if f=159 then(true,[true,false,false,false,false])else if f=160 then(true,[])else if f=161 then(true,[])else if f=162 then(true,[true,false,false,false,false])else if f=163 then(true,[true,false,false,false,false])else if f=164 then(true,[])else if f=165 then(true,[true,false,false,false,false])else if f=166 then(true,[true,false,false,false])else if f=175 then(true,[])else if f=178 then(true,[true,false,false,false,false])else(false,[])
def UN:Cq:=fun f=>if f=1000000000 then(true,[])else cE f
@[reducible] def aX:Type:=Int×Int×Int×Int×Int×Int
@[reducible] def aX.A (x:aX):Int:=x.1
@[reducible] def aX.jJ (x:aX):Int:=x.2.1
@[reducible] def aX.B (x:aX):Int:=x.2.2.1
@[reducible] def aX.jI (x:aX):Int:=x.2.2.2.1
@[reducible] def aX.pX (x:aX):Int:=x.2.2.2.2.1
@[reducible] def aX.uX (x:aX):Int:=x.2.2.2.2.2
@[reducible] def dQ:Type:=Int×Int
@[reducible] def dQ.At (x:dQ):Int:=x.1
@[reducible] def dQ.f_ (x:dQ):Int:=x.2
@[reducible] def aj:Type:=Int×Sl aX×Sl dQ
@[reducible] def aj.ah (x:aj):Int:=x.1
@[reducible] def aj.aP (x:aj):Sl aX:=x.2.1
@[reducible] def aj.bg (x:aj):Sl dQ:=x.2.2
@[reducible] def y1:Ty:=.st (.pr (.i .i64) (.pr (.i .i64) (.pr (.i .i64) (.pr (.i .i64) (.pr (.i .i64) (.i .i64))))))
@[reducible] def y2:Ty:=.st (.pr (.i .i64) (.i .i64))
@[reducible] def y0:Ty:=.st (.pr (.i .i64) (.pr (.sl y1) (.sl y2)))
@[reducible] def bk:Type:=Int×Int
@[reducible] def bk.sw (x:bk):Int:=x.1
@[reducible] def bk.Bf (x:bk):Int:=x.2
@[reducible] def aE:Type:=Int×Int×Int
@[reducible] def aE.f_ (x:aE):Int:=x.1
@[reducible] def aE.To (x:aE):Int:=x.2.1
@[reducible] def aE.iI (x:aE):Int:=x.2.2
@[reducible] def y3:Ty:=.st (.pr (.i .i64) (.pr (.i .i64) (.i .i64)))
def ri(t_0:aj)(w_1:Sl Int):Option Bool:=some (((decide ((((aj.aP t_0).l).length:Int)<=30))&&(decide ((((aj.bg t_0).l).length:Int)<=12)))&&(decide ((w_1.l.length:Int)<=30)))
def VX:kD:=⟨[(false,.x y0),(false,.x (.sl (.i .u64)))],[([.x .b],[])],true,[],fun p=>match p with|(t_0,w_1)=>ri t_0 w_1⟩
theorem Wn:cm prog 56 VX:=bM cM cN (cE:=cE) (np:=2) (an:=[]) .nil (by kernel_rfl) (by kernel_rfl)
def mX(t_0:aj)(sw_1:Int)(p_2:Int):(Int×Int)->Option ((Int×Int)⊕Int):=fun(i3,i4)=>
 bif decide (i4<(((aj.aP t_0).l).length:Int))then(((cZ i4 ((aj.aP t_0).l).length).bind fun n5=>
 (bif(((aX.A (gt ((aj.aP t_0).l) n5))==sw_1)&&((aX.jJ (gt ((aj.aP t_0).l) n5))==p_2))then(some (wr .i64 (i3+1)))else
 (some i3):Option Int).bind fun i6=>
 bif(((aX.B (gt ((aj.aP t_0).l) n5))==sw_1)&&((aX.jI (gt ((aj.aP t_0).l) n5))==p_2))then(some (wr .i64 (i6+1)))else
 (some i6):Option Int).bind fun i7=>
 some (.inl (i7,wr .i64 (i4+1))))else
 (some (.inr i3))
def mW(t_0:aj)(sw_1:Int)(p_2:Int):(Int×Int)->Option ((Int×Int)⊕Int):=fun(i11,i12)=>
 bif decide (i12<(((aj.bg t_0).l).length:Int))then((((cZ i12 ((aj.bg t_0).l).length).bind fun n13=>
 bif((dQ.At (gt ((aj.bg t_0).l) n13))==sw_1)then((cZ i12 ((aj.bg t_0).l).length).bind fun n14=>
 some ((dQ.f_ (gt ((aj.bg t_0).l) n14))==p_2))else
 (some false):Option Bool).bind fun b15=>
 bif b15 then(some (wr .i64 (i11+1)))else
 (some i11):Option Int).bind fun i16=>
 some (.inl (i16,wr .i64 (i12+1))))else
 (some (.inr i11))
def oV(t_0:aj)(sw_1:Int)(p_2:Int):Option Bool:=
 (aY (mX t_0 sw_1 p_2) (0,0)).bind fun i8=>
 (aY (mW t_0 sw_1 p_2) (i8,0)).bind fun i17=>
 some (((((decide (sw_1>=0))&&(decide (sw_1<(aj.ah t_0))))&&(decide (p_2>=0)))&&(decide (p_2<=7)))&&(i17==1))
def We:kD:=⟨[(false,.x y0),(false,.x (.i .i64)),(false,.x (.i .i64))],[([.x .b],[])],true,[],fun p=>match p with|(t_0,sw_1,p_2)=>oV t_0 sw_1 p_2⟩
theorem Wm:cm prog 102 We:=bM cM cN (cE:=cE) (np:=3) (an:=[(7,{j:=some {vs:=[(7,.x (.i .i64)),(8,.x (.i .i64))]},e:=[(.exit 0,{vs:=[(7,.x (.i .i64))]})]}),(11,{e:=[(.normal,{vs:=[(7,.x (.i .i64))]})]}),(14,{e:=[(.normal,{vs:=[(7,.x (.i .i64))]})]}),(25,{j:=some {vs:=[(7,.x (.i .i64)),(10,.x (.i .i64))]},e:=[(.exit 2,{vs:=[(7,.x (.i .i64))]})]}),(29,{e:=[(.normal,{vs:=[(7,.x (.i .i64))]})]}),(31,{j:=some {vs:=[(71,.x .b)]}})]) .nil (by kernel_rfl) (by kernel_rfl)
def od(t_0:aj):Int->Option (Int⊕(Bool⊕Unit)):=fun i2=>
 bif decide (i2<(((aj.aP t_0).l).length:Int))then((cZ i2 ((aj.aP t_0).l).length).bind fun n3=>
 (bif(((((aX.A (gt ((aj.aP t_0).l) n3))==(aX.B (gt ((aj.aP t_0).l) n3)))||(decide ((aX.pX (gt ((aj.aP t_0).l) n3))<1)))||(decide ((aX.pX (gt ((aj.aP t_0).l) n3))>(aX.uX (gt ((aj.aP t_0).l) n3)))))||(decide ((aX.uX (gt ((aj.aP t_0).l) n3))>1000)))then(some true)else
 ((oV t_0 (aX.A (gt ((aj.aP t_0).l) n3)) (aX.jJ (gt ((aj.aP t_0).l) n3))).bind fun r4=>
 bif(!r4)then(some true)else
 ((oV t_0 (aX.B (gt ((aj.aP t_0).l) n3)) (aX.jI (gt ((aj.aP t_0).l) n3))).bind fun r5=>
 some (!r5))):Option Bool).bind fun b6=>
 bif b6 then(some (.inr (.inl false)))else
 (some (.inl (wr .i64 (i2+1)))))else
 (some (.inr (.inr ())))
def oc(t_0:aj):Int->Option (Int⊕(Bool⊕Unit)):=fun i9=>
 bif decide (i9<(((aj.bg t_0).l).length:Int))then((cZ i9 ((aj.bg t_0).l).length).bind fun n10=>
 (cZ i9 ((aj.bg t_0).l).length).bind fun n11=>
 (oV t_0 (dQ.At (gt ((aj.bg t_0).l) n10)) (dQ.f_ (gt ((aj.bg t_0).l) n11))).bind fun r12=>
 bif(!r12)then(some (.inr (.inl false)))else
 (some (.inl (wr .i64 (i9+1)))))else
 (some (.inr (.inr ())))
def re(t_0:aj):Option Bool:=
 bif((((decide ((aj.ah t_0)<1))||(decide ((aj.ah t_0)>8)))||(decide ((((aj.aP t_0).l).length:Int)>24)))||(decide ((((aj.bg t_0).l).length:Int)>8)))then(some false)else
 ((aY (od t_0) 0).bind fun
 |.inl b7=>(some b7)
 |.inr _=>((aY (oc t_0) 0).bind fun
 |.inl b13=>(some b13)
 |.inr _=>(some true)))
def Wd:kD:=⟨[(false,.x y0)],[([.x .b],[])],true,[],fun p=>match p with|t_0=>re t_0⟩
theorem Wl:cm prog 51 Wd:=bM cM cN (cE:=cE) (np:=1) (an:=[(10,{j:=some {vs:=[(3,.x (.i .i64))]},e:=[(.ret,{vs:=[(2,.x .b)]}),(.exit 0,{})]}),(18,{j:=some {vs:=[(77,.x .b)]}}),(25,{j:=some {vs:=[(5,.x (.i .i64))]},e:=[(.ret,{vs:=[(2,.x .b)]}),(.exit 2,{})]})]) (.cons Wm .nil) (by kernel_rfl) (by kernel_rfl)
def sY(n_0:Int):Option Bool:=some ((decide (n_0<=9218868437227405312))||(n_0==9223372036854775808))
def Wc:kD:=⟨[(false,.x (.i .u64))],[([.x .b],[])],true,[],fun p=>match p with|n_0=>sY n_0⟩
theorem Wk:cm prog 15 Wc:=bM cM cN (cE:=cE) (np:=1) (an:=[]) .nil (by kernel_rfl) (by kernel_rfl)
def n_(w_0:Sl Int):Int->Option (Int⊕(Bool⊕Unit)):=fun i2=>
 bif decide (i2<(w_0.l.length:Int))then((cZ i2 w_0.l.length).bind fun n3=>
 (sY (gt w_0.l n3)).bind fun r4=>
 bif(!r4)then(some (.inr (.inl false)))else
 (some (.inl (wr .i64 (i2+1)))))else
 (some (.inr (.inr ())))
def t7(w_0:Sl Int)(links_1:Int):Option Bool:=
 (aY (n_ w_0) 0).bind fun
 |.inl b5=>(some b5)
 |.inr _=>(some ((w_0.l.length:Int)==links_1))
def Wb:kD:=⟨[(false,.x (.sl (.i .u64))),(false,.x (.i .i64))],[([.x .b],[])],true,[],fun p=>match p with|(w_0,links_1)=>t7 w_0 links_1⟩
theorem Wj:cm prog 106 Wb:=bM cM cN (cE:=cE) (np:=2) (an:=[(5,{j:=some {vs:=[(5,.x (.i .i64))]},e:=[(.ret,{vs:=[(4,.x .b)]}),(.exit 0,{})]})]) (.cons Wk .nil) (by kernel_rfl) (by kernel_rfl)
def mj(t_0:aj)(w_1:Sl Int):Option Bool:=
 ((re t_0).bind fun r1=>
 bif r1 then((t7 w_1 (((aj.aP t_0).l).length:Int)).bind fun r2=>
 some r2)else
 (some false):Option Bool).bind fun b3=>
 some b3
def Wa:kD:=⟨[(false,.x y0),(false,.x (.sl (.i .u64)))],[([.x .b],[])],true,[],fun p=>match p with|(t_0,w_1)=>mj t_0 w_1⟩
theorem U9:cm prog 57 Wa:=bM cM cN (cE:=cE) (np:=2) (an:=[(3,{j:=some {vs:=[(4,.x .b)]}})]) (.cons Wl (.cons Wj .nil)) (by kernel_rfl) (by kernel_rfl)
def l6(t_0:aj):(Int×Sl bk)->Option ((Int×Sl bk)⊕(Sl bk)):=fun(i4,s5)=>
 bif decide (i4<(((aj.aP t_0).l).length:Int))then((cZ i4 ((aj.aP t_0).l).length).bind fun n6=>
 (m_ (s5.l++[(⟨aX.A (gt ((aj.aP t_0).l) n6),aX.jJ (gt ((aj.aP t_0).l) n6)⟩:bk),(⟨aX.B (gt ((aj.aP t_0).l) n6),aX.jI (gt ((aj.aP t_0).l) n6)⟩:bk)])).bind fun l7=>
 some (.inl (wr .i64 (i4+1),(Sl.mk l7))))else
 (some (.inr s5))
def lZ(t_0:aj):(Int×Sl bk)->Option ((Int×Sl bk)⊕(Sl bk)):=fun(i11,s12)=>
 bif decide (i11<(((aj.bg t_0).l).length:Int))then((cZ i11 ((aj.bg t_0).l).length).bind fun n13=>
 (m_ (s12.l++[gt ((aj.bg t_0).l) n13])).bind fun l14=>
 some (.inl (wr .i64 (i11+1),(Sl.mk l14))))else
 (some (.inr s12))
def nI(t_0:aj):Option (Sl bk):=
 (aY (l6 t_0) (0,Sl.nil)).bind fun s8=>
 (aY (lZ t_0) (0,s8)).bind fun s15=>
 some s15
def V_:kD:=⟨[(false,.x y0)],[([.x (.sl y2)],[])],false,[],fun p=>match p with|t_0=>nI t_0⟩
theorem Wi:cm prog 131 V_:=bM cM cN (cE:=cE) (np:=1) (an:=[(7,{j:=some {vs:=[(3,.so 0),(11,.x (.i .i64))],os:=[.ar y2]},e:=[(.exit 0,{vs:=[(3,.so 0)],os:=[.ar y2]})]}),(19,{j:=some {vs:=[(3,.so 0),(32,.x (.i .i64))],os:=[.ar y2],kl:=[1]},e:=[(.exit 2,{vs:=[(3,.so 0)],os:=[.ar y2],kl:=[1]})]})]) .nil (by kernel_rfl) (by kernel_rfl)
def mQ(t_0:aj):Int->Option (Int⊕(Bool⊕Unit)):=fun i2=>
 bif decide (i2<(((aj.aP t_0).l).length:Int))then((cZ i2 ((aj.aP t_0).l).length).bind fun n3=>
 bif(((((aX.A (gt ((aj.aP t_0).l) n3))==(aX.B (gt ((aj.aP t_0).l) n3)))||(decide ((aX.pX (gt ((aj.aP t_0).l) n3))<1)))||(decide ((aX.pX (gt ((aj.aP t_0).l) n3))>(aX.uX (gt ((aj.aP t_0).l) n3)))))||(decide ((aX.uX (gt ((aj.aP t_0).l) n3))>1000)))then(some (.inr (.inl false)))else
 (some (.inl (wr .i64 (i2+1)))))else
 (some (.inr (.inr ())))
def ji(t_0:aj)(r5:Sl bk):(Int×Mp bk Int)->Option ((Int×Mp bk Int)⊕(Bool⊕Unit)):=fun(i9,m10)=>
 bif decide (i9<(r5.l.length:Int))then((cZ i9 r5.l.length).bind fun n11=>
 (wy ((m6 m10 0 (gt r5.l n11)).1) ((m6 m10 0 (gt r5.l n11)).2.2) (wr .i64 ((pT m10 0 (gt r5.l n11))+1))).bind fun m12=>
 bif(((((decide ((bk.sw (gt r5.l n11))<0))||(decide ((bk.sw (gt r5.l n11))>=(aj.ah t_0))))||(decide ((bk.Bf (gt r5.l n11))<0)))||(decide ((bk.Bf (gt r5.l n11))>=8)))||(decide ((pT m12 0 (gt r5.l n11))>1)))then(some (.inr (.inl false)))else
 (some (.inl (wr .i64 (i9+1),m12))))else
 (some (.inr (.inr ())))
def oP(t_0:aj):Option Bool:=
 bif((((decide ((aj.ah t_0)<1))||(decide ((aj.ah t_0)>8)))||(decide ((((aj.aP t_0).l).length:Int)>24)))||(decide ((((aj.bg t_0).l).length:Int)>8)))then(some false)else
 ((aY (mQ t_0) 0).bind fun
 |.inl b4=>(some b4)
 |.inr _=>((nI t_0).bind fun r5=>
 (aY (ji t_0 r5) (0,(Mp.none:Mp bk Int))).bind fun
 |.inl b13=>(some b13)
 |.inr _=>(some true)))
def V9:kD:=⟨[(false,.x y0)],[([.x .b],[])],true,[],fun p=>match p with|t_0=>oP t_0⟩
theorem Wh:cm prog 92 V9:=bM cM cN (cE:=cE) (np:=1) (an:=[(10,{j:=some {vs:=[(31,.x (.i .i64))]},e:=[(.ret,{vs:=[(2,.x .b)]}),(.exit 0,{})]}),(27,{j:=some {vs:=[(5,.om 0),(62,.x (.i .i64))],os:=[.mp y2 (.i .i64)],kl:=[1]},e:=[(.ret,{vs:=[(2,.x .b)],kl:=[1]}),(.exit 2,{kl:=[1]})]})]) (.cons Wi .nil) (by kernel_rfl) (by kernel_rfl)
def tt(x_0:Nat):Option Bool:=some (IR .f64 x_0 0||DH .f64 x_0 0)
def V8:kD:=⟨[(false,.x (.f .f64))],[([.x .b],[])],true,[],fun p=>match p with|x_0=>tt x_0⟩
theorem Wg:cm prog 18 V8:=bM cM cN (cE:=cE) (np:=1) (an:=[]) .nil (by kernel_rfl) (by kernel_rfl)
def rt(x_0:Nat):Option Bool:=
 (tt x_0).bind fun r1=>
 some (!r1)
def V7:kD:=⟨[(false,.x (.f .f64))],[([.x .b],[])],true,[],fun p=>match p with|x_0=>rt x_0⟩
theorem Wf:cm prog 154 V7:=bM cM cN (cE:=cE) (np:=1) (an:=[]) (.cons Wg .nil) (by kernel_rfl) (by kernel_rfl)
def bU(s_0:Sl Nat):Int->Option (Int⊕(Int⊕Unit)):=fun i2=>
 bif decide (i2<(s_0.l.length:Int))then((cZ i2 s_0.l.length).bind fun n3=>
 (rt (gt s_0.l n3)).bind fun r4=>
 bif r4 then(some (.inr (.inl i2)))else
 (some (.inl (wr .i64 (i2+1)))))else
 (some (.inr (.inr ())))
def bG(s_0:Sl Nat):Option Int:=
 (aY (bU s_0) 0).bind fun
 |.inl i5=>(some i5)
 |.inr _=>(some (-1))
def UM:kD:=⟨[(false,.x (.sl (.f .f64))),(false,.fn 154 .ni)],[([.x (.i .i64)],[])],true,[],fun p=>match p with|s_0=>bG s_0⟩
theorem Vx:cm prog 164 UM:=bM cM cN (cE:=cE) (np:=2) (an:=[(5,{j:=some {vs:=[(8,.x (.i .i64))]},e:=[(.ret,{vs:=[(4,.x (.i .i64))]}),(.exit 0,{})]})]) (.cons Wf .nil) (by kernel_rfl) (by kernel_rfl)
def bA(s_0:Sl Nat):Option Bool:=
 (bG s_0).bind fun r1=>
 some (decide (r1>=0))
def UL:kD:=⟨[(false,.x (.sl (.f .f64))),(false,.fn 154 .ni)],[([.x .b],[])],true,[],fun p=>match p with|s_0=>bA s_0⟩
theorem Vw:cm prog 153 UL:=bM cM cN (cE:=cE) (np:=2) (an:=[]) (.cons Vx .nil) (by kernel_rfl) (by kernel_rfl)
def pm(w_0:Sl Nat)(links_1:Int):Option Bool:=
 (bif((w_0.l.length:Int)==links_1)then((bA w_0).bind fun r1=>
 some (!r1))else
 (some false):Option Bool).bind fun b2=>
 some b2
def UK:kD:=⟨[(false,.x (.sl (.f .f64))),(false,.x (.i .i64))],[([.x .b],[])],true,[],fun p=>match p with|(w_0,links_1)=>pm w_0 links_1⟩
theorem Vv:cm prog 134 UK:=bM cM cN (cE:=cE) (np:=2) (an:=[(3,{j:=some {vs:=[(4,.x .b)]}})]) (.cons Vw .nil) (by kernel_rfl) (by kernel_rfl)
def j_(t_0:aj)(w_1:Sl Nat):Option Bool:=
 ((oP t_0).bind fun r1=>
 bif r1 then((pm w_1 (((aj.aP t_0).l).length:Int)).bind fun r2=>
 some r2)else
 (some false):Option Bool).bind fun b3=>
 some b3
def UJ:kD:=⟨[(false,.x y0),(false,.x (.sl (.f .f64)))],[([.x .b],[])],true,[],fun p=>match p with|(t_0,w_1)=>j_ t_0 w_1⟩
theorem QV:cm prog 107 UJ:=bM cM cN (cE:=cE) (np:=2) (an:=[(3,{j:=some {vs:=[(4,.x .b)]}})]) (.cons Wh (.cons Vv .nil)) (by kernel_rfl) (by kernel_rfl)
theorem LU:cm prog 78 (Au true):=Hl (by kernel_rfl) (by kernel_rfl)
def sf(sign_0:Int):Option Nat:=
 (bif decide (sign_0>=0)then(some 9218868437227405312)else
 (some 18442240474082181120):Option Int).bind fun i1=>
 (p_ i1).bind fun r2=>
 some r2
def UI:kD:=⟨[(false,.x (.i .i64))],[([.x (.f .f64)],[])],true,[],fun p=>match p with|sign_0=>sf sign_0⟩
theorem SU:cm prog 109 UI:=bM cM cN (cE:=cE) (np:=1) (an:=[(4,{e:=[(.normal,{vs:=[(3,.x (.i .u64))]})]})]) (.cons LU .nil) (by kernel_rfl) (by kernel_rfl)
def lE(x_0:Int)(y_1:Int):Option (Int×Int):=some (wr .u64 ((wr .u64 ((wr .u64 ((fM .u64 x_0 32)*(fM .u64 y_1 32)))+(fM .u64 (wr .u64 ((wr .u64 ((fM .u64 x_0 32)*(AR .u64 y_1 4294967295)))+(fM .u64 (wr .u64 ((AR .u64 x_0 4294967295)*(AR .u64 y_1 4294967295))) 32))) 32)))+(fM .u64 (wr .u64 ((AR .u64 (wr .u64 ((wr .u64 ((fM .u64 x_0 32)*(AR .u64 y_1 4294967295)))+(fM .u64 (wr .u64 ((AR .u64 x_0 4294967295)*(AR .u64 y_1 4294967295))) 32))) 4294967295)+(wr .u64 ((AR .u64 x_0 4294967295)*(fM .u64 y_1 32))))) 32)),wr .u64 (x_0*y_1))
def UH:kD:=⟨[(false,.x (.i .u64)),(false,.x (.i .u64))],[([.x (.i .u64),.x (.i .u64)],[])],true,[],fun p=>match p with|(x_0,y_1)=>lE x_0 y_1⟩
theorem Vu:cm prog 156 UH:=bM cM cN (cE:=cE) (np:=2) (an:=[]) .nil (by kernel_rfl) (by kernel_rfl)
def jl(x_0:Int)(y_1:Int):Option (Int×Int):=
 (lE x_0 y_1).bind fun(r1,r2)=>
 some (r1,r2)
def UG:kD:=⟨[(false,.x (.i .u64)),(false,.x (.i .u64))],[([.x (.i .u64),.x (.i .u64)],[])],true,[],fun p=>match p with|(x_0,y_1)=>jl x_0 y_1⟩
theorem SS:cm prog 135 UG:=bM cM cN (cE:=cE) (np:=2) (an:=[]) (.cons Vu .nil) (by kernel_rfl) (by kernel_rfl)
def j9:(Int×Sl Nat)->Option ((Int×Sl Nat)⊕(Sl Nat)):=fun(i7,s8)=>
 bif decide (i7<(s8.l.length:Int))then((o5 s8.l i7 s8.l.length).bind fun l9=>
 (o5 s8.l 0 i7).bind fun l10=>
 some (.inl (wr .i64 (i7+((min ((s8.to l10).l).length ((s8.to l9).l).length:Nat):Int)),(s8.to (A4 s8.l i7.toNat ((s8.to l9).l).length ((s8.to l10).l))))))else
 (some (.inr s8))
def dz(x_0:Sl Nat)(count_1:Int):Option (Sl Nat):=
 bif decide (count_1<0)then(none)else
 ((jl (wr .u64 (x_0.l.length:Int)) (wr .u64 count_1)).bind fun(r1,r2)=>
 bif((decide (r1>0))||(decide (r2>9223372036854775807)))then(none)else
 ((A0 0 (wr .i64 r2) (wr .i64 r2)).bind fun l3=>
 (aY (j9) (((min x_0.l.length l3.length:Nat):Int),(Sl.mk (A4 l3 0 l3.length x_0.l)))).bind fun s11=>
 some s11))
def UF:kD:=⟨[(false,.x (.sl (.f .f64))),(false,.x (.i .i64))],[([.os (.f .f64)],[])],false,[],fun p=>match p with|(x_0,count_1)=>dz x_0 count_1⟩
theorem Vt:cm prog 108 UF:=bM cM cN (cE:=cE) (np:=2) (an:=[(17,{j:=some {vs:=[(7,.so 0),(8,.x (.i .i64))],os:=[.ar (.f .f64)],kl:=[2]},e:=[(.exit 0,{vs:=[(7,.so 0)],os:=[.ar (.f .f64)],kl:=[2]})]})]) (.cons SS .nil) (by kernel_rfl) (by kernel_rfl)
theorem OI:cm prog 82 (Av true):=Hm (by kernel_rfl) (by kernel_rfl)
def wE(x_0:Nat):Option Nat:=
 (ou x_0).bind fun r1=>
 (p_ (za .u64 r1 9223372036854775808)).bind fun r2=>
 some r2
def UE:kD:=⟨[(false,.x (.f .f64))],[([.x (.f .f64)],[])],true,[],fun p=>match p with|x_0=>wE x_0⟩
theorem Vs:cm prog 148 UE:=bM cM cN (cE:=cE) (np:=1) (an:=[]) (.cons OI (.cons LU .nil)) (by kernel_rfl) (by kernel_rfl)
def kr(f_0:Nat)(sign_1:Int):Option Bool:=
 (bif(sign_1==0)then((wE f_0).bind fun r1=>
 some r1)else
 (bif decide (sign_1<0)then(some (Op.negFloat .f64 f_0))else
 (some f_0)):Option Nat).bind fun f2=>
 some (IR .f64 f2 9218868437227405311)
def UD:kD:=⟨[(false,.x (.f .f64)),(false,.x (.i .i64))],[([.x .b],[])],true,[],fun p=>match p with|(f_0,sign_1)=>kr f_0 sign_1⟩
theorem SR:cm prog 126 UD:=bM cM cN (cE:=cE) (np:=2) (an:=[(2,{e:=[(.normal,{vs:=[(0,.x (.f .f64))]})]})]) (.cons Vs .nil) (by kernel_rfl) (by kernel_rfl)
def p6(x_0:Nat):Option Bool:=
 (ou x_0).bind fun r1=>
 some (decide ((wr .i64 r1)<0))
def UC:kD:=⟨[(false,.x (.f .f64))],[([.x .b],[])],true,[],fun p=>match p with|x_0=>p6 x_0⟩
theorem Vr:cm prog 127 UC:=bM cM cN (cE:=cE) (np:=1) (an:=[]) (.cons OI .nil) (by kernel_rfl) (by kernel_rfl)
def nN(x_0:Nat):Option Int:=
 bif(!(DH .f64 x_0 x_0))then(some 0)else
 ((kr x_0 (-1)).bind fun r1=>
 bif r1 then(some 1)else
 ((kr x_0 1).bind fun r2=>
 bif r2 then(some 6)else
 (bif MW .f64 x_0 0 then(some 2)else
 (bif IR .f64 x_0 0 then(some 5)else
 ((p6 x_0).bind fun r3=>
 bif r3 then(some 3)else
 (some 4))))))
def UB:kD:=⟨[(false,.x (.f .f64))],[([.x (.i .i64)],[])],true,[],fun p=>match p with|x_0=>nN x_0⟩
theorem Vq:cm prog 79 UB:=bM cM cN (cE:=cE) (np:=1) (an:=[]) (.cons SR (.cons Vr .nil)) (by kernel_rfl) (by kernel_rfl)
def lm(x_0:Nat):Option Int:=
 (nN x_0).bind fun r1=>
 bif(r1==0)then(some 2)else
 (bif(r1==3)then(some (-1))else
 (some 0))
def UA:kD:=⟨[(false,.x (.f .f64))],[([.x (.i .i64)],[])],true,[],fun p=>match p with|x_0=>lm x_0⟩
theorem Vp:cm prog 91 UA:=bM cM cN (cE:=cE) (np:=1) (an:=[]) (.cons Vq .nil) (by kernel_rfl) (by kernel_rfl)
def pj(x_0:Int):Option Bool:=some (x_0 !=x_0)
def Uz:kD:=⟨[(false,.x (.i .i64))],[([.x .b],[])],true,[],fun p=>match p with|x_0=>pj x_0⟩
theorem Vo:cm prog 130 Uz:=bM cM cN (cE:=cE) (np:=1) (an:=[]) .nil (by kernel_rfl) (by kernel_rfl)
def j7(x_0:Int)(y_1:Int):Option Int:=
 (pj x_0).bind fun r1=>
 (pj y_1).bind fun r2=>
 bif r1 then(bif r2 then(some 0)else
 (some (-1)))else
 (bif r2 then(some 1)else
 (bif decide (x_0<y_1)then(some (-1))else
 (bif decide (x_0>y_1)then(some 1)else
 (some 0))))
def Uy:kD:=⟨[(false,.x (.i .i64)),(false,.x (.i .i64))],[([.x (.i .i64)],[])],true,[],fun p=>match p with|(x_0,y_1)=>j7 x_0 y_1⟩
theorem SQ:cm prog 90 Uy:=bM cM cN (cE:=cE) (np:=2) (an:=[]) (.cons Vo .nil) (by kernel_rfl) (by kernel_rfl)
def lI(a_0:Nat)(b_1:Nat):Option Int:=
 bif MW .f64 a_0 b_1 then(some (-1))else
 (bif IR .f64 a_0 b_1 then(some 1)else
 ((lm a_0).bind fun r1=>
 (lm b_1).bind fun r2=>
 (j7 r1 r2).bind fun r3=>
 some r3))
def Ux:kD:=⟨[(false,.x (.f .f64)),(false,.x (.f .f64))],[([.x (.i .i64)],[])],true,[],fun p=>match p with|(a_0,b_1)=>lI a_0 b_1⟩
theorem Vn:cm prog 33 Ux:=bM cM cN (cE:=cE) (np:=2) (an:=[]) (.cons Vp (.cons SQ .nil)) (by kernel_rfl) (by kernel_rfl)
def df(a_0:Int)(b_1:Int)(c_2:Sl Nat):Option Int:=
 (cZ a_0 c_2.l.length).bind fun n1=>
 (cZ b_1 c_2.l.length).bind fun n2=>
 (lI (gt c_2.l n1) (gt c_2.l n2)).bind fun r3=>
 some r3
def Uw:kD:=⟨[(false,.x (.i .i64)),(false,.x (.i .i64)),(false,.pt (.sl (.f .f64)))],[([.x (.i .i64)],[])],true,[],fun p=>match p with|(a_0,b_1,c_2)=>df a_0 b_1 c_2⟩
theorem SP:cm prog 111 Uw:=bM cM cN (cE:=cE) (np:=3) (an:=[]) (.cons Vn .nil) (by kernel_rfl) (by kernel_rfl)
def dJ(a_1:Int)(cmp_3_c0:Sl Nat):(Int×Sl Int)->Option ((Int×Sl Int)⊕(Sl Int)):=fun(i9,s10)=>
 (bif decide (i9>a_1)then((cZ i9 s10.l.length).bind fun n11=>
 (cZ (wr .i64 (i9-1)) s10.l.length).bind fun n12=>
 (df (gt s10.l n11) (gt s10.l n12) cmp_3_c0).bind fun r13=>
 some (decide (r13<0)))else
 (some false):Option Bool).bind fun b14=>
 bif b14 then((cZ (wr .i64 (i9-1)) s10.l.length).bind fun n15=>
 (cZ i9 s10.l.length).bind fun n16=>
 (cZ i9 s10.l.length).bind fun n17=>
 (cZ (wr .i64 (i9-1)) (s10.l.set n17 (gt s10.l n15)).length).bind fun n18=>
 some (.inl (wr .i64 (i9-1),(Sl.mk ((s10.l.set n17 (gt s10.l n15)).set n18 (gt s10.l n16))))))else
 (some (.inr s10))
def dH(a_1:Int)(b_2:Int)(cmp_3_c0:Sl Nat):(Int×Sl Int)->Option ((Int×Sl Int)⊕(Sl Int)):=fun(i4,s5)=>
 bif decide (i4<b_2)then((aY (dJ a_1 cmp_3_c0) (i4,s5)).bind fun s19=>
 some (.inl (wr .i64 (i4+1),s19)))else
 (some (.inr s5))
def ck(data_0:Sl Int)(a_1:Int)(b_2:Int)(cmp_3_c0:Sl Nat):Option (Sl Int):=
 (aY (dH a_1 b_2 cmp_3_c0) (wr .i64 (a_1+1),data_0)).bind fun s20=>
 some s20
def Uv:kD:=⟨[(true,.os (.i .i64)),(false,.x (.i .i64)),(false,.x (.i .i64)),(false,.fn 111 (.pr (.pt (.sl (.f .f64))) .ni))],[([],[.os (.i .i64)])],true,[true,false,false,false],fun p=>match p with|(data_0,a_1,b_2,cmp_3_c0)=>ck data_0 a_1 b_2 cmp_3_c0⟩
theorem Vm:cm prog 157 Uv:=bM cM cN (cE:=cE) (np:=4) (an:=[(2,{j:=some {vs:=[(0,.so 0),(8,.x (.i .i64))],gs:=(.co (.so 0) .ni),os:=[.ar (.i .i64)],kl:=[0]},e:=[(.exit 0,{gs:=(.co (.so 0) .ni),os:=[.ar (.i .i64)],kl:=[0]})]}),(9,{j:=some {vs:=[(0,.so 0),(9,.x (.i .i64))],gs:=(.co (.so 0) .ni),os:=[.ar (.i .i64)],kl:=[1]},e:=[(.exit 2,{vs:=[(0,.so 0)],gs:=(.co (.so 0) .ni),os:=[.ar (.i .i64)],kl:=[1]})]}),(12,{j:=some {vs:=[(34,.x .b)]}})]) (.cons SP .nil) (by kernel_rfl) (by kernel_rfl)
def kI(a_1:Int)(b_2:Int)(n_3:Int):(Int×Sl Int)->Option ((Int×Sl Int)⊕(Sl Int)):=fun(i4,s5)=>
 bif decide (i4<n_3)then((cZ (wr .i64 (b_2+i4)) s5.l.length).bind fun n6=>
 (cZ (wr .i64 (a_1+i4)) s5.l.length).bind fun n7=>
 (cZ (wr .i64 (a_1+i4)) s5.l.length).bind fun n8=>
 (cZ (wr .i64 (b_2+i4)) (s5.l.set n8 (gt s5.l n6)).length).bind fun n9=>
 some (.inl (wr .i64 (i4+1),(Sl.mk ((s5.l.set n8 (gt s5.l n6)).set n9 (gt s5.l n7))))))else
 (some (.inr s5))
def dk(data_0:Sl Int)(a_1:Int)(b_2:Int)(n_3:Int)(cmp_4_c0:Sl Nat):Option (Sl Int):=
 (aY (kI a_1 b_2 n_3) (0,data_0)).bind fun s10=>
 some s10
def Uu:kD:=⟨[(true,.os (.i .i64)),(false,.x (.i .i64)),(false,.x (.i .i64)),(false,.x (.i .i64)),(false,.fn 111 (.pr (.pt (.sl (.f .f64))) .ni))],[([],[.os (.i .i64)])],true,[true,false,false,false,false],fun p=>match p with|(data_0,a_1,b_2,n_3,cmp_4_c0)=>dk data_0 a_1 b_2 n_3 cmp_4_c0⟩
theorem Vl:cm prog 178 Uu:=bM cM cN (cE:=cE) (np:=5) (an:=[(2,{j:=some {vs:=[(0,.so 0),(10,.x (.i .i64))],gs:=(.co (.so 0) .ni),os:=[.ar (.i .i64)],kl:=[0]},e:=[(.exit 0,{gs:=(.co (.so 0) .ni),os:=[.ar (.i .i64)],kl:=[0]})]})]) .nil (by kernel_rfl) (by kernel_rfl)
def lC(m_2:Int)(cmp_4_c0:Sl Nat):(Int×Int×Sl Int)->Option ((Int×Int×Sl Int)⊕(Int×Sl Int)):=fun(i6,i7,s8)=>
 bif(i6 !=i7)then(bif decide (i6>i7)then((dk s8 (wr .i64 (m_2-i6)) m_2 i7 cmp_4_c0).bind fun s9=>
 (jF s9 s8).bind fun _=>
 some (.inl (wr .i64 (i6-i7),i7,s9)))else
 ((dk s8 (wr .i64 (m_2-i6)) (wr .i64 ((wr .i64 (m_2+i7))-i6)) i6 cmp_4_c0).bind fun s10=>
 (jF s10 s8).bind fun _=>
 some (.inl (i6,wr .i64 (i7-i6),s10))))else
 (some (.inr (i6,s8)))
def iu(data_0:Sl Int)(a_1:Int)(m_2:Int)(b_3:Int)(cmp_4_c0:Sl Nat):Option (Sl Int):=
 (aY (lC m_2 cmp_4_c0) (wr .i64 (m_2-a_1),wr .i64 (b_3-m_2),data_0)).bind fun(i11,s12)=>
 (dk s12 (wr .i64 (m_2-i11)) m_2 i11 cmp_4_c0).bind fun s13=>
 (jF s13 s12).bind fun _=>
 some s13
def Ut:kD:=⟨[(true,.os (.i .i64)),(false,.x (.i .i64)),(false,.x (.i .i64)),(false,.x (.i .i64)),(false,.fn 111 (.pr (.pt (.sl (.f .f64))) .ni))],[([],[.os (.i .i64)])],true,[true,false,false,false,false],fun p=>match p with|(data_0,a_1,m_2,b_3,cmp_4_c0)=>iu data_0 a_1 m_2 b_3 cmp_4_c0⟩
theorem Vk:cm prog 165 Ut:=bM cM cN (cE:=cE) (np:=5) (an:=[(5,{j:=some {vs:=[(0,.so 0),(10,.x (.i .i64)),(11,.x (.i .i64))],gs:=(.co (.so 0) .ni),os:=[.ar (.i .i64)],kl:=[0]},e:=[(.exit 0,{vs:=[(0,.so 0),(10,.x (.i .i64))],gs:=(.co (.so 0) .ni),os:=[.ar (.i .i64)],kl:=[0]})]})]) (.cons Vl .nil) (by kernel_rfl) (by kernel_rfl)
def k_(data_0:Sl Int)(a_1:Int)(cmp_4_c0:Sl Nat):(Int×Int)->Option ((Int×Int)⊕Int):=fun(i3,i4)=>
 bif decide (i3<i4)then((cZ (wr .i64 (fM .u64 (wr .u64 (wr .i64 (i3+i4))) 1)) data_0.l.length).bind fun n5=>
 (cZ a_1 data_0.l.length).bind fun n6=>
 (df (gt data_0.l n5) (gt data_0.l n6) cmp_4_c0).bind fun r7=>
 bif decide (r7<0)then(some (.inl (wr .i64 ((wr .i64 (fM .u64 (wr .u64 (wr .i64 (i3+i4))) 1))+1),i4)))else
 (some (.inl (i3,wr .i64 (fM .u64 (wr .u64 (wr .i64 (i3+i4))) 1)))))else
 (some (.inr i3))
def k9(i8:Int):(Int×Sl Int)->Option ((Int×Sl Int)⊕(Sl Int)):=fun(i12,s13)=>
 bif decide (i12<(wr .i64 (i8-1)))then((cZ (wr .i64 (i12+1)) s13.l.length).bind fun n14=>
 (cZ i12 s13.l.length).bind fun n15=>
 (cZ i12 s13.l.length).bind fun n16=>
 (cZ (wr .i64 (i12+1)) (s13.l.set n16 (gt s13.l n14)).length).bind fun n17=>
 some (.inl (wr .i64 (i12+1),(Sl.mk ((s13.l.set n16 (gt s13.l n14)).set n17 (gt s13.l n15))))))else
 (some (.inr s13))
def k8(data_0:Sl Int)(m_2:Int)(cmp_4_c0:Sl Nat):(Int×Int)->Option ((Int×Int)⊕Int):=fun(i21,i22)=>
 bif decide (i21<i22)then((cZ m_2 data_0.l.length).bind fun n23=>
 (cZ (wr .i64 (fM .u64 (wr .u64 (wr .i64 (i21+i22))) 1)) data_0.l.length).bind fun n24=>
 (df (gt data_0.l n23) (gt data_0.l n24) cmp_4_c0).bind fun r25=>
 bif(!(decide (r25<0)))then(some (.inl (wr .i64 ((wr .i64 (fM .u64 (wr .u64 (wr .i64 (i21+i22))) 1))+1),i22)))else
 (some (.inl (i21,wr .i64 (fM .u64 (wr .u64 (wr .i64 (i21+i22))) 1)))))else
 (some (.inr i21))
def k7(i26:Int):(Int×Sl Int)->Option ((Int×Sl Int)⊕(Sl Int)):=fun(i30,s31)=>
 bif decide (i30>i26)then((cZ (wr .i64 (i30-1)) s31.l.length).bind fun n32=>
 (cZ i30 s31.l.length).bind fun n33=>
 (cZ i30 s31.l.length).bind fun n34=>
 (cZ (wr .i64 (i30-1)) (s31.l.set n34 (gt s31.l n32)).length).bind fun n35=>
 some (.inl (wr .i64 (i30-1),(Sl.mk ((s31.l.set n34 (gt s31.l n32)).set n35 (gt s31.l n33))))))else
 (some (.inr s31))
def kZ(data_0:Sl Int)(a_1:Int)(m_2:Int)(b_3:Int)(cmp_4_c0:Sl Nat):(Int×Int)->Option ((Int×Int)⊕Int):=fun(i41,i42)=>
 bif decide (i41<i42)then((cZ (wr .i64 ((wr .i64 ((wr .i64 ((wr .i64 (fM .u64 (wr .u64 (wr .i64 (a_1+b_3))) 1))+m_2))-1))-(wr .i64 (fM .u64 (wr .u64 (wr .i64 (i41+i42))) 1)))) data_0.l.length).bind fun n43=>
 (cZ (wr .i64 (fM .u64 (wr .u64 (wr .i64 (i41+i42))) 1)) data_0.l.length).bind fun n44=>
 (df (gt data_0.l n43) (gt data_0.l n44) cmp_4_c0).bind fun r45=>
 bif(!(decide (r45<0)))then(some (.inl (wr .i64 ((wr .i64 (fM .u64 (wr .u64 (wr .i64 (i41+i42))) 1))+1),i42)))else
 (some (.inl (i41,wr .i64 (fM .u64 (wr .u64 (wr .i64 (i41+i42))) 1)))))else
 (some (.inr i41))
def eV(rc:Sl Int->Int->Int->Int->Sl Nat->Option (Sl Int))(data_0:Sl Int)(a_1:Int)(m_2:Int)(b_3:Int)(cmp_4_c0:Sl Nat):Option (Sl Int):=
 bif((wr .i64 (m_2-a_1))==1)then((aY (k_ data_0 a_1 cmp_4_c0) (m_2,b_3)).bind fun i8=>
 (aY (k9 i8) (a_1,data_0)).bind fun s18=>
 some s18)else
 (bif((wr .i64 (b_3-m_2))==1)then((aY (k8 data_0 m_2 cmp_4_c0) (a_1,m_2)).bind fun i26=>
 (aY (k7 i26) (m_2,data_0)).bind fun s36=>
 some s36)else
 ((bif decide (m_2>(wr .i64 (fM .u64 (wr .u64 (wr .i64 (a_1+b_3))) 1)))then(some (wr .i64 ((wr .i64 ((wr .i64 (fM .u64 (wr .u64 (wr .i64 (a_1+b_3))) 1))+m_2))-b_3),wr .i64 (fM .u64 (wr .u64 (wr .i64 (a_1+b_3))) 1)))else
 (some (a_1,m_2)):Option (Int×Int)).bind fun(i37,i38)=>
 (aY (kZ data_0 a_1 m_2 b_3 cmp_4_c0) (i37,i38)).bind fun i46=>
 (bif((decide (i46<m_2))&&(decide (m_2<(wr .i64 ((wr .i64 ((wr .i64 (fM .u64 (wr .u64 (wr .i64 (a_1+b_3))) 1))+m_2))-i46)))))then((iu data_0 i46 m_2 (wr .i64 ((wr .i64 ((wr .i64 (fM .u64 (wr .u64 (wr .i64 (a_1+b_3))) 1))+m_2))-i46)) cmp_4_c0).bind fun s47=>
 (jF s47 data_0).bind fun _=>
 some s47)else
 (some data_0):Option (Sl Int)).bind fun s48=>
 (bif((decide (a_1<i46))&&(decide (i46<(wr .i64 (fM .u64 (wr .u64 (wr .i64 (a_1+b_3))) 1)))))then((rc s48 a_1 i46 (wr .i64 (fM .u64 (wr .u64 (wr .i64 (a_1+b_3))) 1)) cmp_4_c0).bind fun s49=>
 (jF s49 s48).bind fun _=>
 some s49)else
 (some s48):Option (Sl Int)).bind fun s50=>
 bif((decide ((wr .i64 (fM .u64 (wr .u64 (wr .i64 (a_1+b_3))) 1))<(wr .i64 ((wr .i64 ((wr .i64 (fM .u64 (wr .u64 (wr .i64 (a_1+b_3))) 1))+m_2))-i46))))&&(decide ((wr .i64 ((wr .i64 ((wr .i64 (fM .u64 (wr .u64 (wr .i64 (a_1+b_3))) 1))+m_2))-i46))<b_3)))then((rc s50 (wr .i64 (fM .u64 (wr .u64 (wr .i64 (a_1+b_3))) 1)) (wr .i64 ((wr .i64 ((wr .i64 (fM .u64 (wr .u64 (wr .i64 (a_1+b_3))) 1))+m_2))-i46)) b_3 cmp_4_c0).bind fun s51=>
 (jF s51 s50).bind fun _=>
 some s51)else
 (some s50)))
def bl:Nat->Sl Int->Int->Int->Int->Sl Nat->Option (Sl Int)
 |0=>fun _ _ _ _ _=>none
 |n+1=>eV (bl n)
def H3(rc:Sl Int->Int->Int->Int->Sl Nat->Option (Sl Int)):kD:=⟨[(true,.os (.i .i64)),(false,.x (.i .i64)),(false,.x (.i .i64)),(false,.x (.i .i64)),(false,.fn 111 (.pr (.pt (.sl (.f .f64))) .ni))],[([],[.os (.i .i64)])],true,[true,false,false,false,false],fun p=>match p with|(data_0,a_1,m_2,b_3,cmp_4_c0)=>rc data_0 a_1 m_2 b_3 cmp_4_c0⟩
theorem SO(rc:Sl Int->Int->Int->Int->Sl Nat->Option (Sl Int))(h:cm prog 158 (H3 rc)):cm prog 158 (H3 (eV rc)):=bM cM cN (cE:=cE) (np:=5) (an:=[(8,{j:=some {vs:=[(10,.x (.i .i64)),(11,.x (.i .i64))]},e:=[(.exit 0,{vs:=[(10,.x (.i .i64))]})]}),(21,{j:=some {vs:=[(0,.so 0),(13,.x (.i .i64))],gs:=(.co (.so 0) .ni),os:=[.ar (.i .i64)],kl:=[0]},e:=[(.exit 2,{gs:=(.co (.so 0) .ni),os:=[.ar (.i .i64)],kl:=[0]})]}),(36,{j:=some {vs:=[(14,.x (.i .i64)),(15,.x (.i .i64))]},e:=[(.exit 4,{vs:=[(14,.x (.i .i64))]})]}),(49,{j:=some {vs:=[(0,.so 0),(17,.x (.i .i64))],gs:=(.co (.so 0) .ni),os:=[.ar (.i .i64)],kl:=[0]},e:=[(.exit 6,{gs:=(.co (.so 0) .ni),os:=[.ar (.i .i64)],kl:=[0]})]}),(62,{e:=[(.normal,{vs:=[(20,.x (.i .i64)),(21,.x (.i .i64))]})]}),(74,{j:=some {vs:=[(20,.x (.i .i64)),(21,.x (.i .i64))]},e:=[(.exit 8,{vs:=[(20,.x (.i .i64))]})]}),(86,{e:=[(.normal,{vs:=[(0,.so 0)],gs:=(.co (.so 0) .ni),os:=[.ar (.i .i64)],kl:=[0]})]}),(90,{e:=[(.normal,{vs:=[(0,.so 0)],gs:=(.co (.so 0) .ni),os:=[.ar (.i .i64)],kl:=[1]})]})]) (.cons SP (.cons Vk (.cons h .nil))) (by kernel_rfl) (by kernel_rfl)
theorem PV:∀n,cm prog 158 (H3 (bl n))
 |0=>⟨rfl,fun p r h=>by cases h⟩
 |n+1=>SO _ (PV n)
def Us:kD:=H3 (bl 8)
theorem Vj:cm prog 158 Us:=PV 8
def ff(n_1:Int)(cmp_2_c0:Sl Nat):(Int×Int×Sl Int)->Option ((Int×Int×Sl Int)⊕(Int×Sl Int)):=fun(i6,i7,s8)=>
 bif decide (i7<=n_1)then((ck s8 i6 i7 cmp_2_c0).bind fun s9=>
 (jF s9 s8).bind fun _=>
 some (.inl (i7,wr .i64 (i7+20),s9)))else
 (some (.inr (i6,s8)))
def cG(n_1:Int)(cmp_2_c0:Sl Nat)(i16:Int):(Int×Int×Sl Int)->Option ((Int×Int×Sl Int)⊕(Int×Sl Int)):=fun(i23,i24,s25)=>
 bif decide (i24<=n_1)then((bl 8 s25 i23 (wr .i64 (i23+i16)) i24 cmp_2_c0).bind fun s26=>
 (jF s26 s25).bind fun _=>
 some (.inl (i24,wr .i64 (i24+(wr .i64 (2*i16))),s26)))else
 (some (.inr (i23,s25)))
def cF(n_1:Int)(cmp_2_c0:Sl Nat):(Int×Sl Int)->Option ((Int×Sl Int)⊕(Sl Int)):=fun(i16,s17)=>
 bif decide (i16<n_1)then((aY (cG n_1 cmp_2_c0 i16) (0,wr .i64 (2*i16),s17)).bind fun(i27,s28)=>
 (bif decide ((wr .i64 (i27+i16))<n_1)then((bl 8 s28 i27 (wr .i64 (i27+i16)) n_1 cmp_2_c0).bind fun s29=>
 (jF s29 s28).bind fun _=>
 some s29)else
 (some s28):Option (Sl Int)).bind fun s30=>
 some (.inl (wr .i64 (i16*2),s30)))else
 (some (.inr s17))
def cP(data_0:Sl Int)(n_1:Int)(cmp_2_c0:Sl Nat):Option (Sl Int):=
 (aY (ff n_1 cmp_2_c0) (0,20,data_0)).bind fun(i10,s11)=>
 (ck s11 i10 n_1 cmp_2_c0).bind fun s12=>
 (jF s12 s11).bind fun _=>
 (aY (cF n_1 cmp_2_c0) (20,s12)).bind fun s31=>
 some s31
def Ur:kD:=⟨[(true,.os (.i .i64)),(false,.x (.i .i64)),(false,.fn 111 (.pr (.pt (.sl (.f .f64))) .ni))],[([],[.os (.i .i64)])],true,[true,false,false],fun p=>match p with|(data_0,n_1,cmp_2_c0)=>cP data_0 n_1 cmp_2_c0⟩
theorem Vi:cm prog 136 Ur:=bM cM cN (cE:=cE) (np:=3) (an:=[(5,{j:=some {vs:=[(0,.so 0),(7,.x (.i .i64)),(8,.x (.i .i64))],gs:=(.co (.so 0) .ni),os:=[.ar (.i .i64)],kl:=[0]},e:=[(.exit 0,{vs:=[(0,.so 0),(7,.x (.i .i64))],gs:=(.co (.so 0) .ni),os:=[.ar (.i .i64)],kl:=[0]})]}),(16,{j:=some {vs:=[(0,.so 0),(6,.x (.i .i64))],gs:=(.co (.so 0) .ni),os:=[.ar (.i .i64)],kl:=[1]},e:=[(.exit 2,{gs:=(.co (.so 0) .ni),os:=[.ar (.i .i64)],kl:=[1]})]}),(23,{j:=some {vs:=[(0,.so 0),(7,.x (.i .i64)),(8,.x (.i .i64))],gs:=(.co (.so 0) .ni),os:=[.ar (.i .i64)],kl:=[2]},e:=[(.exit 4,{vs:=[(0,.so 0),(7,.x (.i .i64))],gs:=(.co (.so 0) .ni),os:=[.ar (.i .i64)],kl:=[2]})]}),(32,{e:=[(.normal,{vs:=[(0,.so 0)],gs:=(.co (.so 0) .ni),os:=[.ar (.i .i64)],kl:=[3]})]})]) (.cons Vm (.cons Vj .nil)) (by kernel_rfl) (by kernel_rfl)
def bS(x_0:Sl Int)(cmp_1_c0:Sl Nat):Option (Sl Int):=
 (cP x_0 (x_0.l.length:Int) cmp_1_c0).bind fun s1=>
 (jF s1 x_0).bind fun _=>
 some s1
def Uq:kD:=⟨[(true,.os (.i .i64)),(false,.fn 111 (.pr (.pt (.sl (.f .f64))) .ni))],[([],[.os (.i .i64)])],true,[true,false],fun p=>match p with|(x_0,cmp_1_c0)=>bS x_0 cmp_1_c0⟩
theorem Vh:cm prog 110 Uq:=bM cM cN (cE:=cE) (np:=2) (an:=[]) (.cons Vi .nil) (by kernel_rfl) (by kernel_rfl)
def tG(x_0:Int):Option Int:=
 (bif decide (x_0>=4294967296)then(some (fM .u64 x_0 32,32))else
 (some (x_0,0)):Option (Int×Int)).bind fun(i1,i2)=>
 (bif decide (i1>=65536)then(some (fM .u64 i1 16,wr .i64 (i2+16)))else
 (some (i1,i2)):Option (Int×Int)).bind fun(i3,i4)=>
 (bif decide (i3>=256)then(some (fM .u64 i3 8,wr .i64 (i4+8)))else
 (some (i3,i4)):Option (Int×Int)).bind fun(i5,i6)=>
 (TI (⟨#[0,1,2,2,3,3,3,3,4,4,4,4,4,4,4,4,5,5,5,5,5,5,5,5,5,5,5,5,5,5,5,5,6,6,6,6,6,6,6,6,6,6,6,6,6,6,6,6,6,6,6,6,6,6,6,6,6,6,6,6,6,6,6,6,7,7,7,7,7,7,7,7,7,7,7,7,7,7,7,7,7,7,7,7,7,7,7,7,7,7,7,7,7,7,7,7,7,7,7,7,7,7,7,7,7,7,7,7,7,7,7,7,7,7,7,7,7,7,7,7,7,7,7,7,7,7,7,7,8,8,8,8,8,8,8,8,8,8,8,8,8,8,8,8,8,8,8,8,8,8,8,8,8,8,8,8,8,8,8,8,8,8,8,8,8,8,8,8,8,8,8,8,8,8,8,8,8,8,8,8,8,8,8,8,8,8,8,8,8,8,8,8,8,8,8,8,8,8,8,8,8,8,8,8,8,8,8,8,8,8,8,8,8,8,8,8,8,8,8,8,8,8,8,8,8,8,8,8,8,8,8,8,8,8,8,8,8,8,8,8,8,8,8,8,8,8,8,8,8,8,8,8,8,8,8,8]⟩:ByteArray) (wr .u8 i5)).bind fun b7=>
 some (wr .i64 (i6+(wr .i64 b7)))
def Up:kD:=⟨[(false,.x (.i .u64))],[([.x (.i .i64)],[])],true,[],fun p=>match p with|x_0=>tG x_0⟩
theorem Vg:cm prog 175 Up:=bM cM cN (cE:=cE) (np:=1) (an:=[(2,{e:=[(.normal,{vs:=[(0,.x (.i .u64)),(2,.x (.i .i64))]})]}),(8,{e:=[(.normal,{vs:=[(0,.x (.i .u64)),(2,.x (.i .i64))]})]}),(14,{e:=[(.normal,{vs:=[(0,.x (.i .u64)),(2,.x (.i .i64))]})]})]) .nil (by kernel_rfl) (by kernel_rfl)
def m7(x_0:Int):Option Int:=
 (tG x_0).bind fun r1=>
 some r1
def Uo:kD:=⟨[(false,.x (.i .u64))],[([.x (.i .i64)],[])],true,[],fun p=>match p with|x_0=>m7 x_0⟩
theorem Vf:cm prog 160 Uo:=bM cM cN (cE:=cE) (np:=1) (an:=[]) (.cons Vg .nil) (by kernel_rfl) (by kernel_rfl)
def q8(a_0:aE)(b_1:aE):Option Int:=
 (j7 (aE.f_ a_0) (aE.f_ b_1)).bind fun r1=>
 some r1
def Un:kD:=⟨[(false,.x y3),(false,.x y3)],[([.x (.i .i64)],[])],true,[],fun p=>match p with|(a_0,b_1)=>q8 a_0 b_1⟩
theorem Ve:cm prog 138 Un:=bM cM cN (cE:=cE) (np:=2) (an:=[]) (.cons SQ .nil) (by kernel_rfl) (by kernel_rfl)
def fC(a_1:Int):(Int×Sl aE)->Option ((Int×Sl aE)⊕(Sl aE)):=fun(i9,s10)=>
 (bif decide (i9>a_1)then((cZ i9 s10.l.length).bind fun n11=>
 (cZ (wr .i64 (i9-1)) s10.l.length).bind fun n12=>
 (q8 (gt s10.l n11) (gt s10.l n12)).bind fun r13=>
 some (decide (r13<0)))else
 (some false):Option Bool).bind fun b14=>
 bif b14 then((cZ (wr .i64 (i9-1)) s10.l.length).bind fun n15=>
 (cZ i9 s10.l.length).bind fun n16=>
 (cZ i9 s10.l.length).bind fun n17=>
 (cZ (wr .i64 (i9-1)) (s10.l.set n17 (gt s10.l n15)).length).bind fun n18=>
 some (.inl (wr .i64 (i9-1),(Sl.mk ((s10.l.set n17 (gt s10.l n15)).set n18 (gt s10.l n16))))))else
 (some (.inr s10))
def c9(a_1:Int)(b_2:Int):(Int×Sl aE)->Option ((Int×Sl aE)⊕(Sl aE)):=fun(i4,s5)=>
 bif decide (i4<b_2)then((aY (fC a_1) (i4,s5)).bind fun s19=>
 some (.inl (wr .i64 (i4+1),s19)))else
 (some (.inr s5))
def bz(data_0:Sl aE)(a_1:Int)(b_2:Int):Option (Sl aE):=
 (aY (c9 a_1 b_2) (wr .i64 (a_1+1),data_0)).bind fun s20=>
 some s20
def Um:kD:=⟨[(true,.os y3),(false,.x (.i .i64)),(false,.x (.i .i64)),(false,.fn 138 .ni)],[([],[.os y3])],true,[true,false,false,false],fun p=>match p with|(data_0,a_1,b_2)=>bz data_0 a_1 b_2⟩
theorem Vd:cm prog 166 Um:=bM cM cN (cE:=cE) (np:=4) (an:=[(2,{j:=some {vs:=[(0,.so 0),(8,.x (.i .i64))],gs:=(.co (.so 0) .ni),os:=[.ar y3],kl:=[0]},e:=[(.exit 0,{gs:=(.co (.so 0) .ni),os:=[.ar y3],kl:=[0]})]}),(9,{j:=some {vs:=[(0,.so 0),(9,.x (.i .i64))],gs:=(.co (.so 0) .ni),os:=[.ar y3],kl:=[1]},e:=[(.exit 2,{vs:=[(0,.so 0)],gs:=(.co (.so 0) .ni),os:=[.ar y3],kl:=[1]})]}),(12,{j:=some {vs:=[(34,.x .b)]}})]) (.cons Ve .nil) (by kernel_rfl) (by kernel_rfl)
def ci:(Int×Int×Int×Bool×Bool×Sl aE)->Option ((Int×Int×Int×Bool×Bool×Sl aE)⊕(Sl aE)):=fun(i12,i13,i14,b15,b16,s17)=>
 bif decide ((wr .i64 (i13-i12))<=12)then((bz s17 i12 i13).bind fun s18=>
 (jF s18 s17).bind fun _=>
 some (.inr s18))else
 (bif(i14==0)then(none)else
 (bif(!b15)then(none)else
 (none)))
def ct(data_0:Sl aE)(a_1:Int)(b_2:Int)(limit_3:Int):Option (Sl aE):=
 (aY (ci) (a_1,b_2,limit_3,true,true,data_0)).bind fun s19=>
 some s19
def Ul:kD:=⟨[(true,.os y3),(false,.x (.i .i64)),(false,.x (.i .i64)),(false,.x (.i .i64)),(false,.fn 138 .ni)],[([],[.os y3])],true,[true,false,false,false,false],fun p=>match p with|(data_0,a_1,b_2,limit_3)=>ct data_0 a_1 b_2 limit_3⟩
theorem Vc:cm prog 159 Ul:=bM cM cN (cE:=cE) (np:=5) (an:=[(4,{j:=some {vs:=[(0,.so 0),(1,.x (.i .i64)),(2,.x (.i .i64)),(3,.x (.i .i64)),(10,.x .b),(11,.x .b)],gs:=(.co (.so 0) .ni),os:=[.ar y3],kl:=[0]},e:=[(.ret,{gs:=(.co (.so 0) .ni),os:=[.ar y3],kl:=[0]})]})]) (.cons Vd .nil) (by kernel_rfl) (by kernel_rfl)
def b_(x_0:Sl aE):Option (Sl aE):=
 (m7 (wr .u64 (x_0.l.length:Int))).bind fun r1=>
 (ct x_0 0 (x_0.l.length:Int) r1).bind fun s2=>
 (jF s2 x_0).bind fun _=>
 some s2
def Uk:kD:=⟨[(true,.os y3),(false,.fn 138 .ni)],[([],[.os y3])],true,[true,false],fun p=>match p with|x_0=>b_ x_0⟩
theorem Vb:cm prog 137 Uk:=bM cM cN (cE:=cE) (np:=2) (an:=[]) (.cons Vf (.cons Vc .nil)) (by kernel_rfl) (by kernel_rfl)
def jc(t_0:aj)(sw_1:Int):(Int×Sl aE)->Option ((Int×Sl aE)⊕(Sl aE)):=fun(i4,s5)=>
 bif decide (i4<(((aj.aP t_0).l).length:Int))then(((cZ i4 ((aj.aP t_0).l).length).bind fun n6=>
 (bif((aX.A (gt ((aj.aP t_0).l) n6))==sw_1)then((m_ (s5.l++[(⟨aX.jJ (gt ((aj.aP t_0).l) n6),aX.B (gt ((aj.aP t_0).l) n6),i4⟩:aE)])).bind fun l7=>
 some (Sl.mk l7))else
 (some s5):Option (Sl aE)).bind fun s8=>
 bif((aX.B (gt ((aj.aP t_0).l) n6))==sw_1)then((m_ (s8.l++[(⟨aX.jI (gt ((aj.aP t_0).l) n6),aX.A (gt ((aj.aP t_0).l) n6),i4⟩:aE)])).bind fun l9=>
 some (Sl.mk l9))else
 (some s8):Option (Sl aE)).bind fun s10=>
 some (.inl (wr .i64 (i4+1),s10)))else
 (some (.inr s5))
def oQ(t_0:aj)(sw_1:Int):Option (Sl aE):=
 (aY (jc t_0 sw_1) (0,Sl.nil)).bind fun s11=>
 (b_ s11).bind fun s12=>
 (jF s12 s11).bind fun _=>
 some s12
def Uj:kD:=⟨[(false,.x y0),(false,.x (.i .i64))],[([.x (.sl y3)],[])],false,[],fun p=>match p with|(t_0,sw_1)=>oQ t_0 sw_1⟩
theorem SN:cm prog 112 Uj:=bM cM cN (cE:=cE) (np:=2) (an:=[(7,{j:=some {vs:=[(5,.so 0),(11,.x (.i .i64))],os:=[.ar y3]},e:=[(.exit 0,{vs:=[(5,.so 0)],os:=[.ar y3]})]}),(11,{e:=[(.normal,{vs:=[(5,.so 0)],os:=[.ar y3],kl:=[1]})]}),(14,{e:=[(.normal,{vs:=[(5,.so 0)],os:=[.ar y3],kl:=[1]})]})]) (.cons Vb .nil) (by kernel_rfl) (by kernel_rfl)
def pz(x_0:Nat):Option Nat:=
 bif(!(DH .f64 x_0 x_0))then((p_ 9221120237041090561).bind fun r1=>
 some r1)else
 (some x_0)
def Ui:kD:=⟨[(false,.x (.f .f64))],[([.x (.f .f64)],[])],true,[],fun p=>match p with|x_0=>pz x_0⟩
theorem SM:cm prog 81 Ui:=bM cM cN (cE:=cE) (np:=1) (an:=[]) (.cons LU .nil) (by kernel_rfl) (by kernel_rfl)
def o3(a_0:Nat)(b_1:Nat):Option Nat:=
 (pz (xQ .f64 a_0 b_1)).bind fun r1=>
 bif DH .f64 r1 0 then(some 0)else
 (some r1)
def Uh:kD:=⟨[(false,.x (.f .f64)),(false,.x (.f .f64))],[([.x (.f .f64)],[])],true,[],fun p=>match p with|(a_0,b_1)=>o3 a_0 b_1⟩
theorem SL:cm prog 113 Uh:=bM cM cN (cE:=cE) (np:=2) (an:=[]) (.cons SM .nil) (by kernel_rfl) (by kernel_rfl)
def kO(l5:List Int):(Int×Sl Int)->Option ((Int×Sl Int)⊕(Sl Int)):=fun(i9,s10)=>
 bif decide (i9<(l5.length:Int))then((cZ i9 s10.l.length).bind fun n11=>
 some (.inl (wr .i64 (i9+1),(Sl.mk (s10.l.set n11 i9)))))else
 (some (.inr s10))
def kN(w_1:Sl Nat)(n19:Nat)(s18:Sl Int)(r21:Sl aE):(Int×Sl Nat)->Option ((Int×Sl Nat)⊕(Sl Nat)):=fun(i25,s26)=>
 bif decide (i25<(r21.l.length:Int))then((cZ i25 r21.l.length).bind fun n27=>
 (cZ (aE.To (gt r21.l n27)) s26.l.length).bind fun n28=>
 (cZ (aE.iI (gt r21.l n27)) w_1.l.length).bind fun n29=>
 (cZ (gt s18.l n19) s26.l.length).bind fun n30=>
 (o3 (gt w_1.l n29) (gt s26.l n30)).bind fun r31=>
 (cZ (aE.To (gt r21.l n27)) s26.l.length).bind fun n32=>
 some (.inl (wr .i64 (i25+1),(Sl.mk (s26.l.set n32 (Kh .f64 (gt s26.l n28) r31))))))else
 (some (.inr s26))
def kM(t_0:aj)(w_1:Sl Nat):(Sl Int×Sl Nat)->Option ((Sl Int×Sl Nat)⊕(Sl Nat)):=fun(s16,s17)=>
 bif decide ((s16.l.length:Int)>0)then((bS s16 s17).bind fun s18=>
 (jF s18 s16).bind fun _=>
 (cZ 0 s18.l.length).bind fun n19=>
 (o5 s18.l 1 s18.l.length).bind fun l20=>
 (oQ t_0 (gt s18.l n19)).bind fun r21=>
 (aY (kN w_1 n19 s18 r21) (0,s17)).bind fun s33=>
 some (.inl ((s18.to l20),s33)))else
 (some (.inr s17))
def gD(t_0:aj)(w_1:Sl Nat)(sw_2:Int):Option (Sl Nat):=
 (j_ t_0 w_1).bind fun r1=>
 bif(((!r1)||(decide (sw_2<0)))||(decide (sw_2>=(aj.ah t_0))))then(some Sl.nil)else
 ((sf 1).bind fun r2=>
 (dz (Sl.mk [r2]) (aj.ah t_0)).bind fun s3=>
 (cZ sw_2 s3.l.length).bind fun n4=>
 (A0 0 (aj.ah t_0) (aj.ah t_0)).bind fun l5=>
 (aY (kO l5) (0,(Sl.mk l5))).bind fun s12=>
 (aY (kM t_0 w_1) (s12,(Sl.mk (s3.l.set n4 0)))).bind fun s34=>
 some s34)
def Ug:kD:=⟨[(false,.x y0),(false,.x (.sl (.f .f64))),(false,.x (.i .i64))],[([.x (.sl (.f .f64))],[])],false,[],fun p=>match p with|(t_0,w_1,sw_2)=>gD t_0 w_1 sw_2⟩
theorem QU:cm prog 60 Ug:=bM cM cN (cE:=cE) (np:=3) (an:=[(16,{j:=some {vs:=[(8,.so 0),(40,.x (.i .i64))],os:=[.ar (.i .i64)],kl:=[7000002]},e:=[(.exit 0,{vs:=[(8,.so 0)],os:=[.ar (.i .i64)],kl:=[7000002]})]}),(26,{j:=some {vs:=[(7,.op 0 (.sl (.f .f64)) []),(8,.so 1)],os:=[.bx (.sl (.f .f64)) (.so 2),.ar (.i .i64),.ar (.f .f64)],kl:=[4000002,5000002,7000003]},e:=[(.exit 2,{vs:=[(7,.op 0 (.sl (.f .f64)) [])],os:=[.bx (.sl (.f .f64)) (.so 1),.ar (.f .f64)],kl:=[4000002,5000002,7000003]})]}),(38,{j:=some {vs:=[(7,.op 0 (.sl (.f .f64)) []),(63,.x (.i .i64))],os:=[.bx (.sl (.f .f64)) (.so 1),.ar (.f .f64)],kl:=[7000004,7000006]},e:=[(.exit 4,{vs:=[(7,.op 0 (.sl (.f .f64)) [])],os:=[.bx (.sl (.f .f64)) (.so 1),.ar (.f .f64)],kl:=[7000004,7000006]})]})]) (.cons QV (.cons SU (.cons Vt (.cons Vh (.cons SN (.cons SL .nil)))))) (by kernel_rfl) (by kernel_rfl)
def mS:(Int×Sl Int)->Option ((Int×Sl Int)⊕(Sl Int)):=fun(i7,s8)=>
 bif decide (i7<(s8.l.length:Int))then((o5 s8.l i7 s8.l.length).bind fun l9=>
 (o5 s8.l 0 i7).bind fun l10=>
 some (.inl (wr .i64 (i7+((min ((s8.to l10).l).length ((s8.to l9).l).length:Nat):Int)),(s8.to (A4 s8.l i7.toNat ((s8.to l9).l).length ((s8.to l10).l))))))else
 (some (.inr s8))
def fy(x_0:Sl Int)(count_1:Int):Option (Sl Int):=
 bif decide (count_1<0)then(none)else
 ((jl (wr .u64 (x_0.l.length:Int)) (wr .u64 count_1)).bind fun(r1,r2)=>
 bif((decide (r1>0))||(decide (r2>9223372036854775807)))then(none)else
 ((A0 0 (wr .i64 r2) (wr .i64 r2)).bind fun l3=>
 (aY (mS) (((min x_0.l.length l3.length:Nat):Int),(Sl.mk (A4 l3 0 l3.length x_0.l)))).bind fun s11=>
 some s11))
def Uf:kD:=⟨[(false,.x (.sl (.i .i64))),(false,.x (.i .i64))],[([.os (.i .i64)],[])],false,[],fun p=>match p with|(x_0,count_1)=>fy x_0 count_1⟩
theorem SK:cm prog 116 Uf:=bM cM cN (cE:=cE) (np:=2) (an:=[(17,{j:=some {vs:=[(7,.so 0),(8,.x (.i .i64))],os:=[.ar (.i .i64)],kl:=[2]},e:=[(.exit 0,{vs:=[(7,.so 0)],os:=[.ar (.i .i64)],kl:=[2]})]})]) (.cons SS .nil) (by kernel_rfl) (by kernel_rfl)
def gC(s_0:Sl Int)(v_1:Int):Int->Option (Int⊕(Int⊕Unit)):=fun i2=>
 bif decide (i2<(s_0.l.length:Int))then((cZ i2 s_0.l.length).bind fun n3=>
 bif(v_1==(gt s_0.l n3))then(some (.inr (.inl i2)))else
 (some (.inl (wr .i64 (i2+1)))))else
 (some (.inr (.inr ())))
def iv(s_0:Sl Int)(v_1:Int):Option Int:=
 (aY (gC s_0 v_1) 0).bind fun
 |.inl i4=>(some i4)
 |.inr _=>(some (-1))
def Ue:kD:=⟨[(false,.x (.sl (.i .i64))),(false,.x (.i .i64))],[([.x (.i .i64)],[])],true,[],fun p=>match p with|(s_0,v_1)=>iv s_0 v_1⟩
theorem Va:cm prog 139 Ue:=bM cM cN (cE:=cE) (np:=2) (an:=[(5,{j:=some {vs:=[(8,.x (.i .i64))]},e:=[(.ret,{vs:=[(4,.x (.i .i64))]}),(.exit 0,{})]})]) .nil (by kernel_rfl) (by kernel_rfl)
def eu(s_0:Sl Int)(v_1:Int):Option Bool:=
 (iv s_0 v_1).bind fun r1=>
 some (decide (r1>=0))
def Ud:kD:=⟨[(false,.x (.sl (.i .i64))),(false,.x (.i .i64))],[([.x .b],[])],true,[],fun p=>match p with|(s_0,v_1)=>eu s_0 v_1⟩
theorem SJ:cm prog 117 Ud:=bM cM cN (cE:=cE) (np:=2) (an:=[]) (.cons Va .nil) (by kernel_rfl) (by kernel_rfl)
def tU(w_0:Sl Nat)(link_1:Int):Option Bool:=
 (bif((decide (link_1>=0))&&(decide (link_1<(w_0.l.length:Int))))then((cZ link_1 w_0.l.length).bind fun n1=>
 (sf 1).bind fun r2=>
 some (MW .f64 (gt w_0.l n1) r2))else
 (some false):Option Bool).bind fun b3=>
 some b3
def Uc:kD:=⟨[(false,.x (.sl (.f .f64))),(false,.x (.i .i64))],[([.x .b],[])],true,[],fun p=>match p with|(w_0,link_1)=>tU w_0 link_1⟩
theorem U_:cm prog 72 Uc:=bM cM cN (cE:=cE) (np:=2) (an:=[(3,{j:=some {vs:=[(4,.x .b)]}})]) (.cons SU .nil) (by kernel_rfl) (by kernel_rfl)
def mb(w_1:Sl Nat)(costs_2:Sl Nat)(at_3:Int)(r3:Sl aE):(Int×Sl aE)->Option ((Int×Sl aE)⊕(Sl aE)):=fun(i7,s8)=>
 bif decide (i7<(r3.l.length:Int))then(((cZ i7 r3.l.length).bind fun n9=>
 ((tU w_1 (aE.iI (gt r3.l n9))).bind fun r10=>
 bif r10 then((cZ (aE.iI (gt r3.l n9)) w_1.l.length).bind fun n11=>
 (cZ (aE.To (gt r3.l n9)) costs_2.l.length).bind fun n12=>
 (o3 (gt w_1.l n11) (gt costs_2.l n12)).bind fun r13=>
 (cZ at_3 costs_2.l.length).bind fun n14=>
 some (DH .f64 r13 (gt costs_2.l n14)))else
 (some false):Option Bool).bind fun b15=>
 bif b15 then((m_ (s8.l++[gt r3.l n9])).bind fun l16=>
 some (Sl.mk l16))else
 (some s8):Option (Sl aE)).bind fun s17=>
 some (.inl (wr .i64 (i7+1),s17)))else
 (some (.inr s8))
def md(t_0:aj)(w_1:Sl Nat)(costs_2:Sl Nat)(at_3:Int):Option (Sl aE):=
 (cZ at_3 costs_2.l.length).bind fun n1=>
 (kr (gt costs_2.l n1) 1).bind fun r2=>
 bif r2 then(some Sl.nil)else
 ((oQ t_0 at_3).bind fun r3=>
 (aY (mb w_1 costs_2 at_3 r3) (0,Sl.nil)).bind fun s18=>
 some s18)
def Ub:kD:=⟨[(false,.x y0),(false,.x (.sl (.f .f64))),(false,.x (.sl (.f .f64))),(false,.x (.i .i64))],[([.x (.sl y3)],[])],false,[],fun p=>match p with|(t_0,w_1,costs_2,at_3)=>md t_0 w_1 costs_2 at_3⟩
theorem SI:cm prog 119 Ub:=bM cM cN (cE:=cE) (np:=4) (an:=[(12,{j:=some {vs:=[(9,.so 0),(21,.x (.i .i64))],os:=[.ar y3]},e:=[(.exit 0,{vs:=[(9,.so 0)],os:=[.ar y3]})]}),(16,{e:=[(.normal,{vs:=[(9,.so 0)],os:=[.ar y3],kl:=[3]})]}),(20,{j:=some {vs:=[(46,.x .b)]}})]) (.cons SR (.cons SN (.cons U_ (.cons SL .nil)))) (by kernel_rfl) (by kernel_rfl)
def rH(s_0:aE)(c_1:Sl Int)(c_2:Int):Option Bool:=
 (cZ (aE.To s_0) c_1.l.length).bind fun n1=>
 some ((gt c_1.l n1)==c_2)
def Ua:kD:=⟨[(false,.x y3),(false,.pt (.sl (.i .i64))),(false,.pt (.i .i64))],[([.x .b],[])],true,[],fun p=>match p with|(s_0,c_1,c_2)=>rH s_0 c_1 c_2⟩
theorem U8:cm prog 120 Ua:=bM cM cN (cE:=cE) (np:=3) (an:=[]) .nil (by kernel_rfl) (by kernel_rfl)
def bI(s_0:Sl aE)(f_1_c0:Sl Int)(f_1_c1:Int):Int->Option (Int⊕(Int⊕Unit)):=fun i2=>
 bif decide (i2<(s_0.l.length:Int))then((cZ i2 s_0.l.length).bind fun n3=>
 (rH (gt s_0.l n3) f_1_c0 f_1_c1).bind fun r4=>
 bif r4 then(some (.inr (.inl i2)))else
 (some (.inl (wr .i64 (i2+1)))))else
 (some (.inr (.inr ())))
def bP(s_0:Sl aE)(f_1_c0:Sl Int)(f_1_c1:Int):Option Int:=
 (aY (bI s_0 f_1_c0 f_1_c1) 0).bind fun
 |.inl i5=>(some i5)
 |.inr _=>(some (-1))
def T_:kD:=⟨[(false,.x (.sl y3)),(false,.fn 120 (.pr (.pt (.sl (.i .i64))) (.pr (.pt (.i .i64)) .ni)))],[([.x (.i .i64)],[])],true,[],fun p=>match p with|(s_0,f_1_c0,f_1_c1)=>bP s_0 f_1_c0 f_1_c1⟩
theorem U7:cm prog 140 T_:=bM cM cN (cE:=cE) (np:=2) (an:=[(5,{j:=some {vs:=[(8,.x (.i .i64))]},e:=[(.ret,{vs:=[(4,.x (.i .i64))]}),(.exit 0,{})]})]) (.cons U8 .nil) (by kernel_rfl) (by kernel_rfl)
def bp(s_0:Sl aE)(f_1_c0:Sl Int)(f_1_c1:Int):Option Bool:=
 (bP s_0 f_1_c0 f_1_c1).bind fun r1=>
 some (decide (r1>=0))
def T9:kD:=⟨[(false,.x (.sl y3)),(false,.fn 120 (.pr (.pt (.sl (.i .i64))) (.pr (.pt (.i .i64)) .ni)))],[([.x .b],[])],true,[],fun p=>match p with|(s_0,f_1_c0,f_1_c1)=>bp s_0 f_1_c0 f_1_c1⟩
theorem U6:cm prog 118 T9:=bM cM cN (cE:=cE) (np:=2) (an:=[]) (.cons U7 .nil) (by kernel_rfl) (by kernel_rfl)
def jC(t_0:aj)(w_1:Sl Nat)(r1:Sl Nat)(i7:Int)(s8:Sl Int):(Int×Sl Int)->Option ((Int×Sl Int)⊕(Sl Int)):=fun(i13,s14)=>
 bif decide (i13<(s8.l.length:Int))then((((cZ i13 s14.l.length).bind fun n15=>
 bif decide ((gt s14.l n15)<0)then((md t_0 w_1 r1 i13).bind fun r16=>
 (bp r16 s14 i7).bind fun r17=>
 some r17)else
 (some false):Option Bool).bind fun b18=>
 bif b18 then((cZ i13 s14.l.length).bind fun n19=>
 some (Sl.mk (s14.l.set n19 (wr .i64 (i7+1)))))else
 (some s14):Option (Sl Int)).bind fun s20=>
 some (.inl (wr .i64 (i13+1),s20)))else
 (some (.inr s14))
def iz(t_0:aj)(w_1:Sl Nat)(r1:Sl Nat):(Int×Sl Int)->Option ((Int×Sl Int)⊕(Sl Int)):=fun(i7,s8)=>
 (eu s8 i7).bind fun r9=>
 bif r9 then((aY (jC t_0 w_1 r1 i7 s8) (0,s8)).bind fun s21=>
 some (.inl (wr .i64 (i7+1),s21)))else
 (some (.inr s8))
def kc(t_0:aj)(w_1:Sl Nat)(sw_2:Int):Option (Sl Int):=
 (gD t_0 w_1 sw_2).bind fun r1=>
 bif r1.fT then(some Sl.nil)else
 ((fy (Sl.mk [(-1)]) (aj.ah t_0)).bind fun s2=>
 (cZ sw_2 s2.l.length).bind fun n3=>
 (aY (iz t_0 w_1 r1) (0,(Sl.mk (s2.l.set n3 0)))).bind fun s22=>
 some s22)
def T8:kD:=⟨[(false,.x y0),(false,.x (.sl (.f .f64))),(false,.x (.i .i64))],[([.x (.sl (.i .i64))],[])],false,[],fun p=>match p with|(t_0,w_1,sw_2)=>kc t_0 w_1 sw_2⟩
theorem SH:cm prog 65 T8:=bM cM cN (cE:=cE) (np:=3) (an:=[(16,{j:=some {vs:=[(8,.op 0 (.sl (.i .i64)) []),(9,.op 1 (.i .i64) [])],os:=[.bx (.sl (.i .i64)) (.so 2),.bx (.i .i64) (.x (.i .i64)),.ar (.i .i64)],kl:=[3,4,5]},e:=[(.exit 0,{vs:=[(8,.op 0 (.sl (.i .i64)) [])],os:=[.bx (.sl (.i .i64)) (.so 1),.ar (.i .i64)],kl:=[3,4,5]})]}),(23,{j:=some {vs:=[(8,.op 0 (.sl (.i .i64)) []),(31,.x (.i .i64))],os:=[.bx (.sl (.i .i64)) (.so 1),.ar (.i .i64)],kl:=[6,8]},e:=[(.exit 2,{vs:=[(8,.op 0 (.sl (.i .i64)) [])],os:=[.bx (.sl (.i .i64)) (.so 1),.ar (.i .i64)],kl:=[6,8]})]}),(27,{e:=[(.normal,{vs:=[(8,.op 0 (.sl (.i .i64)) [])],os:=[.bx (.sl (.i .i64)) (.so 1),.ar (.i .i64)],kl:=[10,11]})]}),(31,{j:=some {vs:=[(47,.x .b)]}})]) (.cons QU (.cons SK (.cons SJ (.cons SI (.cons U6 .nil))))) (by kernel_rfl) (by kernel_rfl)
def jj(r4:Sl Int)(i9:Int)(r11:Sl aE):(Int×Sl Int)->Option ((Int×Sl Int)⊕(Sl Int)):=fun(i15,s16)=>
 bif decide (i15<(r11.l.length:Int))then((cZ i15 r11.l.length).bind fun n17=>
 (cZ (aE.To (gt r11.l n17)) r4.l.length).bind fun n18=>
 (cZ i9 r4.l.length).bind fun n19=>
 bif((gt r4.l n18)==(wr .i64 ((gt r4.l n19)-1)))then((cZ i9 s16.l.length).bind fun n20=>
 some (.inr (Sl.mk (s16.l.set n20 (aE.f_ (gt r11.l n17))))))else
 (some (.inl (wr .i64 (i15+1),s16))))else
 (some (.inr s16))
def ko(t_0:aj)(w_1:Sl Nat)(r3:Sl Nat)(r4:Sl Int)(s5:Sl Int):(Int×Sl Int)->Option ((Int×Sl Int)⊕(Sl Int)):=fun(i9,s10)=>
 bif decide (i9<(s5.l.length:Int))then((md t_0 w_1 r3 i9).bind fun r11=>
 (aY (jj r4 i9 r11) (0,s10)).bind fun s21=>
 some (.inl (wr .i64 (i9+1),s21)))else
 (some (.inr s10))
def kp(t_0:aj)(w_1:Sl Nat)(h_2:Int):Option (Sl Int×Int):=
 (j_ t_0 w_1).bind fun r1=>
 bif(!r1)then(some (Sl.nil,2))else
 (bif((decide (h_2<0))||(decide (h_2>=(((aj.bg t_0).l).length:Int))))then(some (Sl.nil,7))else
 ((cZ h_2 ((aj.bg t_0).l).length).bind fun n2=>
 (gD t_0 w_1 (dQ.At (gt ((aj.bg t_0).l) n2))).bind fun r3=>
 (kc t_0 w_1 (dQ.At (gt ((aj.bg t_0).l) n2))).bind fun r4=>
 (fy (Sl.mk [(-1)]) (aj.ah t_0)).bind fun s5=>
 (aY (ko t_0 w_1 r3 r4 s5) (0,s5)).bind fun s22=>
 (cZ h_2 ((aj.bg t_0).l).length).bind fun n23=>
 (cZ (dQ.At (gt ((aj.bg t_0).l) n2)) s22.l.length).bind fun n24=>
 some ((Sl.mk (s22.l.set n24 (dQ.f_ (gt ((aj.bg t_0).l) n23)))),0)))
def T7:kD:=⟨[(false,.x y0),(false,.x (.sl (.f .f64))),(false,.x (.i .i64))],[([.x (.sl (.i .i64)),.x (.i .i64)],[])],false,[],fun p=>match p with|(t_0,w_1,h_2)=>kp t_0 w_1 h_2⟩
theorem SG:cm prog 67 T7:=bM cM cN (cE:=cE) (np:=3) (an:=[(20,{j:=some {vs:=[(11,.so 0),(50,.x (.i .i64))],os:=[.ar (.i .i64)],kl:=[10000003]},e:=[(.exit 1,{vs:=[(11,.so 0)],os:=[.ar (.i .i64)],kl:=[10000003]})]}),(29,{j:=some {vs:=[(11,.so 0),(59,.x (.i .i64))],os:=[.ar (.i .i64)],kl:=[10000004]},e:=[(.exit 3,{vs:=[(11,.so 0)],os:=[.ar (.i .i64)],kl:=[10000004]})]})]) (.cons QV (.cons QU (.cons SH (.cons SK (.cons SI .nil))))) (by kernel_rfl) (by kernel_rfl)
def jZ(r8:Sl Int):(Int×Sl (Sl Int))->Option ((Int×Sl (Sl Int))⊕(Sl (Sl Int))):=fun(i14,s15)=>
 bif decide (i14<(r8.l.length:Int))then((cZ i14 r8.l.length).bind fun n16=>
 (cZ i14 s15.l.length).bind fun n17=>
 (m_ (((gt s15.l n17).l)++[gt r8.l n16])).bind fun l18=>
 (cZ i14 s15.l.length).bind fun n19=>
 bif Nat.beq n17 n19 then(some (.inl (wr .i64 (i14+1),(Sl.mk (s15.l.set n19 (Sl.mk l18))))))else(none))else
 (some (.inr s15))
def fS(t_0:aj)(w_1:Sl Nat):(Int×Sl (Sl Int))->Option ((Int×Sl (Sl Int))⊕(Int⊕(Sl (Sl Int)))):=fun(i6,s7)=>
 bif decide (i6<(((aj.bg t_0).l).length:Int))then((kp t_0 w_1 i6).bind fun(r8,r9)=>
 (eu r8 (-1)).bind fun r10=>
 bif r10 then(some (.inr (.inl 7)))else
 ((aY (jZ r8) (0,s7)).bind fun s20=>
 some (.inl (wr .i64 (i6+1),s20))))else
 (some (.inr (.inr s7)))
def ip(t_0:aj)(w_1:Sl Nat):Option (Sl (Sl Int)×Int):=
 (j_ t_0 w_1).bind fun r1=>
 bif(!r1)then(some (Sl.nil,2))else
 ((A0 (Sl.nil:Sl Int) (aj.ah t_0) (aj.ah t_0)).bind fun l2=>
 (aY (fS t_0 w_1) (0,(Sl.mk l2))).bind fun
 |.inl i21=>(some (Sl.nil,i21))
 |.inr s22=>(some (s22,0)))
def T6:kD:=⟨[(false,.x y0),(false,.x (.sl (.f .f64)))],[([.x (.sl (.sl (.i .i64))),.x (.i .i64)],[])],false,[],fun p=>match p with|(t_0,w_1)=>ip t_0 w_1⟩
theorem SF:cm prog 69 T6:=bM cM cN (cE:=UN) (np:=2) (an:=[(12,{j:=some {vs:=[(6,.sr 0),(22,.x (.i .i64))],os:=[.rw (.i .i64)],kl:=[2]},e:=[(.ret,{vs:=[(4,.nl 0),(5,.x (.i .i64))],kl:=[2]}),(.exit 0,{vs:=[(6,.sr 0)],os:=[.rw (.i .i64)],kl:=[2]})]}),(28,{j:=some {vs:=[(6,.sr 0),(36,.x (.i .i64))],os:=[.rw (.i .i64)],kl:=[3]},e:=[(.exit 2,{vs:=[(6,.sr 0)],os:=[.rw (.i .i64)],kl:=[3]})]})]) (.cons QV (.cons SG (.cons SJ .nil))) (by kernel_rfl) (by kernel_rfl)
def mr:Option Bool:=
 (ip (⟨3,(Sl.mk [(⟨0,0,1,0,1,1⟩:aX),(⟨0,1,2,0,1,1⟩:aX),(⟨2,1,1,1,1,1⟩:aX)]),(Sl.mk [(⟨1,5⟩:dQ)])⟩:aj) (Sl.mk [4613937818241073152,4607182418800017408,4607182418800017408])).bind fun(r1,r2)=>
 (bif((r2==0)&&((r1.l.length:Int)==3))then((cZ 0 r1.l.length).bind fun n3=>
 (cZ 0 ((gt r1.l n3).l).length).bind fun n4=>
 bif((gt ((gt r1.l n3).l) n4)==1)then((cZ 1 r1.l.length).bind fun n5=>
 (cZ 0 ((gt r1.l n5).l).length).bind fun n6=>
 bif((gt ((gt r1.l n5).l) n6)==5)then((cZ 2 r1.l.length).bind fun n7=>
 (cZ 0 ((gt r1.l n7).l).length).bind fun n8=>
 some ((gt ((gt r1.l n7).l) n8)==1))else
 (some false))else
 (some false))else
 (some false):Option Bool).bind fun b9=>
 some b9
def T5:kD:=⟨[],[([.x .b],[])],true,[],fun p=>match p with|_=>mr⟩
theorem U5:cm prog 58 T5:=bM cM cN (cE:=cE) (np:=0) (an:=[(7,{j:=some {vs:=[(0,.x .b)]}})]) (.cons SF .nil) (by kernel_rfl) (by kernel_rfl)
def Al(n_0:Int):Option Nat:=
 (p_ n_0).bind fun r1=>
 (pz r1).bind fun r2=>
 some r2
def T4:kD:=⟨[(false,.x (.i .u64))],[([.x (.f .f64)],[])],true,[],fun p=>match p with|n_0=>Al n_0⟩
theorem U4:cm prog 89 T4:=bM cM cN (cE:=cE) (np:=1) (an:=[]) (.cons LU (.cons SM .nil)) (by kernel_rfl) (by kernel_rfl)
def qV(bits_0:Sl Int):(Int×Sl Nat)->Option ((Int×Sl Nat)⊕(Sl Nat)):=fun(i4,s5)=>
 bif decide (i4<(bits_0.l.length:Int))then((cZ i4 bits_0.l.length).bind fun n6=>
 (Al (gt bits_0.l n6)).bind fun r7=>
 (m_ (s5.l++[r7])).bind fun l8=>
 some (.inl (wr .i64 (i4+1),(Sl.mk l8))))else
 (some (.inr s5))
def vS(bits_0:Sl Int):Option (Sl Nat):=
 (aY (qV bits_0) (0,Sl.nil)).bind fun s9=>
 some s9
def T3:kD:=⟨[(false,.x (.sl (.i .u64)))],[([.x (.sl (.f .f64))],[])],false,[],fun p=>match p with|bits_0=>vS bits_0⟩
theorem U3:cm prog 59 T3:=bM cM cN (cE:=cE) (np:=1) (an:=[(7,{j:=some {vs:=[(3,.so 0),(8,.x (.i .i64))],os:=[.ar (.f .f64)]},e:=[(.exit 0,{vs:=[(3,.so 0)],os:=[.ar (.f .f64)]})]})]) (.cons U4 .nil) (by kernel_rfl) (by kernel_rfl)
def Z2(t_0:aj)(sw_1:Int)(port_2:Int):Int->Option (Int⊕((Int×Int×Int×Bool)⊕Unit)):=fun i2=>
 bif decide (i2<(((aj.aP t_0).l).length:Int))then((cZ i2 ((aj.aP t_0).l).length).bind fun n3=>
 bif decide ((⟨sw_1,port_2⟩:bk)=(⟨aX.A (gt ((aj.aP t_0).l) n3),aX.jJ (gt ((aj.aP t_0).l) n3)⟩:bk))then(some (.inr (.inl (aX.B (gt ((aj.aP t_0).l) n3),aX.jI (gt ((aj.aP t_0).l) n3),i2,true))))else
 (bif decide ((⟨sw_1,port_2⟩:bk)=(⟨aX.B (gt ((aj.aP t_0).l) n3),aX.jI (gt ((aj.aP t_0).l) n3)⟩:bk))then(some (.inr (.inl (aX.A (gt ((aj.aP t_0).l) n3),aX.jJ (gt ((aj.aP t_0).l) n3),i2,true))))else
 (some (.inl (wr .i64 (i2+1))))))else
 (some (.inr (.inr ())))
def Xc(t_0:aj)(sw_1:Int)(port_2:Int):Option (Int×Int×Int×Bool):=
 (aY (Z2 t_0 sw_1 port_2) 0).bind fun
 |.inl (i4,i5,i6,b7)=>(some (i4,i5,i6,b7))
 |.inr _=>(some (0,0,0,false))
def YA:kD:=⟨[(false,.x y0),(false,.x (.i .i64)),(false,.x (.i .i64))],[([.x (.i .i64),.x (.i .i64),.x (.i .i64),.x .b],[])],true,[],fun p=>match p with|(t_0,sw_1,port_2)=>Xc t_0 sw_1 port_2⟩
theorem YM:cm prog 74 YA:=bM cM cN (cE:=cE) (np:=3) (an:=[(7,{j:=some {vs:=[(21,.x (.i .i64))]},e:=[(.ret,{vs:=[(6,.x (.i .i64)),(7,.x (.i .i64)),(8,.x (.i .i64)),(9,.x .b)]}),(.exit 0,{})]})]) .nil (by kernel_rfl) (by kernel_rfl)
end Go.Proofs.Ytingpmogbibghaa.S
