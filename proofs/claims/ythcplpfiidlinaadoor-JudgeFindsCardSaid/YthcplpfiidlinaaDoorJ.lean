/- What functions of the program compute, and that the model's run computes it. Conditions: as stated. -/
import Derived.Test.YthcplpfiidlinaaDoorJS
import Derived.Test.YthcplpfiidlinaaDoorChecked
import Derived.KernelRfl
open Go.Ev Go
noncomputable section
open Option.some renaming inj->aa
namespace Go.Proofs.YthcplpfiidlinaaDoor.J
abbrev prog:Program:=Tryd.prog
theorem mixed:prog.follows .mixedOrders=true:=by kernel_rfl
def H8:Arr 32 Int:=⟨[0,1,28,2,29,14,24,3,30,22,20,15,25,17,4,8,31,27,13,23,21,19,16,7,26,12,18,6,11,5,10,9],rfl⟩
theorem dH:lN:=Hw (v:=.pt (.ar 32 (.i .u8)) H8) (fun g w h=>by
 unfold LW at h;split at h
 .rename_i e;exact⟨e,(aa h).symm⟩
 .cases h) rfl (fun h n=>⟨ct (dV rfl ⟨rfl,rfl⟩),trivial,rfl⟩)
def de:As:=fun f=>if f=3 then(true,[])else if f=4 then(true,[])else if f=6 then(true,[])else if f=7 then(true,[])else if f=8 then(true,[])else if f=9 then(true,[])else if f=10 then(true,[])else if f=14 then(true,[])else if f=15 then(true,[])else if f=16 then(true,[])else if f=18 then(true,[])else if f=19 then(true,[])else if f=20 then(true,[])else if f=24 then(true,[])else if f=27 then(false,[true])else if f=28 then(false,[true])else if f=29 then(false,[true])else if f=34 then(true,[])else if f=35 then(true,[])else if f=37 then(true,[])else if f=38 then(true,[])else if f=39 then(true,[])else if f=42 then(false,[true,false])else if f=45 then(false,[true])else if f=46 then(false,[true])else if f=47 then(true,[])else if f=49 then(true,[])else if f=50 then(true,[])else if f=51 then(true,[])else if f=52 then(true,[])else if f=54 then(true,[])else if f=56 then(true,[])else if f=57 then(false,[true,false,false,false,false])else if f=58 then(true,[])else if f=59 then(true,[])else if f=61 then(true,[])else if f=62 then(false,[true,false,false,false])else if f=63 then(true,[])else if f=64 then(true,[])else if f=65 then(true,[])else if f=66 then(true,[])else if f=69 then(true,[])else if f=70 then(true,[])else if f=71 then(true,[])else if f=72 then(true,[])else if f=74 then(true,[])else if f=75 then(true,[])else if f=76 then(true,[])else if f=85 then(true,[])else if f=87 then(true,[])else if f=88 then(true,[])else if f=89 then(true,[])else if f=90 then(true,[])else if f=91 then(true,[])else if f=92 then(true,[])else if f=93 then(true,[])else if f=95 then(true,[])else if f=96 then(true,[])else if f=97 then(true,[])else if f=98 then(true,[])else if f=99 then(true,[])else if f=100 then(true,[])else if f=101 then(true,[])else if f=122 then(true,[])else if f=124 then(true,[])else if f=125 then(true,[])else if f=134 then(true,[])else if f=135 then(true,[])else if f=138 then(true,[])else(false,[])
def TT:As:=fun f=>if f=1000000000 then(true,[])else de f
@[reducible] def bz:Type:=Int×Int×Int×Int×Int×Int
@[reducible] def bz.A (x:bz):Int:=x.1
@[reducible] def bz.nB (x:bz):Int:=x.2.1
@[reducible] def bz.B (x:bz):Int:=x.2.2.1
@[reducible] def bz.nA (x:bz):Int:=x.2.2.2.1
@[reducible] def bz.xj (x:bz):Int:=x.2.2.2.2.1
@[reducible] def bz.pW (x:bz):Int:=x.2.2.2.2.2
@[reducible] def fS:Type:=Int×Int
@[reducible] def fS.At (x:fS):Int:=x.1
@[reducible] def fS.oc (x:fS):Int:=x.2
@[reducible] def ah:Type:=Int×Sl bz×Sl fS
@[reducible] def ah.br (x:ah):Int:=x.1
@[reducible] def ah.bW (x:ah):Sl bz:=x.2.1
@[reducible] def ah.bd (x:ah):Sl fS:=x.2.2
@[reducible] def jC:Type:=Int×Int×Int×Int
@[reducible] def jC.Sw (x:jC):Int:=x.1
@[reducible] def jC.mC (x:jC):Int:=x.2.1
@[reducible] def jC.oc (x:jC):Int:=x.2.2.1
@[reducible] def jC.uj (x:jC):Int:=x.2.2.2
@[reducible] def kf:Type:=Int×Int×Sl Int
@[reducible] def kf.No (x:kf):Int:=x.1
@[reducible] def kf.At (x:kf):Int:=x.2.1
@[reducible] def kf.RF (x:kf):Sl Int:=x.2.2
@[reducible] def bI:Type:=Sl jC×Sl kf×Int×Int×Int×Int
@[reducible] def bI.iZ (x:bI):Sl jC:=x.1
@[reducible] def bI.eI (x:bI):Sl kf:=x.2.1
@[reducible] def bI.Av (x:bI):Int:=x.2.2.1
@[reducible] def bI.GM (x:bI):Int:=x.2.2.2.1
@[reducible] def bI.pN (x:bI):Int:=x.2.2.2.2.1
@[reducible] def bI.To (x:bI):Int:=x.2.2.2.2.2
@[reducible] def y1:Ty:=.st (.pr (.i .i64) (.pr (.i .i64) (.pr (.i .i64) (.pr (.i .i64) (.pr (.i .i64) (.i .i64))))))
@[reducible] def y2:Ty:=.st (.pr (.i .i64) (.i .i64))
@[reducible] def y0:Ty:=.st (.pr (.i .i64) (.pr (.sl y1) (.sl y2)))
@[reducible] def y4:Ty:=.st (.pr (.i .i64) (.pr (.i .i64) (.pr (.i .i64) (.i .i64))))
@[reducible] def y5:Ty:=.st (.pr (.i .i64) (.pr (.i .i64) (.sl (.i .i64))))
@[reducible] def y3:Ty:=.st (.pr (.sl y4) (.pr (.sl y5) (.pr (.i .i64) (.pr (.i .i64) (.pr (.i .i64) (.i .i64))))))
@[reducible] def ae:Type:=Int×Int×Int×Int
@[reducible] def ae.Sw (x:ae):Int:=x.1
@[reducible] def ae.mC (x:ae):Int:=x.2.1
@[reducible] def ae.oc (x:ae):Int:=x.2.2.1
@[reducible] def ae.uj (x:ae):Int:=x.2.2.2
@[reducible] def aj:Type:=Int×Int×Sl Int
@[reducible] def aj.No (x:aj):Int:=x.1
@[reducible] def aj.At (x:aj):Int:=x.2.1
@[reducible] def aj.RF (x:aj):Sl Int:=x.2.2
@[reducible] def aJ:Type:=Sl ae×Sl aj×Int×Int×Int×Int
@[reducible] def aJ.iZ (x:aJ):Sl ae:=x.1
@[reducible] def aJ.eI (x:aJ):Sl aj:=x.2.1
@[reducible] def aJ.Av (x:aJ):Int:=x.2.2.1
@[reducible] def aJ.GM (x:aJ):Int:=x.2.2.2.1
@[reducible] def aJ.pN (x:aJ):Int:=x.2.2.2.2.1
@[reducible] def aJ.To (x:aJ):Int:=x.2.2.2.2.2
@[reducible] def bn:Type:=Int×Int
@[reducible] def bn.sw (x:bn):Int:=x.1
@[reducible] def bn.z8 (x:bn):Int:=x.2
@[reducible] def am:Type:=Int×Int×Int
@[reducible] def am.K (x:am):Int:=x.2.1
@[reducible] def am.H (x:am):Int:=x.2.2
@[reducible] def bg:Type:=ah×Sl (Sl Int)×Sl (Sl Int)×aJ×Sl am
@[reducible] def bg.t (x:bg):ah:=x.1
@[reducible] def bg.old (x:bg):Sl (Sl Int):=x.2.1
@[reducible] def bg.now (x:bg):Sl (Sl Int):=x.2.2.1
@[reducible] def bg.p (x:bg):aJ:=x.2.2.2.1
@[reducible] def bg.dY (x:bg):Sl am:=x.2.2.2.2
@[reducible] def y7:Ty:=.st (.pr (.i .i64) (.pr (.i .i64) (.i .i64)))
@[reducible] def y6:Ty:=.st (.pr y0 (.pr (.sl (.sl (.i .i64))) (.pr (.sl (.sl (.i .i64))) (.pr y3 (.sl y7)))))
@[reducible] def aQ:Type:=Int×Int
@[reducible] def aQ.pN (x:aQ):Int:=x.1
@[reducible] def aQ.To (x:aQ):Int:=x.2
@[reducible] def bG:Type:=Int×Int×Int
@[reducible] def bG.I (x:bG):Int:=x.1
@[reducible] def bG.J (x:bG):Int:=x.2.1
@[reducible] def bG.SW (x:bG):Int:=x.2.2
def mZ(r_1:Sl (Sl Int)):Int->Option (Int⊕(Bool⊕Unit)):=fun i2=>
 bif decide (i2<(r_1.l.length:Int))then((e9 i2 r_1.l.length).bind fun n3=>
 bif decide ((((gt r_1.l n3).l).length:Int)>12)then(some (.inr (.inl false)))else
 (some (.inl (wr .i64 (i2+1)))))else
 (some (.inr (.inr ())))
def lg(t_0:ah)(r_1:Sl (Sl Int)):Option Bool:=
 (bD (mZ r_1) 0).bind fun
 |.inl b4=>(some b4)
 |.inr _=>(some (((decide ((((ah.bW t_0).l).length:Int)<=30))&&(decide ((((ah.bd t_0).l).length:Int)<=12)))&&(decide ((r_1.l.length:Int)<=12))))
def SO:lB:=⟨[(false,.x y0),(false,.x (.sl (.sl (.i .i64))))],[([.x .b],[])],true,[],fun p=>match p with|(t_0,r_1)=>lg t_0 r_1⟩
theorem SQ:cY prog 19 SO:=cH mixed dH (de:=de) (np:=2) (an:=[(5,{j:=some {vs:=[(5,.x (.i .i64))]},e:=[(.ret,{vs:=[(4,.x .b)]}),(.exit 0,{})]})]) .nil (by kernel_rfl) (by kernel_rfl)
def lc(t_0:ah):(Int×Sl bn)->Option ((Int×Sl bn)⊕(Sl bn)):=fun(i4,s5)=>
 bif decide (i4<(((ah.bW t_0).l).length:Int))then((e9 i4 ((ah.bW t_0).l).length).bind fun n6=>
 (iH (s5.l++[(⟨bz.A (gt ((ah.bW t_0).l) n6),bz.nB (gt ((ah.bW t_0).l) n6)⟩:bn),(⟨bz.B (gt ((ah.bW t_0).l) n6),bz.nA (gt ((ah.bW t_0).l) n6)⟩:bn)])).bind fun l7=>
 some (.inl (wr .i64 (i4+1),(Sl.mk l7))))else
 (some (.inr s5))
def k_(t_0:ah):(Int×Sl bn)->Option ((Int×Sl bn)⊕(Sl bn)):=fun(i11,s12)=>
 bif decide (i11<(((ah.bd t_0).l).length:Int))then((e9 i11 ((ah.bd t_0).l).length).bind fun n13=>
 (iH (s12.l++[gt ((ah.bd t_0).l) n13])).bind fun l14=>
 some (.inl (wr .i64 (i11+1),(Sl.mk l14))))else
 (some (.inr s12))
def mE(t_0:ah):Option (Sl bn):=
 (bD (lc t_0) (0,Sl.nil)).bind fun s8=>
 (bD (k_ t_0) (0,s8)).bind fun s15=>
 some s15
def TI:lB:=⟨[(false,.x y0)],[([.x (.sl y2)],[])],false,[],fun p=>match p with|t_0=>mE t_0⟩
theorem Ux:cY prog 94 TI:=cH mixed dH (de:=de) (np:=1) (an:=[(7,{j:=some {vs:=[(3,.so 0),(11,.x (.i .i64))],os:=[.ar y2]},e:=[(.exit 0,{vs:=[(3,.so 0)],os:=[.ar y2]})]}),(19,{j:=some {vs:=[(3,.so 0),(32,.x (.i .i64))],os:=[.ar y2],kl:=[1]},e:=[(.exit 2,{vs:=[(3,.so 0)],os:=[.ar y2],kl:=[1]})]})]) .nil (by kernel_rfl) (by kernel_rfl)
def lV(t_0:ah):Int->Option (Int⊕(Bool⊕Unit)):=fun i2=>
 bif decide (i2<(((ah.bW t_0).l).length:Int))then((e9 i2 ((ah.bW t_0).l).length).bind fun n3=>
 bif(((((bz.A (gt ((ah.bW t_0).l) n3))==(bz.B (gt ((ah.bW t_0).l) n3)))||(decide ((bz.xj (gt ((ah.bW t_0).l) n3))<1)))||(decide ((bz.xj (gt ((ah.bW t_0).l) n3))>(bz.pW (gt ((ah.bW t_0).l) n3)))))||(decide ((bz.pW (gt ((ah.bW t_0).l) n3))>1000)))then(some (.inr (.inl false)))else
 (some (.inl (wr .i64 (i2+1)))))else
 (some (.inr (.inr ())))
def iI(t_0:ah)(r5:Sl bn):(Int×Mp bn Int)->Option ((Int×Mp bn Int)⊕(Bool⊕Unit)):=fun(i9,m10)=>
 bif decide (i9<(r5.l.length:Int))then((e9 i9 r5.l.length).bind fun n11=>
 (vg ((l5 m10 0 (gt r5.l n11)).1) ((l5 m10 0 (gt r5.l n11)).2.2) (wr .i64 ((oV m10 0 (gt r5.l n11))+1))).bind fun m12=>
 bif(((((decide ((bn.sw (gt r5.l n11))<0))||(decide ((bn.sw (gt r5.l n11))>=(ah.br t_0))))||(decide ((bn.z8 (gt r5.l n11))<0)))||(decide ((bn.z8 (gt r5.l n11))>=8)))||(decide ((oV m12 0 (gt r5.l n11))>1)))then(some (.inr (.inl false)))else
 (some (.inl (wr .i64 (i9+1),m12))))else
 (some (.inr (.inr ())))
def nD(t_0:ah):Option Bool:=
 bif((((decide ((ah.br t_0)<1))||(decide ((ah.br t_0)>8)))||(decide ((((ah.bW t_0).l).length:Int)>24)))||(decide ((((ah.bd t_0).l).length:Int)>8)))then(some false)else
 ((bD (lV t_0) 0).bind fun
 |.inl b4=>(some b4)
 |.inr _=>((mE t_0).bind fun r5=>
 (bD (iI t_0 r5) (0,(Mp.none:Mp bn Int))).bind fun
 |.inl b13=>(some b13)
 |.inr _=>(some true)))
def Tw:lB:=⟨[(false,.x y0)],[([.x .b],[])],true,[],fun p=>match p with|t_0=>nD t_0⟩
theorem Uq:cY prog 69 Tw:=cH mixed dH (de:=de) (np:=1) (an:=[(10,{j:=some {vs:=[(31,.x (.i .i64))]},e:=[(.ret,{vs:=[(2,.x .b)]}),(.exit 0,{})]}),(27,{j:=some {vs:=[(5,.om 0),(62,.x (.i .i64))],os:=[.mp y2 (.i .i64)],kl:=[1]},e:=[(.ret,{vs:=[(2,.x .b)],kl:=[1]}),(.exit 2,{kl:=[1]})]})]) (.cons Ux .nil) (by kernel_rfl) (by kernel_rfl)
def qj(p_0:Int):Option Bool:=some ((decide (p_0<0))||(decide (p_0>=8)))
def Va:lB:=⟨[(false,.x (.i .i64))],[([.x .b],[])],true,[],fun p=>match p with|p_0=>qj p_0⟩
theorem Vh:cY prog 71 Va:=cH mixed dH (de:=de) (np:=1) (an:=[]) .nil (by kernel_rfl) (by kernel_rfl)
def cL(s_0:Sl Int):Int->Option (Int⊕(Int⊕Unit)):=fun i2=>
 bif decide (i2<(s_0.l.length:Int))then((e9 i2 s_0.l.length).bind fun n3=>
 (qj (gt s_0.l n3)).bind fun r4=>
 bif r4 then(some (.inr (.inl i2)))else
 (some (.inl (wr .i64 (i2+1)))))else
 (some (.inr (.inr ())))
def c9(s_0:Sl Int):Option Int:=
 (bD (cL s_0) 0).bind fun
 |.inl i5=>(some i5)
 |.inr _=>(some (-1))
def U_:lB:=⟨[(false,.x (.sl (.i .i64))),(false,.fn 71 .ni)],[([.x (.i .i64)],[])],true,[],fun p=>match p with|s_0=>c9 s_0⟩
theorem Vg:cY prog 95 U_:=cH mixed dH (de:=de) (np:=2) (an:=[(5,{j:=some {vs:=[(8,.x (.i .i64))]},e:=[(.ret,{vs:=[(4,.x (.i .i64))]}),(.exit 0,{})]})]) (.cons Vh .nil) (by kernel_rfl) (by kernel_rfl)
def bV(s_0:Sl Int):Option Bool:=
 (c9 s_0).bind fun r1=>
 some (decide (r1>=0))
def U9:lB:=⟨[(false,.x (.sl (.i .i64))),(false,.fn 71 .ni)],[([.x .b],[])],true,[],fun p=>match p with|s_0=>bV s_0⟩
theorem Vf:cY prog 70 U9:=cH mixed dH (de:=de) (np:=2) (an:=[]) (.cons Vg .nil) (by kernel_rfl) (by kernel_rfl)
def jX(t_0:ah)(r_1:Sl (Sl Int)):Int->Option (Int⊕(Bool⊕Unit)):=fun i3=>
 bif decide (i3<(r_1.l.length:Int))then((e9 i3 r_1.l.length).bind fun n4=>
 (bif((((gt r_1.l n4).l).length:Int) !=(((ah.bd t_0).l).length:Int))then(some true)else
 ((bV (gt r_1.l n4)).bind fun r5=>
 some r5):Option Bool).bind fun b6=>
 bif b6 then(some (.inr (.inl false)))else
 (some (.inl (wr .i64 (i3+1)))))else
 (some (.inr (.inr ())))
def js(t_0:ah)(r_1:Sl (Sl Int)):Option Bool:=
 (nD t_0).bind fun r1=>
 bif((!r1)||((r_1.l.length:Int) !=(ah.br t_0)))then(some false)else
 ((bD (jX t_0 r_1) 0).bind fun
 |.inl b7=>(some b7)
 |.inr _=>(some true))
def U8:lB:=⟨[(false,.x y0),(false,.x (.sl (.sl (.i .i64))))],[([.x .b],[])],true,[],fun p=>match p with|(t_0,r_1)=>js t_0 r_1⟩
theorem Ug:cY prog 34 U8:=cH mixed dH (de:=de) (np:=2) (an:=[(10,{j:=some {vs:=[(19,.x (.i .i64))]},e:=[(.ret,{vs:=[(4,.x .b)]}),(.exit 0,{})]}),(18,{j:=some {vs:=[(32,.x .b)]}})]) (.cons Uq (.cons Vf .nil)) (by kernel_rfl) (by kernel_rfl)
def mw(r_0:Sl (Sl Int))(sw_1:Int)(h_2:Int):Option (Int×Bool):=
 (bif(((decide (sw_1<0))||(decide (sw_1>=(r_0.l.length:Int))))||(decide (h_2<0)))then(some true)else
 ((e9 sw_1 r_0.l.length).bind fun n1=>
 some (decide (h_2>=(((gt r_0.l n1).l).length:Int)))):Option Bool).bind fun b2=>
 bif b2 then(some (0,false))else
 ((e9 sw_1 r_0.l.length).bind fun n3=>
 (e9 h_2 ((gt r_0.l n3).l).length).bind fun n4=>
 some (gt ((gt r_0.l n3).l) n4,true))
def U7:lB:=⟨[(false,.x (.sl (.sl (.i .i64)))),(false,.x (.i .i64)),(false,.x (.i .i64))],[([.x (.i .i64),.x .b],[])],true,[],fun p=>match p with|(r_0,sw_1,h_2)=>mw r_0 sw_1 h_2⟩
theorem U1:cY prog 96 U7:=cH mixed dH (de:=de) (np:=3) (an:=[(4,{j:=some {vs:=[(28,.x .b)]}})]) .nil (by kernel_rfl) (by kernel_rfl)
def ga(s_0:Sl Int)(v_1:Int):Int->Option (Int⊕(Int⊕Unit)):=fun i2=>
 bif decide (i2<(s_0.l.length:Int))then((e9 i2 s_0.l.length).bind fun n3=>
 bif(v_1==(gt s_0.l n3))then(some (.inr (.inl i2)))else
 (some (.inl (wr .i64 (i2+1)))))else
 (some (.inr (.inr ())))
def h_(s_0:Sl Int)(v_1:Int):Option Int:=
 (bD (ga s_0 v_1) 0).bind fun
 |.inl i4=>(some i4)
 |.inr _=>(some (-1))
def U6:lB:=⟨[(false,.x (.sl (.i .i64))),(false,.x (.i .i64))],[([.x (.i .i64)],[])],true,[],fun p=>match p with|(s_0,v_1)=>h_ s_0 v_1⟩
theorem Ve:cY prog 72 U6:=cH mixed dH (de:=de) (np:=2) (an:=[(5,{j:=some {vs:=[(8,.x (.i .i64))]},e:=[(.ret,{vs:=[(4,.x (.i .i64))]}),(.exit 0,{})]})]) .nil (by kernel_rfl) (by kernel_rfl)
def cO(s_0:Sl Int)(v_1:Int):Option Bool:=
 (h_ s_0 v_1).bind fun r1=>
 some (decide (r1>=0))
def TS:lB:=⟨[(false,.x (.sl (.i .i64))),(false,.x (.i .i64))],[([.x .b],[])],true,[],fun p=>match p with|(s_0,v_1)=>cO s_0 v_1⟩
theorem N5:cY prog 35 TS:=cH mixed dH (de:=de) (np:=2) (an:=[]) (.cons Ve .nil) (by kernel_rfl) (by kernel_rfl)
def ir(l_0:Sl Int):Option Bool:=
 (bif decide ((l_0.l.length:Int)>0)then((qu l_0.l 0 (wr .i64 ((l_0.l.length:Int)-1))).bind fun l1=>
 (e9 (wr .i64 ((l_0.l.length:Int)-1)) l_0.l.length).bind fun n2=>
 (cO (l_0.to l1) (gt l_0.l n2)).bind fun r3=>
 some r3)else
 (some false):Option Bool).bind fun b4=>
 some b4
def TR:lB:=⟨[(false,.x (.sl (.i .i64)))],[([.x .b],[])],true,[],fun p=>match p with|l_0=>ir l_0⟩
theorem UC:cY prog 97 TR:=cH mixed dH (de:=de) (np:=1) (an:=[(3,{j:=some {vs:=[(2,.x .b)]}})]) (.cons N5 .nil) (by kernel_rfl) (by kernel_rfl)
def mR(t_0:ah)(sw_1:Int)(port_2:Int):Int->Option (Int⊕((Int×Int×Int×Bool)⊕Unit)):=fun i2=>
 bif decide (i2<(((ah.bW t_0).l).length:Int))then((e9 i2 ((ah.bW t_0).l).length).bind fun n3=>
 bif decide ((⟨sw_1,port_2⟩:bn)=(⟨bz.A (gt ((ah.bW t_0).l) n3),bz.nB (gt ((ah.bW t_0).l) n3)⟩:bn))then(some (.inr (.inl (bz.B (gt ((ah.bW t_0).l) n3),bz.nA (gt ((ah.bW t_0).l) n3),i2,true))))else
 (bif decide ((⟨sw_1,port_2⟩:bn)=(⟨bz.B (gt ((ah.bW t_0).l) n3),bz.nA (gt ((ah.bW t_0).l) n3)⟩:bn))then(some (.inr (.inl (bz.A (gt ((ah.bW t_0).l) n3),bz.nB (gt ((ah.bW t_0).l) n3),i2,true))))else
 (some (.inl (wr .i64 (i2+1))))))else
 (some (.inr (.inr ())))
def nE(t_0:ah)(sw_1:Int)(port_2:Int):Option (Int×Int×Int×Bool):=
 (bD (mR t_0 sw_1 port_2) 0).bind fun
 |.inl (i4,i5,i6,b7)=>(some (i4,i5,i6,b7))
 |.inr _=>(some (0,0,0,false))
def TQ:lB:=⟨[(false,.x y0),(false,.x (.i .i64)),(false,.x (.i .i64))],[([.x (.i .i64),.x (.i .i64),.x (.i .i64),.x .b],[])],true,[],fun p=>match p with|(t_0,sw_1,port_2)=>nE t_0 sw_1 port_2⟩
theorem Sd:cY prog 89 TQ:=cH mixed dH (de:=de) (np:=3) (an:=[(7,{j:=some {vs:=[(21,.x (.i .i64))]},e:=[(.ret,{vs:=[(6,.x (.i .i64)),(7,.x (.i .i64)),(8,.x (.i .i64)),(9,.x .b)]}),(.exit 0,{})]})]) .nil (by kernel_rfl) (by kernel_rfl)
def nJ(t_0:ah)(r_1:Sl (Sl Int))(sw_2:Int)(h_3:Int):Option (Int×Bool):=
 (mw r_1 sw_2 h_3).bind fun(r1,r2)=>
 bif(!r2)then(some (0,false))else
 ((nE t_0 sw_2 r1).bind fun(r3,r4,r5,r6)=>
 some (r3,r6))
def TP:lB:=⟨[(false,.x y0),(false,.x (.sl (.sl (.i .i64)))),(false,.x (.i .i64)),(false,.x (.i .i64))],[([.x (.i .i64),.x .b],[])],true,[],fun p=>match p with|(t_0,r_1,sw_2,h_3)=>nJ t_0 r_1 sw_2 h_3⟩
theorem UB:cY prog 98 TP:=cH mixed dH (de:=de) (np:=4) (an:=[]) (.cons U1 (.cons Sd .nil)) (by kernel_rfl) (by kernel_rfl)
def d_(t_0:ah)(r_1:Sl (Sl Int))(h_3:Int):(Sl Int)->Option (Sl Int⊕((Int×Sl Int)⊕Unit)):=fun s6=>
 (ir s6).bind fun r7=>
 bif(!r7)then((e9 (wr .i64 ((s6.l.length:Int)-1)) s6.l.length).bind fun n8=>
 (e9 h_3 ((ah.bd t_0).l).length).bind fun n9=>
 (e9 (gt s6.l n8) r_1.l.length).bind fun n10=>
 (e9 h_3 ((gt r_1.l n10).l).length).bind fun n11=>
 bif decide ((gt ((ah.bd t_0).l) n9)=(⟨gt s6.l n8,gt ((gt r_1.l n10).l) n11⟩:fS))then(some (.inr (.inl (0,s6))))else
 ((nJ t_0 r_1 (gt s6.l n8) h_3).bind fun(r12,r13)=>
 bif(!r13)then(some (.inr (.inl (13,Sl.nil))))else
 ((iH (s6.l++[r12])).bind fun l14=>
 some (.inl (Sl.mk l14)))))else
 (some (.inr (.inr ())))
def jB(t_0:ah)(r_1:Sl (Sl Int))(sw_2:Int)(h_3:Int):Option (Sl Int×Int):=
 (mw r_1 sw_2 h_3).bind fun(r1,r2)=>
 (bif(!r2)then(some true)else
 ((js t_0 r_1).bind fun r3=>
 some (!r3)):Option Bool).bind fun b4=>
 bif b4 then(some (Sl.nil,2))else
 ((bD (d_ t_0 r_1 h_3) (Sl.mk [sw_2])).bind fun
 |.inl (i15,s16)=>(some (s16,i15))
 |.inr _=>(some (Sl.nil,12)))
def TO:lB:=⟨[(false,.x y0),(false,.x (.sl (.sl (.i .i64)))),(false,.x (.i .i64)),(false,.x (.i .i64))],[([.x (.sl (.i .i64)),.x (.i .i64)],[])],false,[],fun p=>match p with|(t_0,r_1,sw_2,h_3)=>jB t_0 r_1 sw_2 h_3⟩
theorem UA:cY prog 73 TO:=cH mixed dH (de:=de) (np:=4) (an:=[(6,{j:=some {vs:=[(30,.x .b)]}}),(12,{j:=some {vs:=[(12,.so 0)],os:=[.ar (.i .i64)],kl:=[3]},e:=[(.ret,{vs:=[(8,.so 0),(9,.x (.i .i64))],os:=[.ar (.i .i64)],kl:=[3]}),(.exit 0,{kl:=[3]})]})]) (.cons U1 (.cons Ug (.cons UC (.cons UB .nil)))) (by kernel_rfl) (by kernel_rfl)
def gA(t_0:ah)(r_1:Sl (Sl Int))(h_2:Int):(Int×Sl Int)->Option ((Int×Sl Int)⊕(Sl Int)):=fun(i5,s6)=>
 bif decide (i5<(r_1.l.length:Int))then((jB t_0 r_1 i5 h_2).bind fun(r7,r8)=>
 (iH (s6.l++[wr .i64 ((r7.l.length:Int)-1)])).bind fun l9=>
 some (.inl (wr .i64 (i5+1),(Sl.mk l9))))else
 (some (.inr s6))
def lD(t_0:ah)(r_1:Sl (Sl Int))(h_2:Int):Option (Sl Int):=
 (js t_0 r_1).bind fun r1=>
 bif(((!r1)||(decide (h_2<0)))||(decide (h_2>=(((ah.bd t_0).l).length:Int))))then(some Sl.nil)else
 ((bD (gA t_0 r_1 h_2) (0,Sl.nil)).bind fun s10=>
 some s10)
def TN:lB:=⟨[(false,.x y0),(false,.x (.sl (.sl (.i .i64)))),(false,.x (.i .i64))],[([.x (.sl (.i .i64))],[])],false,[],fun p=>match p with|(t_0,r_1,h_2)=>lD t_0 r_1 h_2⟩
theorem Sc:cY prog 36 TN:=cH mixed dH (de:=de) (np:=3) (an:=[(12,{j:=some {vs:=[(7,.so 0),(28,.x (.i .i64))],os:=[.ar (.i .i64)]},e:=[(.exit 0,{vs:=[(7,.so 0)],os:=[.ar (.i .i64)]})]})]) (.cons Ug (.cons UA .nil)) (by kernel_rfl) (by kernel_rfl)
def gY(t_0:ah)(r_1:Sl (Sl Int)):Int->Option (Int⊕(Bool⊕Unit)):=fun i3=>
 bif decide (i3<(((ah.bd t_0).l).length:Int))then((lD t_0 r_1 i3).bind fun r4=>
 (cO r4 (-1)).bind fun r5=>
 bif r5 then(some (.inr (.inl false)))else
 (some (.inl (wr .i64 (i3+1)))))else
 (some (.inr (.inr ())))
def iu(t_0:ah)(r_1:Sl (Sl Int)):Option Bool:=
 (js t_0 r_1).bind fun r1=>
 bif(!r1)then(some false)else
 ((bD (gY t_0 r_1) 0).bind fun
 |.inl b6=>(some b6)
 |.inr _=>(some true))
def TM:lB:=⟨[(false,.x y0),(false,.x (.sl (.sl (.i .i64))))],[([.x .b],[])],true,[],fun p=>match p with|(t_0,r_1)=>iu t_0 r_1⟩
theorem Sb:cY prog 16 TM:=cH mixed dH (de:=de) (np:=2) (an:=[(10,{j:=some {vs:=[(13,.x (.i .i64))]},e:=[(.ret,{vs:=[(4,.x .b)]}),(.exit 0,{})]})]) (.cons Ug (.cons Sc (.cons N5 .nil))) (by kernel_rfl) (by kernel_rfl)
def ko(r_0:aj)(m_1:ae):Option Bool:=
 (bif((ae.uj m_1)==(aj.No r_0))then((cO (aj.RF r_0) (ae.Sw m_1)).bind fun r1=>
 some r1)else
 (some false):Option Bool).bind fun b2=>
 some b2
def TL:lB:=⟨[(false,.x y5),(false,.x y4)],[([.x .b],[])],true,[],fun p=>match p with|(r_0,m_1)=>ko r_0 m_1⟩
theorem Sa:cY prog 61 TL:=cH mixed dH (de:=de) (np:=2) (an:=[(3,{j:=some {vs:=[(4,.x .b)]}})]) (.cons N5 .nil) (by kernel_rfl) (by kernel_rfl)
def iz(r_0:aj)(c_1:ae):Option Bool:=
 (ko r_0 c_1).bind fun r1=>
 some r1
def TK:lB:=⟨[(false,.x y5),(false,.pt y4)],[([.x .b],[])],true,[],fun p=>match p with|(r_0,c_1)=>iz r_0 c_1⟩
theorem Uz:cY prog 88 TK:=cH mixed dH (de:=de) (np:=2) (an:=[]) (.cons Sa .nil) (by kernel_rfl) (by kernel_rfl)
def bf(s_0:Sl aj)(f_1_c0:ae):Int->Option (Int⊕(Int⊕Unit)):=fun i2=>
 bif decide (i2<(s_0.l.length:Int))then((e9 i2 s_0.l.length).bind fun n3=>
 (iz (gt s_0.l n3) f_1_c0).bind fun r4=>
 bif r4 then(some (.inr (.inl i2)))else
 (some (.inl (wr .i64 (i2+1)))))else
 (some (.inr (.inr ())))
def bC(s_0:Sl aj)(f_1_c0:ae):Option Int:=
 (bD (bf s_0 f_1_c0) 0).bind fun
 |.inl i5=>(some i5)
 |.inr _=>(some (-1))
def TJ:lB:=⟨[(false,.x (.sl y5)),(false,.fn 88 (.pr (.pt y4) .ni))],[([.x (.i .i64)],[])],true,[],fun p=>match p with|(s_0,f_1_c0)=>bC s_0 f_1_c0⟩
theorem Uy:cY prog 124 TJ:=cH mixed dH (de:=de) (np:=2) (an:=[(5,{j:=some {vs:=[(8,.x (.i .i64))]},e:=[(.ret,{vs:=[(4,.x (.i .i64))]}),(.exit 0,{})]})]) (.cons Uz .nil) (by kernel_rfl) (by kernel_rfl)
def bt(s_0:Sl aj)(f_1_c0:ae):Option Bool:=
 (bC s_0 f_1_c0).bind fun r1=>
 some (decide (r1>=0))
def TH:lB:=⟨[(false,.x (.sl y5)),(false,.fn 88 (.pr (.pt y4) .ni))],[([.x .b],[])],true,[],fun p=>match p with|(s_0,f_1_c0)=>bt s_0 f_1_c0⟩
theorem Uw:cY prog 87 TH:=cH mixed dH (de:=de) (np:=2) (an:=[]) (.cons Uy .nil) (by kernel_rfl) (by kernel_rfl)
def eZ(x_0:bg)(m_1:ae):Option Bool:=
 (bt (aJ.eI (bg.p x_0)) m_1).bind fun r1=>
 some r1
def TG:lB:=⟨[(false,.pt y6),(false,.x y4)],[([.x .b],[])],true,[],fun p=>match p with|(x_0,m_1)=>eZ x_0 m_1⟩
theorem Uv:cY prog 56 TG:=cH mixed dH (de:=de) (np:=2) (an:=[]) (.cons Uw .nil) (by kernel_rfl) (by kernel_rfl)
def bF(x_0_t:ah)(x_0_old:Sl (Sl Int))(x_0_now:Sl (Sl Int))(x_0_p_Moves:Sl ae)(x_0_p_Rounds:Sl aj)(x_0_p_Miss:Int)(x_0_p_Life:Int)(x_0_p_From:Int)(x_0_p_To:Int)(x_0_out:Sl am)(is_1:Bool)(kind_2:Int)(k_3:Int)(h_4:Int):Option (ah×Sl (Sl Int)×Sl (Sl Int)×Sl ae×Sl aj×Int×Int×Int×Int×Sl am):=
 bif is_1 then((iH (x_0_out.l++[(⟨kind_2,k_3,h_4⟩:am)])).bind fun l1=>
 some (x_0_t,x_0_old,x_0_now,x_0_p_Moves,x_0_p_Rounds,x_0_p_Miss,x_0_p_Life,x_0_p_From,x_0_p_To,(Sl.mk l1)))else
 (some (x_0_t,x_0_old,x_0_now,x_0_p_Moves,x_0_p_Rounds,x_0_p_Miss,x_0_p_Life,x_0_p_From,x_0_p_To,x_0_out))
def TF:lB:=⟨[(true,.pb y6 (.st (.pr (.x y0) (.pr (.x (.sl (.sl (.i .i64)))) (.pr (.x (.sl (.sl (.i .i64)))) (.pr (.st (.pr (.x (.sl y4)) (.pr (.x (.sl y5)) (.pr (.x (.i .i64)) (.pr (.x (.i .i64)) (.pr (.x (.i .i64)) (.pr (.x (.i .i64)) .ni))))))) (.pr (.os y7) .ni))))))),(false,.x .b),(false,.x (.i .i64)),(false,.x (.i .i64)),(false,.x (.i .i64))],[([],[.pb y6 (.st (.pr (.x y0) (.pr (.x (.sl (.sl (.i .i64)))) (.pr (.x (.sl (.sl (.i .i64)))) (.pr (.st (.pr (.x (.sl y4)) (.pr (.x (.sl y5)) (.pr (.x (.i .i64)) (.pr (.x (.i .i64)) (.pr (.x (.i .i64)) (.pr (.x (.i .i64)) .ni))))))) (.pr (.os y7) .ni))))))])],false,[true,false,false,false,false],fun p=>match p with|(x_0_t,x_0_old,x_0_now,x_0_p_Moves,x_0_p_Rounds,x_0_p_Miss,x_0_p_Life,x_0_p_From,x_0_p_To,x_0_out,is_1,kind_2,k_3,h_4)=>bF x_0_t x_0_old x_0_now x_0_p_Moves x_0_p_Rounds x_0_p_Miss x_0_p_Life x_0_p_From x_0_p_To x_0_out is_1 kind_2 k_3 h_4⟩
theorem Qj:cY prog 57 TF:=cH mixed dH (de:=de) (np:=5) (an:=[]) .nil (by kernel_rfl) (by kernel_rfl)
def fA(x_0:bg)(m_1:ae):Option Bool:=some ((((decide ((ae.Sw m_1)>=0))&&(decide ((ae.Sw m_1)<(ah.br (bg.t x_0)))))&&(decide ((ae.mC m_1)>=0)))&&(decide ((ae.mC m_1)<(((ah.bd (bg.t x_0)).l).length:Int))))
def TE:lB:=⟨[(false,.pt y6),(false,.x y4)],[([.x .b],[])],true,[],fun p=>match p with|(x_0,m_1)=>fA x_0 m_1⟩
theorem R_:cY prog 58 TE:=cH mixed dH (de:=de) (np:=2) (an:=[]) .nil (by kernel_rfl) (by kernel_rfl)
def dX(i13:Int)(s47:Sl am)(i43:Int)(i45:Int)(i46:Int)(n48:Nat)(s16:Sl (Sl Int))(n24:Nat)(i37:Int)(x38:ah)(s39:Sl (Sl Int))(s40:Sl (Sl Int))(s41:Sl ae)(s42:Sl aj)(i44:Int):(Int×Int)->Option ((Int×Int)⊕Int):=fun(i51,i52)=>
 bif decide (i52<(s41.l.length:Int))then(((e9 i52 s41.l.length).bind fun n53=>
 (bif((((ae.Sw (gt s41.l n53))==i13)&&((ae.mC (gt s41.l n53))==i37))&&((ae.oc (gt s41.l n53))==(gt ((gt s16.l n24).l) n48)))then((eZ (⟨x38,s39,s40,(⟨s41,s42,i43,i44,i45,i46⟩:bI),s47⟩:bg) (gt s41.l n53)).bind fun r54=>
 some r54)else
 (some false):Option Bool).bind fun b55=>
 bif b55 then(some (wr .i64 (i51+1)))else
 (some i51):Option Int).bind fun i56=>
 some (.inl (i56,wr .i64 (i52+1))))else
 (some (.inr i51))
def eV(i13:Int)(s16:Sl (Sl Int))(n24:Nat):(Int×ah×Sl (Sl Int)×Sl (Sl Int)×Sl ae×Sl aj×Int×Int×Int×Int×Sl am)->Option ((Int×ah×Sl (Sl Int)×Sl (Sl Int)×Sl ae×Sl aj×Int×Int×Int×Int×Sl am)⊕(ah×Sl (Sl Int)×Sl (Sl Int)×Sl ae×Sl aj×Int×Int×Int×Int×Sl am)):=fun(i37,x38,s39,s40,s41,s42,i43,i44,i45,i46,s47)=>
 bif decide (i37<(((gt s16.l n24).l).length:Int))then((e9 i37 ((gt s16.l n24).l).length).bind fun n48=>
 (bD (dX i13 s47 i43 i45 i46 n48 s16 n24 i37 x38 s39 s40 s41 s42 i44) (0,0)).bind fun i57=>
 (e9 i13 s39.l.length).bind fun n58=>
 (e9 i37 ((gt s39.l n58).l).length).bind fun n59=>
 (bF x38 s39 s40 s41 s42 i43 i44 i45 i46 s47 (((gt ((gt s16.l n24).l) n48) !=(gt ((gt s39.l n58).l) n59))&&(i57 !=1)) 2 i13 i37).bind fun(q60,q61,q62,q63,q64,q65,q66,q67,q68,s69)=>
 some (.inl (wr .i64 (i37+1),q60,q61,q62,q63,q64,q65,q66,q67,q68,s69)))else
 (some (.inr (x38,s39,s40,s41,s42,i43,i44,i45,i46,s47)))
def eU(x_0_now:Sl (Sl Int)):(Int×ah×Sl (Sl Int)×Sl (Sl Int)×Sl ae×Sl aj×Int×Int×Int×Int×Sl am)->Option ((Int×ah×Sl (Sl Int)×Sl (Sl Int)×Sl ae×Sl aj×Int×Int×Int×Int×Sl am)⊕(ah×Sl (Sl Int)×Sl (Sl Int)×Sl ae×Sl aj×Int×Int×Int×Int×Sl am)):=fun(i13,x14,s15,s16,s17,s18,i19,i20,i21,i22,s23)=>
 bif decide (i13<(x_0_now.l.length:Int))then((e9 i13 s16.l.length).bind fun n24=>
 (bD (eV i13 s16 n24) (0,x14,s15,s16,s17,s18,i19,i20,i21,i22,s23)).bind fun(x70,s71,s72,s73,s74,i75,i76,i77,i78,s79)=>
 some (.inl (wr .i64 (i13+1),x70,s71,s72,s73,s74,i75,i76,i77,i78,s79)))else
 (some (.inr (x14,s15,s16,s17,s18,i19,i20,i21,i22,s23)))
def eT(s83:Sl ae):(Int×ah×Sl (Sl Int)×Sl (Sl Int)×Sl ae×Sl aj×Int×Int×Int×Int×Sl am)->Option ((Int×ah×Sl (Sl Int)×Sl (Sl Int)×Sl ae×Sl aj×Int×Int×Int×Int×Sl am)⊕(ah×Sl (Sl Int)×Sl (Sl Int)×Sl ae×Sl aj×Int×Int×Int×Int×Sl am)):=fun(i102,x103,s104,s105,s106,s107,i108,i109,i110,i111,s112)=>
 bif decide (i102<(s83.l.length:Int))then((e9 i102 s83.l.length).bind fun n113=>
 ((fA (⟨x103,s104,s105,(⟨s106,s107,i108,i109,i110,i111⟩:bI),s112⟩:bg) (gt s83.l n113)).bind fun r114=>
 bif(!r114)then((bF x103 s104 s105 s106 s107 i108 i109 i110 i111 s112 true 3 i102 (ae.mC (gt s83.l n113))).bind fun(q115,q116,q117,q118,q119,q120,q121,q122,q123,s124)=>
 some (q115,q116,q117,q118,q119,q120,q121,q122,q123,s124))else
 ((e9 (ae.Sw (gt s83.l n113)) s105.l.length).bind fun n125=>
 (e9 (ae.mC (gt s83.l n113)) ((gt s105.l n125).l).length).bind fun n126=>
 bif((gt ((gt s105.l n125).l) n126) !=(ae.oc (gt s83.l n113)))then((bF x103 s104 s105 s106 s107 i108 i109 i110 i111 s112 true 3 i102 (ae.mC (gt s83.l n113))).bind fun(q127,q128,q129,q130,q131,q132,q133,q134,q135,s136)=>
 some (q127,q128,q129,q130,q131,q132,q133,q134,q135,s136))else
 ((e9 (ae.Sw (gt s83.l n113)) s104.l.length).bind fun n137=>
 (e9 (ae.mC (gt s83.l n113)) ((gt s104.l n137).l).length).bind fun n138=>
 bif((gt ((gt s104.l n137).l) n138)==(ae.oc (gt s83.l n113)))then((bF x103 s104 s105 s106 s107 i108 i109 i110 i111 s112 true 3 i102 (ae.mC (gt s83.l n113))).bind fun(q139,q140,q141,q142,q143,q144,q145,q146,q147,s148)=>
 some (q139,q140,q141,q142,q143,q144,q145,q146,q147,s148))else
 ((eZ (⟨x103,s104,s105,(⟨s106,s107,i108,i109,i110,i111⟩:bI),s112⟩:bg) (gt s83.l n113)).bind fun r149=>
 (bF x103 s104 s105 s106 s107 i108 i109 i110 i111 s112 (!r149) 3 i102 (ae.mC (gt s83.l n113))).bind fun(q150,q151,q152,q153,q154,q155,q156,q157,q158,s159)=>
 some (q150,q151,q152,q153,q154,q155,q156,q157,q158,s159)))):Option (ah×Sl (Sl Int)×Sl (Sl Int)×Sl ae×Sl aj×Int×Int×Int×Int×Sl am)).bind fun(x160,s161,s162,s163,s164,i165,i166,i167,i168,s169)=>
 some (.inl (wr .i64 (i102+1),x160,s161,s162,s163,s164,i165,i166,i167,i168,s169)))else
 (some (.inr (x103,s104,s105,s106,s107,i108,i109,i110,i111,s112)))
def f_(x_0_t:ah)(x_0_old:Sl (Sl Int))(x_0_now:Sl (Sl Int))(x_0_p_Moves:Sl ae)(x_0_p_Rounds:Sl aj)(x_0_p_Miss:Int)(x_0_p_Life:Int)(x_0_p_From:Int)(x_0_p_To:Int)(x_0_out:Sl am):Option (ah×Sl (Sl Int)×Sl (Sl Int)×Sl ae×Sl aj×Int×Int×Int×Int×Sl am):=
 (bD (eU x_0_now) (0,x_0_t,x_0_old,x_0_now,x_0_p_Moves,x_0_p_Rounds,x_0_p_Miss,x_0_p_Life,x_0_p_From,x_0_p_To,x_0_out)).bind fun(x80,s81,s82,s83,s84,i85,i86,i87,i88,s89)=>
 (bD (eT s83) (0,x80,s81,s82,s83,s84,i85,i86,i87,i88,s89)).bind fun(x170,s171,s172,s173,s174,i175,i176,i177,i178,s179)=>
 some (x170,s171,s172,s173,s174,i175,i176,i177,i178,s179)
def TD:lB:=⟨[(true,.pb y6 (.st (.pr (.x y0) (.pr (.x (.sl (.sl (.i .i64)))) (.pr (.x (.sl (.sl (.i .i64)))) (.pr (.st (.pr (.x (.sl y4)) (.pr (.x (.sl y5)) (.pr (.x (.i .i64)) (.pr (.x (.i .i64)) (.pr (.x (.i .i64)) (.pr (.x (.i .i64)) .ni))))))) (.pr (.os y7) .ni)))))))],[([],[.pb y6 (.st (.pr (.x y0) (.pr (.x (.sl (.sl (.i .i64)))) (.pr (.x (.sl (.sl (.i .i64)))) (.pr (.st (.pr (.x (.sl y4)) (.pr (.x (.sl y5)) (.pr (.x (.i .i64)) (.pr (.x (.i .i64)) (.pr (.x (.i .i64)) (.pr (.x (.i .i64)) .ni))))))) (.pr (.os y7) .ni))))))])],false,[true],fun p=>match p with|(x_0_t,x_0_old,x_0_now,x_0_p_Moves,x_0_p_Rounds,x_0_p_Miss,x_0_p_Life,x_0_p_From,x_0_p_To,x_0_out)=>f_ x_0_t x_0_old x_0_now x_0_p_Moves x_0_p_Rounds x_0_p_Miss x_0_p_Life x_0_p_From x_0_p_To x_0_out⟩
theorem Uu:cY prog 27 TD:=cH mixed dH (de:=de) (np:=1) (an:=[(3,{j:=some {vs:=[(0,.op 0 y6 []),(15,.x (.i .i64))],gs:=(.co (.op 0 y6 []) .ni),os:=[.bx y6 (.rc (.co (.x y0) (.co (.x (.sl (.sl (.i .i64)))) (.co (.x (.sl (.sl (.i .i64)))) (.co (.rc (.co (.x (.sl y4)) (.co (.x (.sl y5)) (.co (.x (.i .i64)) (.co (.x (.i .i64)) (.co (.x (.i .i64)) (.co (.x (.i .i64)) .ni))))))) (.co (.so 1) .ni)))))),.ar y7],kl:=[0,12]},e:=[(.exit 0,{vs:=[(0,.op 0 y6 [])],gs:=(.co (.op 0 y6 []) .ni),os:=[.bx y6 (.rc (.co (.x y0) (.co (.x (.sl (.sl (.i .i64)))) (.co (.x (.sl (.sl (.i .i64)))) (.co (.rc (.co (.x (.sl y4)) (.co (.x (.sl y5)) (.co (.x (.i .i64)) (.co (.x (.i .i64)) (.co (.x (.i .i64)) (.co (.x (.i .i64)) .ni))))))) (.co (.so 1) .ni)))))),.ar y7],kl:=[0,12]})]}),(12,{j:=some {vs:=[(0,.op 0 y6 []),(26,.x (.i .i64))],gs:=(.co (.op 0 y6 []) .ni),os:=[.bx y6 (.rc (.co (.x y0) (.co (.x (.sl (.sl (.i .i64)))) (.co (.x (.sl (.sl (.i .i64)))) (.co (.rc (.co (.x (.sl y4)) (.co (.x (.sl y5)) (.co (.x (.i .i64)) (.co (.x (.i .i64)) (.co (.x (.i .i64)) (.co (.x (.i .i64)) .ni))))))) (.co (.so 1) .ni)))))),.ar y7],kl:=[13,14]},e:=[(.exit 2,{vs:=[(0,.op 0 y6 [])],gs:=(.co (.op 0 y6 []) .ni),os:=[.bx y6 (.rc (.co (.x y0) (.co (.x (.sl (.sl (.i .i64)))) (.co (.x (.sl (.sl (.i .i64)))) (.co (.rc (.co (.x (.sl y4)) (.co (.x (.sl y5)) (.co (.x (.i .i64)) (.co (.x (.i .i64)) (.co (.x (.i .i64)) (.co (.x (.i .i64)) .ni))))))) (.co (.so 1) .ni)))))),.ar y7],kl:=[13,14]})]}),(24,{j:=some {vs:=[(5,.x (.i .i64)),(37,.x (.i .i64))]},e:=[(.exit 4,{vs:=[(5,.x (.i .i64))]})]}),(28,{e:=[(.normal,{vs:=[(5,.x (.i .i64))]})]}),(32,{j:=some {vs:=[(61,.x .b)]}}),(40,{j:=some {vs:=[(0,.op 0 y6 []),(93,.x (.i .i64))],gs:=(.co (.op 0 y6 []) .ni),os:=[.bx y6 (.rc (.co (.x y0) (.co (.x (.sl (.sl (.i .i64)))) (.co (.x (.sl (.sl (.i .i64)))) (.co (.rc (.co (.x (.sl y4)) (.co (.x (.sl y5)) (.co (.x (.i .i64)) (.co (.x (.i .i64)) (.co (.x (.i .i64)) (.co (.x (.i .i64)) .ni))))))) (.co (.so 1) .ni)))))),.ar y7],kl:=[13,14]},e:=[(.exit 6,{gs:=(.co (.op 0 y6 []) .ni),os:=[.bx y6 (.rc (.co (.x y0) (.co (.x (.sl (.sl (.i .i64)))) (.co (.x (.sl (.sl (.i .i64)))) (.co (.rc (.co (.x (.sl y4)) (.co (.x (.sl y5)) (.co (.x (.i .i64)) (.co (.x (.i .i64)) (.co (.x (.i .i64)) (.co (.x (.i .i64)) .ni))))))) (.co (.so 1) .ni)))))),.ar y7],kl:=[13,14]})]}),(47,{j:=some {vs:=[(0,.op 0 y6 [])],gs:=(.co (.op 0 y6 []) .ni),os:=[.bx y6 (.rc (.co (.x y0) (.co (.x (.sl (.sl (.i .i64)))) (.co (.x (.sl (.sl (.i .i64)))) (.co (.rc (.co (.x (.sl y4)) (.co (.x (.sl y5)) (.co (.x (.i .i64)) (.co (.x (.i .i64)) (.co (.x (.i .i64)) (.co (.x (.i .i64)) .ni))))))) (.co (.so 1) .ni)))))),.ar y7],kl:=[15,16]}})]) (.cons Uv (.cons Qj (.cons R_ .nil))) (by kernel_rfl) (by kernel_rfl)
def jm(t_0:ah):(Int×Int)->Option ((Int×Int)⊕Int):=fun(i3,i4)=>
 bif decide (i4<(((ah.bW t_0).l).length:Int))then((e9 i4 ((ah.bW t_0).l).length).bind fun n5=>
 some (.inl ((if(bz.pW (gt ((ah.bW t_0).l) n5))>i3 then(bz.pW (gt ((ah.bW t_0).l) n5))else i3),wr .i64 (i4+1))))else
 (some (.inr i3))
def lC(t_0:ah):Option Int:=
 (bD (jm t_0) (0,0)).bind fun i6=>
 some i6
def TC:lB:=⟨[(false,.x y0)],[([.x (.i .i64)],[])],true,[],fun p=>match p with|t_0=>lC t_0⟩
theorem Ut:cY prog 85 TC:=cH mixed dH (de:=de) (np:=1) (an:=[(7,{j:=some {vs:=[(3,.x (.i .i64)),(9,.x (.i .i64))]},e:=[(.exit 0,{vs:=[(3,.x (.i .i64))]})]})]) .nil (by kernel_rfl) (by kernel_rfl)
def nM(t_0:ah):Option Int:=
 (lC t_0).bind fun r1=>
 some (wr .i64 ((ah.br t_0)*r1))
def TB:lB:=⟨[(false,.x y0)],[([.x (.i .i64)],[])],true,[],fun p=>match p with|t_0=>nM t_0⟩
theorem R9:cY prog 52 TB:=cH mixed dH (de:=de) (np:=1) (an:=[]) (.cons Ut .nil) (by kernel_rfl) (by kernel_rfl)
def oq(t_0:ah)(miss_1:Int):Option Int:=
 (nM t_0).bind fun r1=>
 some (wr .i64 ((wr .i64 ((wr .i64 (2*miss_1))+r1))+1))
def TA:lB:=⟨[(false,.x y0),(false,.x (.i .i64))],[([.x (.i .i64)],[])],true,[],fun p=>match p with|(t_0,miss_1)=>oq t_0 miss_1⟩
theorem R8:cY prog 54 TA:=cH mixed dH (de:=de) (np:=2) (an:=[]) (.cons R9 .nil) (by kernel_rfl) (by kernel_rfl)
def ju(n_0:Int):Option Int:=some (if 1125899906842624<(if(-1125899906842624)>n_0 then(-1125899906842624)else n_0)then 1125899906842624 else(if(-1125899906842624)>n_0 then(-1125899906842624)else n_0))
def Tz:lB:=⟨[(false,.x (.i .i64))],[([.x (.i .i64)],[])],true,[],fun p=>match p with|n_0=>ju n_0⟩
theorem Us:cY prog 59 Tz:=cH mixed dH (de:=de) (np:=1) (an:=[]) .nil (by kernel_rfl) (by kernel_rfl)
def dW(r1:Int):(Int×ah×Sl (Sl Int)×Sl (Sl Int)×Sl ae×Sl aj×Int×Int×Int×Int×Sl am)->Option ((Int×ah×Sl (Sl Int)×Sl (Sl Int)×Sl ae×Sl aj×Int×Int×Int×Int×Sl am)⊕(ah×Sl (Sl Int)×Sl (Sl Int)×Sl ae×Sl aj×Int×Int×Int×Int×Sl am)):=fun(i14,x15,s16,s17,s18,s19,i20,i21,i22,i23,s24)=>
 bif decide (i14<(s19.l.length:Int))then((e9 i14 s19.l.length).bind fun n25=>
 (ju (aj.At (gt s19.l n25))).bind fun r26=>
 (e9 (wr .i64 (i14-1)) s19.l.length).bind fun n27=>
 (ju (aj.At (gt s19.l n27))).bind fun r28=>
 (bF x15 s16 s17 s18 s19 i20 i21 i22 i23 s24 (decide ((wr .i64 (r26-r28))<r1)) 4 i14 0).bind fun(q29,q30,q31,q32,q33,q34,q35,q36,q37,s38)=>
 some (.inl (wr .i64 (i14+1),q29,q30,q31,q32,q33,q34,q35,q36,q37,s38)))else
 (some (.inr (x15,s16,s17,s18,s19,i20,i21,i22,i23,s24)))
def fZ(x_0_t:ah)(x_0_old:Sl (Sl Int))(x_0_now:Sl (Sl Int))(x_0_p_Moves:Sl ae)(x_0_p_Rounds:Sl aj)(x_0_p_Miss:Int)(x_0_p_Life:Int)(x_0_p_From:Int)(x_0_p_To:Int)(x_0_out:Sl am):Option (ah×Sl (Sl Int)×Sl (Sl Int)×Sl ae×Sl aj×Int×Int×Int×Int×Sl am):=
 (oq x_0_t (if 1048576<(if 0>x_0_p_Miss then 0 else x_0_p_Miss)then 1048576 else(if 0>x_0_p_Miss then 0 else x_0_p_Miss))).bind fun r1=>
 (bD (dW r1) (1,x_0_t,x_0_old,x_0_now,x_0_p_Moves,x_0_p_Rounds,x_0_p_Miss,x_0_p_Life,x_0_p_From,x_0_p_To,x_0_out)).bind fun(x39,s40,s41,s42,s43,i44,i45,i46,i47,s48)=>
 some (x39,s40,s41,s42,s43,i44,i45,i46,i47,s48)
def Tx:lB:=⟨[(true,.pb y6 (.st (.pr (.x y0) (.pr (.x (.sl (.sl (.i .i64)))) (.pr (.x (.sl (.sl (.i .i64)))) (.pr (.st (.pr (.x (.sl y4)) (.pr (.x (.sl y5)) (.pr (.x (.i .i64)) (.pr (.x (.i .i64)) (.pr (.x (.i .i64)) (.pr (.x (.i .i64)) .ni))))))) (.pr (.os y7) .ni)))))))],[([],[.pb y6 (.st (.pr (.x y0) (.pr (.x (.sl (.sl (.i .i64)))) (.pr (.x (.sl (.sl (.i .i64)))) (.pr (.st (.pr (.x (.sl y4)) (.pr (.x (.sl y5)) (.pr (.x (.i .i64)) (.pr (.x (.i .i64)) (.pr (.x (.i .i64)) (.pr (.x (.i .i64)) .ni))))))) (.pr (.os y7) .ni))))))])],false,[true],fun p=>match p with|(x_0_t,x_0_old,x_0_now,x_0_p_Moves,x_0_p_Rounds,x_0_p_Miss,x_0_p_Life,x_0_p_From,x_0_p_To,x_0_out)=>fZ x_0_t x_0_old x_0_now x_0_p_Moves x_0_p_Rounds x_0_p_Miss x_0_p_Life x_0_p_From x_0_p_To x_0_out⟩
theorem Ur:cY prog 28 Tx:=cH mixed dH (de:=de) (np:=1) (an:=[(6,{j:=some {vs:=[(0,.op 0 y6 []),(4,.x (.i .i64))],gs:=(.co (.op 0 y6 []) .ni),os:=[.bx y6 (.rc (.co (.x y0) (.co (.x (.sl (.sl (.i .i64)))) (.co (.x (.sl (.sl (.i .i64)))) (.co (.rc (.co (.x (.sl y4)) (.co (.x (.sl y5)) (.co (.x (.i .i64)) (.co (.x (.i .i64)) (.co (.x (.i .i64)) (.co (.x (.i .i64)) .ni))))))) (.co (.so 1) .ni)))))),.ar y7],kl:=[0,12]},e:=[(.exit 0,{gs:=(.co (.op 0 y6 []) .ni),os:=[.bx y6 (.rc (.co (.x y0) (.co (.x (.sl (.sl (.i .i64)))) (.co (.x (.sl (.sl (.i .i64)))) (.co (.rc (.co (.x (.sl y4)) (.co (.x (.sl y5)) (.co (.x (.i .i64)) (.co (.x (.i .i64)) (.co (.x (.i .i64)) (.co (.x (.i .i64)) .ni))))))) (.co (.so 1) .ni)))))),.ar y7],kl:=[0,12]})]})]) (.cons R8 (.cons Us (.cons Qj .nil))) (by kernel_rfl) (by kernel_rfl)
def jr(s_0:Sl Int):Option (Sl Int):=
 bif s_0.fQ then(some Sl.nil)else
 ((iH ([]++s_0.l)).bind fun l1=>
 some (kO (Sl.mk []) s_0.l l1))
def Tv:lB:=⟨[(false,.x (.sl (.i .i64)))],[([.os (.i .i64)],[])],false,[],fun p=>match p with|s_0=>jr s_0⟩
theorem Up:cY prog 60 Tv:=cH mixed dH (de:=de) (np:=1) (an:=[]) .nil (by kernel_rfl) (by kernel_rfl)
def j8(n_0:Int)(l_1:Sl aQ):Int->Option (Int⊕(Bool⊕Unit)):=fun i2=>
 bif decide (i2<(l_1.l.length:Int))then((e9 i2 l_1.l.length).bind fun n3=>
 bif((((decide ((aQ.pN (gt l_1.l n3))<0))||(decide ((aQ.pN (gt l_1.l n3))>=n_0)))||(decide ((aQ.To (gt l_1.l n3))<0)))||(decide ((aQ.To (gt l_1.l n3))>=n_0)))then(some (.inr (.inl false)))else
 (some (.inl (wr .i64 (i2+1)))))else
 (some (.inr (.inr ())))
def lj(n_0:Int)(l_1:Sl aQ):Option Bool:=
 bif((decide (n_0<0))||(decide (n_0>16)))then(some false)else
 ((bD (j8 n_0 l_1) 0).bind fun
 |.inl b4=>(some b4)
 |.inr _=>(some true))
def Tu:lB:=⟨[(false,.x (.i .i64)),(false,.x (.sl y2))],[([.x .b],[])],true,[],fun p=>match p with|(n_0,l_1)=>lj n_0 l_1⟩
theorem Uo:cY prog 47 Tu:=cH mixed dH (de:=de) (np:=2) (an:=[(10,{j:=some {vs:=[(15,.x (.i .i64))]},e:=[(.ret,{vs:=[(4,.x .b)]}),(.exit 0,{})]})]) .nil (by kernel_rfl) (by kernel_rfl)
def kG(l_1:Sl aQ):(Int×Sl Int)->Option ((Int×Sl Int)⊕(Sl Int)):=fun(i5,s6)=>
 bif decide (i5<(l_1.l.length:Int))then((e9 i5 l_1.l.length).bind fun n7=>
 (e9 (aQ.pN (gt l_1.l n7)) s6.l.length).bind fun n8=>
 (ye .u16 1 (aQ.To (gt l_1.l n7))).bind fun i9=>
 (e9 (aQ.pN (gt l_1.l n7)) s6.l.length).bind fun n10=>
 some (.inl (wr .i64 (i5+1),(Sl.mk (s6.l.set n10 (RB .u16 (gt s6.l n8) i9))))))else
 (some (.inr s6))
def nR(n_0:Int)(l_1:Sl aQ):Option (Sl Int):=
 (zL 0 n_0 n_0).bind fun l1=>
 (bD (kG l_1) (0,(Sl.mk l1))).bind fun s11=>
 some s11
def Tt:lB:=⟨[(false,.x (.i .i64)),(false,.x (.sl y2))],[([.x (.sl (.i .u16))],[])],false,[],fun p=>match p with|(n_0,l_1)=>nR n_0 l_1⟩
theorem Un:cY prog 48 Tt:=cH mixed dH (de:=de) (np:=2) (an:=[(7,{j:=some {vs:=[(5,.so 0),(12,.x (.i .i64))],os:=[.ar (.i .u16)],kl:=[0]},e:=[(.exit 0,{vs:=[(5,.so 0)],os:=[.ar (.i .u16)],kl:=[0]})]})]) .nil (by kernel_rfl) (by kernel_rfl)
def dE(x_0:Int):Option Int:=
 bif(x_0==0)then(some 16)else
 ((e9 (JQ .u32 (wr .u32 ((wr .u32 (JR .u16 x_0 (wr .u16 (0-x_0))))*125613361)) 27) 32).bind fun n1=>
 some (wr .i64 (gt H8.1 n1)))
def Ts:lB:=⟨[(false,.x (.i .u16))],[([.x (.i .i64)],[])],true,[],fun p=>match p with|x_0=>dE x_0⟩
theorem R7:cY prog 50 Ts:=cH mixed dH (de:=de) (np:=1) (an:=[]) .nil (by kernel_rfl) (by kernel_rfl)
def kH:(Int×Sl Int)->Option ((Int×Sl Int)⊕(Sl Int)):=fun(i4,s5)=>
 bif(i4 !=0)then((dE i4).bind fun r6=>
 (iH (s5.l++[r6])).bind fun l7=>
 some (.inl (JR .u16 i4 (wr .u16 (i4-1)),(Sl.mk l7))))else
 (some (.inr s5))
def nT(set_0:Int):Option (Sl Int):=
 (bD (kH) (set_0,Sl.nil)).bind fun s8=>
 some s8
def Tq:lB:=⟨[(false,.x (.i .u16))],[([.x (.sl (.i .i64))],[])],false,[],fun p=>match p with|set_0=>nT set_0⟩
theorem Um:cY prog 84 Tq:=cH mixed dH (de:=de) (np:=1) (an:=[(5,{j:=some {vs:=[(0,.x (.i .u16)),(3,.so 0)],os:=[.ar (.i .i64)]},e:=[(.exit 0,{vs:=[(3,.so 0)],os:=[.ar (.i .i64)]})]})]) (.cons R7 .nil) (by kernel_rfl) (by kernel_rfl)
def kF(to_0:Sl Int)(r1:Sl Int):(Int×Int)->Option ((Int×Int)⊕Int):=fun(i4,i5)=>
 bif decide (i5<(r1.l.length:Int))then((e9 i5 r1.l.length).bind fun n6=>
 (e9 (gt r1.l n6) to_0.l.length).bind fun n7=>
 some (.inl (RB .u16 i4 (gt to_0.l n7),wr .i64 (i5+1))))else
 (some (.inr i4))
def nQ(to_0:Sl Int)(set_1:Int):Option Int:=
 (nT set_1).bind fun r1=>
 (bD (kF to_0 r1) (0,0)).bind fun i8=>
 some i8
def Tp:lB:=⟨[(false,.x (.sl (.i .u16))),(false,.x (.i .u16))],[([.x (.i .u16)],[])],true,[],fun p=>match p with|(to_0,set_1)=>nQ to_0 set_1⟩
theorem Ul:cY prog 49 Tp:=cH mixed dH (de:=de) (np:=2) (an:=[(7,{j:=some {vs:=[(5,.x (.i .u16)),(11,.x (.i .i64))]},e:=[(.exit 0,{vs:=[(5,.x (.i .u16))]})]})]) (.cons Um .nil) (by kernel_rfl) (by kernel_rfl)
def iW(r2:Sl Int):(Int×Sl Int)->Option ((Int×Sl Int)⊕(Bool⊕(Sl Int))):=fun(i7,s8)=>
 bif(i7 !=0)then((nQ r2 i7).bind fun r9=>
 bif((rL .u16 i7 r9)==0)then(some (.inr (.inl false)))else
 ((dE (rL .u16 i7 r9)).bind fun r10=>
 (iH (s8.l++[r10])).bind fun l11=>
 (ye .u16 1 r10).bind fun i12=>
 some (.inl (rL .u16 i7 i12,(Sl.mk l11)))))else
 (some (.inr (.inr s8)))
def iK(n_0:Int)(l_1:Sl aQ):Option (Sl Int×Bool):=
 (lj n_0 l_1).bind fun r1=>
 bif(!r1)then(some (Sl.nil,false))else
 ((nR n_0 l_1).bind fun r2=>
 (ye .u16 1 n_0).bind fun i3=>
 (bD (iW r2) (wr .u16 (i3-1),Sl.nil)).bind fun
 |.inl b13=>(some (Sl.nil,b13))
 |.inr s14=>(some (s14,true)))
def Tn:lB:=⟨[(false,.x (.i .i64)),(false,.x (.sl y2))],[([.x (.sl (.i .i64)),.x .b],[])],false,[],fun p=>match p with|(n_0,l_1)=>iK n_0 l_1⟩
theorem Uk:cY prog 25 Tn:=cH mixed dH (de:=de) (np:=2) (an:=[(14,{j:=some {vs:=[(7,.x (.i .u16)),(8,.so 0)],os:=[.ar (.i .i64)]},e:=[(.ret,{vs:=[(4,.nl 0),(5,.x .b)]}),(.exit 0,{vs:=[(8,.so 0)],os:=[.ar (.i .i64)]})]})]) (.cons Uo (.cons Un (.cons Ul (.cons R7 .nil)))) (by kernel_rfl) (by kernel_rfl)
def ez(x_0_t:ah)(ports_1:Sl (Sl Int))(h_3:Int)(i7:Int)(n9:Nat):(Bool×Int×Sl aQ)->Option ((Bool×Int×Sl aQ)⊕(Bool×Sl aQ)):=fun(b13,i14,s15)=>
 bif decide (i14<(((gt ports_1.l n9).l).length:Int))then(((e9 i14 ((gt ports_1.l n9).l).length).bind fun n16=>
 (nE x_0_t i7 (gt ((gt ports_1.l n9).l) n16)).bind fun(r17,r18,r19,r20)=>
 bif r20 then((iH (s15.l++[(⟨i7,r17⟩:aQ)])).bind fun l21=>
 some (b13,(Sl.mk l21)))else
 ((e9 h_3 ((ah.bd x_0_t).l).length).bind fun n22=>
 bif(!(decide ((gt ((ah.bd x_0_t).l) n22)=(⟨i7,gt ((gt ports_1.l n9).l) n16⟩:fS))))then(some (true,s15))else
 (some (b13,s15))):Option (Bool×Sl aQ)).bind fun(b23,s24)=>
 some (.inl (b23,wr .i64 (i14+1),s24)))else
 (some (.inr (b13,s15)))
def fw(x_0_t:ah)(ports_1:Sl (Sl Int))(h_3:Int):(Bool×Int×Sl aQ)->Option ((Bool×Int×Sl aQ)⊕(Bool×Sl aQ)):=fun(b6,i7,s8)=>
 bif decide (i7<(ports_1.l.length:Int))then((e9 i7 ports_1.l.length).bind fun n9=>
 (bD (ez x_0_t ports_1 h_3 i7 n9) (b6,0,s8)).bind fun(b25,s26)=>
 some (.inl (b25,wr .i64 (i7+1),s26)))else
 (some (.inr (b6,s8)))
def ii(x_0_t:ah)(x_0_old:Sl (Sl Int))(x_0_now:Sl (Sl Int))(x_0_p_Moves:Sl ae)(x_0_p_Rounds:Sl aj)(x_0_p_Miss:Int)(x_0_p_Life:Int)(x_0_p_From:Int)(x_0_p_To:Int)(x_0_out:Sl am)(ports_1:Sl (Sl Int))(k_2:Int)(h_3:Int):Option (ah×Sl (Sl Int)×Sl (Sl Int)×Sl ae×Sl aj×Int×Int×Int×Int×Sl am):=
 (bD (fw x_0_t ports_1 h_3) (false,0,Sl.nil)).bind fun(b27,s28)=>
 (iK (ah.br x_0_t) s28).bind fun(r29,r30)=>
 (bF x_0_t x_0_old x_0_now x_0_p_Moves x_0_p_Rounds x_0_p_Miss x_0_p_Life x_0_p_From x_0_p_To x_0_out b27 5 k_2 h_3).bind fun(q31,q32,q33,q34,q35,q36,q37,q38,q39,s40)=>
 (bF q31 q32 q33 q34 q35 q36 q37 q38 q39 s40 (!r30) 6 k_2 h_3).bind fun(q41,q42,q43,q44,q45,q46,q47,q48,q49,s50)=>
 some (q41,q42,q43,q44,q45,q46,q47,q48,q49,s50)
def Tm:lB:=⟨[(true,.pb y6 (.st (.pr (.x y0) (.pr (.x (.sl (.sl (.i .i64)))) (.pr (.x (.sl (.sl (.i .i64)))) (.pr (.st (.pr (.x (.sl y4)) (.pr (.x (.sl y5)) (.pr (.x (.i .i64)) (.pr (.x (.i .i64)) (.pr (.x (.i .i64)) (.pr (.x (.i .i64)) .ni))))))) (.pr (.os y7) .ni))))))),(false,.x (.sl (.sl (.i .i64)))),(false,.x (.i .i64)),(false,.x (.i .i64))],[([],[.pb y6 (.st (.pr (.x y0) (.pr (.x (.sl (.sl (.i .i64)))) (.pr (.x (.sl (.sl (.i .i64)))) (.pr (.st (.pr (.x (.sl y4)) (.pr (.x (.sl y5)) (.pr (.x (.i .i64)) (.pr (.x (.i .i64)) (.pr (.x (.i .i64)) (.pr (.x (.i .i64)) .ni))))))) (.pr (.os y7) .ni))))))])],false,[true,false,false,false],fun p=>match p with|(x_0_t,x_0_old,x_0_now,x_0_p_Moves,x_0_p_Rounds,x_0_p_Miss,x_0_p_Life,x_0_p_From,x_0_p_To,x_0_out,ports_1,k_2,h_3)=>ii x_0_t x_0_old x_0_now x_0_p_Moves x_0_p_Rounds x_0_p_Miss x_0_p_Life x_0_p_From x_0_p_To x_0_out ports_1 k_2 h_3⟩
theorem Uj:cY prog 62 Tm:=cH mixed dH (de:=de) (np:=4) (an:=[(7,{j:=some {vs:=[(8,.so 0),(9,.x .b),(22,.x (.i .i64))],os:=[.ar y2]},e:=[(.exit 0,{vs:=[(8,.so 0),(9,.x .b)],os:=[.ar y2]})]}),(16,{j:=some {vs:=[(8,.so 0),(9,.x .b),(29,.x (.i .i64))],os:=[.ar y2],kl:=[13]},e:=[(.exit 2,{vs:=[(8,.so 0),(9,.x .b)],os:=[.ar y2],kl:=[13]})]}),(20,{e:=[(.normal,{vs:=[(8,.so 0),(9,.x .b)],os:=[.ar y2],kl:=[14]})]})]) (.cons Sd (.cons Uk (.cons Qj .nil))) (by kernel_rfl) (by kernel_rfl)
def fE(x_0_old:Sl (Sl Int)):(Int×Sl (Sl Int))->Option ((Int×Sl (Sl Int))⊕(Sl (Sl Int))):=fun(i5,s6)=>
 bif decide (i5<(x_0_old.l.length:Int))then((e9 i5 x_0_old.l.length).bind fun n7=>
 (jr (gt x_0_old.l n7)).bind fun s8=>
 (e9 i5 s6.l.length).bind fun n9=>
 some (.inl (wr .i64 (i5+1),(Sl.mk (s6.l.set n9 s8)))))else
 (some (.inr s6))
def fD(i50:Int)(s60:Sl (Sl Int)):(Int×Sl (Sl Int)×Sl (Sl Int))->Option ((Int×Sl (Sl Int)×Sl (Sl Int))⊕(Sl (Sl Int)×Sl (Sl Int))):=fun(i67,s68,s69)=>
 bif decide (i67<(s60.l.length:Int))then((e9 i67 s68.l.length).bind fun n70=>
 (e9 i50 ((gt s68.l n70).l).length).bind fun n71=>
 (e9 i67 s69.l.length).bind fun n72=>
 some (.inl (wr .i64 (i67+1),(Sl.mk (s68.l.set n70 (gt s68.l n70))),(Sl.mk (s69.l.set n72 (Sl.mk [gt ((gt s68.l n70).l) n71]))))))else
 (some (.inr (s68,s69)))
def eE(x_0_p_Rounds:Sl aj)(n36:Nat)(s52:Sl (Sl Int))(s53:Sl (Sl Int))(s61:Sl am)(s55:Sl aj)(s54:Sl ae)(i50:Int)(x51:ah)(i56:Int)(i57:Int)(i58:Int)(i59:Int):(Int×Sl (Sl Int))->Option ((Int×Sl (Sl Int))⊕(Sl (Sl Int))):=fun(i78,s79)=>
 bif decide (i78<(s54.l.length:Int))then(((e9 i78 s54.l.length).bind fun n80=>
 (bif((ae.mC (gt s54.l n80))==i50)then((fA (⟨x51,s52,s53,(⟨s54,s55,i56,i57,i58,i59⟩:bI),s61⟩:bg) (gt s54.l n80)).bind fun r81=>
 bif r81 then((ko (gt x_0_p_Rounds.l n36) (gt s54.l n80)).bind fun r82=>
 some r82)else
 (some false))else
 (some false):Option Bool).bind fun b83=>
 bif b83 then((e9 (ae.Sw (gt s54.l n80)) s79.l.length).bind fun n84=>
 (iH (((gt s79.l n84).l)++[ae.oc (gt s54.l n80)])).bind fun l85=>
 (e9 (ae.Sw (gt s54.l n80)) s79.l.length).bind fun n86=>
 bif Nat.beq n84 n86 then(some (Sl.mk (s79.l.set n86 (Sl.mk l85))))else(none))else
 (some s79):Option (Sl (Sl Int))).bind fun s87=>
 some (.inl (wr .i64 (i78+1),s87)))else
 (some (.inr s79))
def eD(x_0_p_Rounds:Sl aj)(n36:Nat)(i24:Int)(x25:ah):(Int×ah×Sl (Sl Int)×Sl (Sl Int)×Sl ae×Sl aj×Int×Int×Int×Int×Sl (Sl Int)×Sl am)->Option ((Int×ah×Sl (Sl Int)×Sl (Sl Int)×Sl ae×Sl aj×Int×Int×Int×Int×Sl (Sl Int)×Sl am)⊕(ah×Sl (Sl Int)×Sl (Sl Int)×Sl ae×Sl aj×Int×Int×Int×Int×Sl (Sl Int)×Sl am)):=fun(i50,x51,s52,s53,s54,s55,i56,i57,i58,i59,s60,s61)=>
 bif decide (i50<(((ah.bd x25).l).length:Int))then((zL (Sl.nil:Sl Int) (s60.l.length:Int) (s60.l.length:Int)).bind fun l62=>
 (bD (fD i50 s60) (0,s60,(Sl.mk l62))).bind fun(s73,s74)=>
 (bD (eE x_0_p_Rounds n36 s52 s53 s61 s55 s54 i50 x51 i56 i57 i58 i59) (0,s74)).bind fun s88=>
 (ii x51 s52 s53 s54 s55 i56 i57 i58 i59 s61 s88 i24 i50).bind fun(q89,q90,q91,q92,q93,q94,q95,q96,q97,s98)=>
 some (.inl (wr .i64 (i50+1),q89,q90,q91,q92,q93,q94,q95,q96,q97,s73,s98)))else
 (some (.inr (x51,s52,s53,s54,s55,i56,i57,i58,i59,s60,s61)))
def eC(x_0_p_Rounds:Sl aj)(n36:Nat)(s100:Sl (Sl Int))(s102:Sl ae)(s109:Sl am)(x99:ah)(s101:Sl (Sl Int))(s103:Sl aj)(i104:Int)(i105:Int)(i106:Int)(i107:Int):(Int×Sl (Sl Int))->Option ((Int×Sl (Sl Int))⊕(Sl (Sl Int))):=fun(i113,s114)=>
 bif decide (i113<(s102.l.length:Int))then(((e9 i113 s102.l.length).bind fun n115=>
 ((fA (⟨x99,s100,s101,(⟨s102,s103,i104,i105,i106,i107⟩:bI),s109⟩:bg) (gt s102.l n115)).bind fun r116=>
 bif r116 then((ko (gt x_0_p_Rounds.l n36) (gt s102.l n115)).bind fun r117=>
 some r117)else
 (some false):Option Bool).bind fun b118=>
 bif b118 then((e9 (ae.Sw (gt s102.l n115)) s114.l.length).bind fun n119=>
 (e9 (ae.mC (gt s102.l n115)) ((gt s114.l n119).l).length).bind fun n120=>
 some (Sl.mk (s114.l.set n119 (Sl.mk (((gt s114.l n119).l).set n120 (ae.oc (gt s102.l n115)))))))else
 (some s114):Option (Sl (Sl Int))).bind fun s121=>
 some (.inl (wr .i64 (i113+1),s121)))else
 (some (.inr s114))
def eB(x_0_p_Rounds:Sl aj):(Int×ah×Sl (Sl Int)×Sl (Sl Int)×Sl ae×Sl aj×Int×Int×Int×Int×Sl (Sl Int)×Sl am)->Option ((Int×ah×Sl (Sl Int)×Sl (Sl Int)×Sl ae×Sl aj×Int×Int×Int×Int×Sl (Sl Int)×Sl am)⊕(ah×Sl (Sl Int)×Sl (Sl Int)×Sl ae×Sl aj×Int×Int×Int×Int×Sl am)):=fun(i24,x25,s26,s27,s28,s29,i30,i31,i32,i33,s34,s35)=>
 bif decide (i24<(x_0_p_Rounds.l.length:Int))then((e9 i24 x_0_p_Rounds.l.length).bind fun n36=>
 (bD (eD x_0_p_Rounds n36 i24 x25) (0,x25,s26,s27,s28,s29,i30,i31,i32,i33,s34,s35)).bind fun(x99,s100,s101,s102,s103,i104,i105,i106,i107,s108,s109)=>
 (bD (eC x_0_p_Rounds n36 s100 s102 s109 x99 s101 s103 i104 i105 i106 i107) (0,s108)).bind fun s122=>
 some (.inl (wr .i64 (i24+1),x99,s100,s101,s102,s103,i104,i105,i106,i107,s122,s109)))else
 (some (.inr (x25,s26,s27,s28,s29,i30,i31,i32,i33,s35)))
def gH(x_0_t:ah)(x_0_old:Sl (Sl Int))(x_0_now:Sl (Sl Int))(x_0_p_Moves:Sl ae)(x_0_p_Rounds:Sl aj)(x_0_p_Miss:Int)(x_0_p_Life:Int)(x_0_p_From:Int)(x_0_p_To:Int)(x_0_out:Sl am):Option (ah×Sl (Sl Int)×Sl (Sl Int)×Sl ae×Sl aj×Int×Int×Int×Int×Sl am):=
 (zL (Sl.nil:Sl Int) (x_0_old.l.length:Int) (x_0_old.l.length:Int)).bind fun l1=>
 (bD (fE x_0_old) (0,(Sl.mk l1))).bind fun s10=>
 (bD (eB x_0_p_Rounds) (0,x_0_t,x_0_old,x_0_now,x_0_p_Moves,x_0_p_Rounds,x_0_p_Miss,x_0_p_Life,x_0_p_From,x_0_p_To,s10,x_0_out)).bind fun(x123,s124,s125,s126,s127,i128,i129,i130,i131,s132)=>
 some (x123,s124,s125,s126,s127,i128,i129,i130,i131,s132)
def Tl:lB:=⟨[(true,.pb y6 (.st (.pr (.x y0) (.pr (.x (.sl (.sl (.i .i64)))) (.pr (.x (.sl (.sl (.i .i64)))) (.pr (.st (.pr (.x (.sl y4)) (.pr (.x (.sl y5)) (.pr (.x (.i .i64)) (.pr (.x (.i .i64)) (.pr (.x (.i .i64)) (.pr (.x (.i .i64)) .ni))))))) (.pr (.os y7) .ni)))))))],[([],[.pb y6 (.st (.pr (.x y0) (.pr (.x (.sl (.sl (.i .i64)))) (.pr (.x (.sl (.sl (.i .i64)))) (.pr (.st (.pr (.x (.sl y4)) (.pr (.x (.sl y5)) (.pr (.x (.i .i64)) (.pr (.x (.i .i64)) (.pr (.x (.i .i64)) (.pr (.x (.i .i64)) .ni))))))) (.pr (.os y7) .ni))))))])],false,[true],fun p=>match p with|(x_0_t,x_0_old,x_0_now,x_0_p_Moves,x_0_p_Rounds,x_0_p_Miss,x_0_p_Life,x_0_p_From,x_0_p_To,x_0_out)=>gH x_0_t x_0_old x_0_now x_0_p_Moves x_0_p_Rounds x_0_p_Miss x_0_p_Life x_0_p_From x_0_p_To x_0_out⟩
theorem Ui:cY prog 29 Tl:=cH mixed dH (de:=TT) (np:=1) (an:=[(5,{j:=some {vs:=[(2,.sr 0),(25,.x (.i .i64))],os:=[.rw (.i .i64)],kl:=[13]},e:=[(.exit 0,{vs:=[(2,.sr 0)],os:=[.rw (.i .i64)],kl:=[13]})]}),(16,{j:=some {vs:=[(0,.op 0 y6 []),(2,.sr 1),(42,.x (.i .i64))],gs:=(.co (.op 0 y6 []) .ni),os:=[.bx y6 (.rc (.co (.x y0) (.co (.x (.sl (.sl (.i .i64)))) (.co (.x (.sl (.sl (.i .i64)))) (.co (.rc (.co (.x (.sl y4)) (.co (.x (.sl y5)) (.co (.x (.i .i64)) (.co (.x (.i .i64)) (.co (.x (.i .i64)) (.co (.x (.i .i64)) .ni))))))) (.co (.so 2) .ni)))))),.rw (.i .i64),.ar y7],kl:=[0,12,14]},e:=[(.exit 2,{gs:=(.co (.op 0 y6 []) .ni),os:=[.bx y6 (.rc (.co (.x y0) (.co (.x (.sl (.sl (.i .i64)))) (.co (.x (.sl (.sl (.i .i64)))) (.co (.rc (.co (.x (.sl y4)) (.co (.x (.sl y5)) (.co (.x (.i .i64)) (.co (.x (.i .i64)) (.co (.x (.i .i64)) (.co (.x (.i .i64)) .ni))))))) (.co (.so 1) .ni)))))),.ar y7],kl:=[0,12,14]})]}),(26,{j:=some {vs:=[(0,.op 0 y6 []),(2,.sr 1),(53,.x (.i .i64))],gs:=(.co (.op 0 y6 []) .ni),os:=[.bx y6 (.rc (.co (.x y0) (.co (.x (.sl (.sl (.i .i64)))) (.co (.x (.sl (.sl (.i .i64)))) (.co (.rc (.co (.x (.sl y4)) (.co (.x (.sl y5)) (.co (.x (.i .i64)) (.co (.x (.i .i64)) (.co (.x (.i .i64)) (.co (.x (.i .i64)) .ni))))))) (.co (.so 2) .ni)))))),.rw (.i .i64),.ar y7],kl:=[15,16,17]},e:=[(.exit 4,{vs:=[(0,.op 0 y6 []),(2,.sr 1)],gs:=(.co (.op 0 y6 []) .ni),os:=[.bx y6 (.rc (.co (.x y0) (.co (.x (.sl (.sl (.i .i64)))) (.co (.x (.sl (.sl (.i .i64)))) (.co (.rc (.co (.x (.sl y4)) (.co (.x (.sl y5)) (.co (.x (.i .i64)) (.co (.x (.i .i64)) (.co (.x (.i .i64)) (.co (.x (.i .i64)) .ni))))))) (.co (.so 2) .ni)))))),.rw (.i .i64),.ar y7],kl:=[15,16,17]})]}),(38,{j:=some {vs:=[(2,.sr 0),(8,.sr 1),(61,.x (.i .i64))],os:=[.rw (.i .i64),.rw (.i .i64)],kl:=[20,22]},e:=[(.exit 6,{vs:=[(2,.sr 0),(8,.sr 1)],os:=[.rw (.i .i64),.rw (.i .i64)],kl:=[20,22]})]}),(50,{j:=some {vs:=[(8,.sr 0),(82,.x (.i .i64))],os:=[.rw (.i .i64)],kl:=[24]},e:=[(.exit 8,{vs:=[(8,.sr 0)],os:=[.rw (.i .i64)],kl:=[24]})]}),(54,{e:=[(.normal,{vs:=[(8,.sr 0)],os:=[.rw (.i .i64)],kl:=[25]})]}),(58,{j:=some {vs:=[(99,.x .b)]}}),(65,{j:=some {vs:=[(2,.sr 0),(126,.x (.i .i64))],os:=[.rw (.i .i64)],kl:=[20]},e:=[(.exit 10,{vs:=[(2,.sr 0)],os:=[.rw (.i .i64)],kl:=[20]})]}),(69,{e:=[(.normal,{vs:=[(2,.sr 0)],os:=[.rw (.i .i64)],kl:=[22]})]}),(73,{j:=some {vs:=[(137,.x .b)]}})]) (.cons Up (.cons R_ (.cons Sa (.cons Uj .nil)))) (by kernel_rfl) (by kernel_rfl)
def fx(t_0:ah)(old_1:Sl (Sl Int))(now_2:Sl (Sl Int))(p_3:aJ):Option (Sl am):=
 ((iu t_0 old_1).bind fun r1=>
 bif(!r1)then(some true)else
 ((iu t_0 now_2).bind fun r2=>
 some (!r2)):Option Bool).bind fun b3=>
 bif b3 then(some (Sl.mk [(⟨1,0,0⟩:am)]))else
 ((f_ t_0 old_1 now_2 (aJ.iZ p_3) (aJ.eI p_3) (aJ.Av p_3) (aJ.GM p_3) (aJ.pN p_3) (aJ.To p_3) Sl.nil).bind fun(q4,q5,q6,q7,q8,q9,q10,q11,q12,s13)=>
 (fZ q4 q5 q6 q7 q8 q9 q10 q11 q12 s13).bind fun(q14,q15,q16,q17,q18,q19,q20,q21,q22,s23)=>
 (gH q14 q15 q16 q17 q18 q19 q20 q21 q22 s23).bind fun(q24,q25,q26,q27,q28,q29,q30,q31,q32,s33)=>
 some s33)
def Tk:lB:=⟨[(false,.x y0),(false,.x (.sl (.sl (.i .i64)))),(false,.x (.sl (.sl (.i .i64)))),(false,.x y3)],[([.x (.sl y7)],[])],false,[],fun p=>match p with|(t_0,old_1,now_2,p_3)=>fx t_0 old_1 now_2 p_3⟩
theorem Qi:cY prog 11 Tk:=cH mixed dH (de:=de) (np:=4) (an:=[(4,{j:=some {vs:=[(19,.x .b)]}})]) (.cons Sb (.cons Uu (.cons Ur (.cons Ui .nil)))) (by kernel_rfl) (by kernel_rfl)
def uH(kind_0:Int):Option ByteArray:=
 bif((decide (kind_0<1))||(decide (kind_0>6)))then(some (⟨#[63]⟩:ByteArray))else
 ((e9 (wr .i64 (kind_0-1)) 6).bind fun n1=>
 some (gt ((Arr.set (Arr.set (Arr.set (Arr.set (Arr.set (Arr.set (si (.ar 6 .s)) 0 (⟨#[119,114,111,110,103]⟩:ByteArray)) 1 (⟨#[109,105,115,115,105,110,103]⟩:ByteArray)) 2 (⟨#[101,120,116,114,97]⟩:ByteArray)) 3 (⟨#[99,108,111,115,101]⟩:ByteArray)) 4 (⟨#[104,111,108,101]⟩:ByteArray)) 5 (⟨#[108,111,111,112]⟩:ByteArray)).1) n1))
def Tj:lB:=⟨[(false,.x (.i .i64))],[([.x .s],[])],true,[],fun p=>match p with|kind_0=>uH kind_0⟩
theorem Uh:cY prog 14 Tj:=cH mixed dH (de:=de) (np:=1) (an:=[]) .nil (by kernel_rfl) (by kernel_rfl)
def gL:Option Bool:=
 (fx (⟨3,(Sl.mk [(⟨0,0,1,0,1,1⟩:bz),(⟨1,1,2,0,1,1⟩:bz),(⟨0,1,2,1,1,1⟩:bz)]),(Sl.mk [(⟨2,7⟩:fS)])⟩:ah) (Sl.mk [(Sl.mk [0]),(Sl.mk [1]),(Sl.mk [7])]) (Sl.mk [(Sl.mk [1]),(Sl.mk [1]),(Sl.mk [7])]) (⟨Sl.nil,Sl.nil,0,0,0,0⟩:aJ)).bind fun r1=>
 (bif((r1.l.length:Int)==1)then((e9 0 r1.l.length).bind fun n2=>
 bif decide ((gt r1.l n2)=(⟨2,0,0⟩:am))then((uH 6).bind fun r3=>
 bif(r3.toList==(⟨#[108,111,111,112]⟩:ByteArray).toList)then((fx (⟨0,Sl.nil,Sl.nil⟩:ah) Sl.nil Sl.nil (⟨Sl.nil,Sl.nil,0,0,0,0⟩:aJ)).bind fun r4=>
 some ((r4.l.length:Int)==1))else
 (some false))else
 (some false))else
 (some false):Option Bool).bind fun b5=>
 some b5
def Ti:lB:=⟨[],[([.x .b],[])],true,[],fun p=>match p with|_=>gL⟩
theorem R6:cY prog 9 Ti:=cH mixed dH (de:=de) (np:=0) (an:=[(7,{j:=some {vs:=[(0,.x .b)]}})]) (.cons Qi (.cons Uh .nil)) (by kernel_rfl) (by kernel_rfl)
def p8(n_0:Int)(most_1:Int):Option Bool:=some ((decide (n_0>=0))&&(decide (n_0<=most_1)))
def Th:lB:=⟨[(false,.x (.i .i64)),(false,.x (.i .i64))],[([.x .b],[])],true,[],fun p=>match p with|(n_0,most_1)=>p8 n_0 most_1⟩
theorem Uf:cY prog 51 Th:=cH mixed dH (de:=de) (np:=2) (an:=[]) .nil (by kernel_rfl) (by kernel_rfl)
theorem Ue:cY prog 42 (BG y4 43 jK):=Ib
def j3(old_1:Sl (Sl Int))(now_2:Sl (Sl Int))(i7:Int)(r9:Sl Int):(Int×Sl ae)->Option ((Int×Sl ae)⊕(Sl ae)):=fun(i12,s13)=>
 bif decide (i12<(now_2.l.length:Int))then(((e9 i12 now_2.l.length).bind fun n14=>
 (e9 i7 ((gt now_2.l n14).l).length).bind fun n15=>
 (e9 i12 old_1.l.length).bind fun n16=>
 (e9 i7 ((gt old_1.l n16).l).length).bind fun n17=>
 bif((gt ((gt now_2.l n14).l) n15) !=(gt ((gt old_1.l n16).l) n17))then((e9 i12 now_2.l.length).bind fun n18=>
 (e9 i7 ((gt now_2.l n18).l).length).bind fun n19=>
 (e9 i12 r9.l.length).bind fun n20=>
 (iH (s13.l++[(⟨i12,i7,gt ((gt now_2.l n18).l) n19,gt r9.l n20⟩:ae)])).bind fun l21=>
 some (Sl.mk l21))else
 (some s13):Option (Sl ae)).bind fun s22=>
 some (.inl (wr .i64 (i12+1),s22)))else
 (some (.inr s13))
def mY(t_0:ah)(old_1:Sl (Sl Int))(now_2:Sl (Sl Int)):(Int×Sl ae)->Option ((Int×Sl ae)⊕(Sl ae)):=fun(i7,s8)=>
 bif decide (i7<(((ah.bd t_0).l).length:Int))then((lD t_0 now_2 i7).bind fun r9=>
 (bD (j3 old_1 now_2 i7 r9) (0,s8)).bind fun s23=>
 some (.inl (wr .i64 (i7+1),s23)))else
 (some (.inr s8))
def mI(t_0:ah)(old_1:Sl (Sl Int))(now_2:Sl (Sl Int)):Option (Sl ae×Int):=
 ((iu t_0 old_1).bind fun r1=>
 bif(!r1)then(some true)else
 ((iu t_0 now_2).bind fun r2=>
 some (!r2)):Option Bool).bind fun b3=>
 bif b3 then(some (Sl.nil,2))else
 ((bD (mY t_0 old_1 now_2) (0,Sl.nil)).bind fun s24=>
 (t8 jK s24).bind fun s25=>
 (Ad s25 s24).bind fun _=>
 some (s25,0))
def Tg:lB:=⟨[(false,.x y0),(false,.x (.sl (.sl (.i .i64)))),(false,.x (.sl (.sl (.i .i64))))],[([.x (.sl y4),.x (.i .i64)],[])],false,[],fun p=>match p with|(t_0,old_1,now_2)=>mI t_0 old_1 now_2⟩
theorem Ud:cY prog 22 Tg:=cH mixed dH (de:=de) (np:=3) (an:=[(4,{j:=some {vs:=[(21,.x .b)]}}),(12,{j:=some {vs:=[(8,.so 0),(25,.x (.i .i64))],os:=[.ar y4]},e:=[(.exit 0,{vs:=[(8,.so 0)],os:=[.ar y4]})]}),(23,{j:=some {vs:=[(8,.so 0),(34,.x (.i .i64))],os:=[.ar y4],kl:=[1]},e:=[(.exit 2,{vs:=[(8,.so 0)],os:=[.ar y4],kl:=[1]})]}),(27,{e:=[(.normal,{vs:=[(8,.so 0)],os:=[.ar y4],kl:=[3]})]})]) (.cons Sb (.cons Sc (.cons Ue .nil))) (by kernel_rfl) (by kernel_rfl)
theorem Uc:cY prog 45 (x9 (.i .i64) rg):=Kk
theorem Ub:cY prog 46 (Cf (.i .i64) rW):=MI
def mm(l_0:Sl ae):(Int×Sl Int)->Option ((Int×Sl Int)⊕(Sl Int)):=fun(i4,s5)=>
 bif decide (i4<(l_0.l.length:Int))then((e9 i4 l_0.l.length).bind fun n6=>
 (iH (s5.l++[ae.uj (gt l_0.l n6)])).bind fun l7=>
 some (.inl (wr .i64 (i4+1),(Sl.mk l7))))else
 (some (.inr s5))
def mX(l_0:Sl ae):Option (Sl Int):=
 (bD (mm l_0) (0,Sl.nil)).bind fun s8=>
 (t8 rg s8).bind fun s9=>
 (Ad s9 s8).bind fun _=>
 (MC rW s9).bind fun s10=>
 some s10
def Tf:lB:=⟨[(false,.x (.sl y4))],[([.x (.sl (.i .i64))],[])],false,[],fun p=>match p with|l_0=>mX l_0⟩
theorem Ua:cY prog 41 Tf:=cH mixed dH (de:=de) (np:=1) (an:=[(7,{j:=some {vs:=[(3,.so 0),(8,.x (.i .i64))],os:=[.ar (.i .i64)]},e:=[(.exit 0,{vs:=[(3,.so 0)],os:=[.ar (.i .i64)]})]})]) (.cons Uc (.cons Ub .nil)) (by kernel_rfl) (by kernel_rfl)
def rG(a_0:bG)(c_1:Int):Option Bool:=some ((((((decide ((bG.I a_0)<0))||(decide ((bG.I a_0)>=c_1)))||(decide ((bG.J a_0)<0)))||(decide ((bG.J a_0)>=c_1)))||(decide ((bG.SW a_0)<(-1073741824))))||(decide ((bG.SW a_0)>1073741824)))
def Te:lB:=⟨[(false,.x y7),(false,.pt (.i .i64))],[([.x .b],[])],true,[],fun p=>match p with|(a_0,c_1)=>rG a_0 c_1⟩
theorem T_:cY prog 135 Te:=cH mixed dH (de:=de) (np:=2) (an:=[]) .nil (by kernel_rfl) (by kernel_rfl)
def ci(s_0:Sl bG)(f_1_c0:Int):Int->Option (Int⊕(Int⊕Unit)):=fun i2=>
 bif decide (i2<(s_0.l.length:Int))then((e9 i2 s_0.l.length).bind fun n3=>
 (rG (gt s_0.l n3) f_1_c0).bind fun r4=>
 bif r4 then(some (.inr (.inl i2)))else
 (some (.inl (wr .i64 (i2+1)))))else
 (some (.inr (.inr ())))
def dn(s_0:Sl bG)(f_1_c0:Int):Option Int:=
 (bD (ci s_0 f_1_c0) 0).bind fun
 |.inl i5=>(some i5)
 |.inr _=>(some (-1))
def Td:lB:=⟨[(false,.x (.sl y7)),(false,.fn 135 (.pr (.pt (.i .i64)) .ni))],[([.x (.i .i64)],[])],true,[],fun p=>match p with|(s_0,f_1_c0)=>dn s_0 f_1_c0⟩
theorem T9:cY prog 138 Td:=cH mixed dH (de:=de) (np:=2) (an:=[(5,{j:=some {vs:=[(8,.x (.i .i64))]},e:=[(.ret,{vs:=[(4,.x (.i .i64))]}),(.exit 0,{})]})]) (.cons T_ .nil) (by kernel_rfl) (by kernel_rfl)
def di(s_0:Sl bG)(f_1_c0:Int):Option Bool:=
 (dn s_0 f_1_c0).bind fun r1=>
 some (decide (r1>=0))
def Tc:lB:=⟨[(false,.x (.sl y7)),(false,.fn 135 (.pr (.pt (.i .i64)) .ni))],[([.x .b],[])],true,[],fun p=>match p with|(s_0,f_1_c0)=>di s_0 f_1_c0⟩
theorem T8:cY prog 134 Tc:=cH mixed dH (de:=de) (np:=2) (an:=[]) (.cons T9 .nil) (by kernel_rfl) (by kernel_rfl)
def rH(n_0:Int)(l_1:Sl bG):Option Bool:=
 bif(((decide (n_0<0))||(decide (n_0>64)))||(decide ((l_1.l.length:Int)>256)))then(some false)else
 ((di l_1 n_0).bind fun r1=>
 some (!r1))
def Tb:lB:=⟨[(false,.x (.i .i64)),(false,.x (.sl y7))],[([.x .b],[])],true,[],fun p=>match p with|(n_0,l_1)=>rH n_0 l_1⟩
theorem T7:cY prog 122 Tb:=cH mixed dH (de:=de) (np:=2) (an:=[]) (.cons T8 .nil) (by kernel_rfl) (by kernel_rfl)
def iG(l_1:Sl bG):(Int×Int×Sl Int×Sl Int)->Option ((Int×Int×Sl Int×Sl Int)⊕(Int×Sl Int×Sl Int)):=fun(i19,i20,s21,s22)=>
 bif decide (i20<(l_1.l.length:Int))then(((e9 i20 l_1.l.length).bind fun n23=>
 (e9 (bG.I (gt l_1.l n23)) s21.l.length).bind fun n24=>
 (e9 (bG.J (gt l_1.l n23)) s21.l.length).bind fun n25=>
 bif decide ((wr .i64 ((gt s21.l n24)+(bG.SW (gt l_1.l n23))))>(gt s21.l n25))then((e9 (bG.J (gt l_1.l n23)) s21.l.length).bind fun n26=>
 (e9 (bG.J (gt l_1.l n23)) s22.l.length).bind fun n27=>
 some (bG.J (gt l_1.l n23),(Sl.mk (s21.l.set n26 (wr .i64 ((gt s21.l n24)+(bG.SW (gt l_1.l n23)))))),(Sl.mk (s22.l.set n27 i20))))else
 (some (i19,s21,s22)):Option (Int×Sl Int×Sl Int)).bind fun(i28,s29,s30)=>
 some (.inl (i28,wr .i64 (i20+1),s29,s30)))else
 (some (.inr (i19,s21,s22)))
def nk(n_0:Int)(l_1:Sl bG):(Int×Int×Sl Int×Sl Int)->Option ((Int×Int×Sl Int×Sl Int)⊕(Int×Sl Int×Sl Int)):=fun(i9,i10,s11,s12)=>
 bif decide (i10<(wr .i64 (n_0+1)))then((bD (iG l_1) ((-1),0,s11,s12)).bind fun(i31,s32,s33)=>
 bif decide (i31<0)then(some (.inr (i31,s32,s33)))else
 (some (.inl (i31,wr .i64 (i10+1),s32,s33))))else
 (some (.inr (i9,s11,s12)))
def tP(n_0:Int)(l_1:Sl bG):Option (Sl Int×Sl Int×Int):=
 (zL 0 n_0 n_0).bind fun l1=>
 (zL 0 n_0 n_0).bind fun l2=>
 (bD (nk n_0 l_1) ((-1),0,(Sl.mk l1),(Sl.mk l2))).bind fun(i34,s35,s36)=>
 some (s35,s36,i34)
def Ta:lB:=⟨[(false,.x (.i .i64)),(false,.x (.sl y7))],[([.x (.sl (.i .i64)),.x (.sl (.i .i64)),.x (.i .i64)],[])],false,[],fun p=>match p with|(n_0,l_1)=>tP n_0 l_1⟩
theorem T6:cY prog 123 Ta:=cH mixed dH (de:=de) (np:=2) (an:=[(10,{j:=some {vs:=[(7,.so 0),(8,.so 1),(9,.x (.i .i64)),(19,.x (.i .i64))],os:=[.ar (.i .i64),.ar (.i .i64)],kl:=[1000000,3000000]},e:=[(.exit 0,{vs:=[(7,.so 0),(8,.so 1),(9,.x (.i .i64))],os:=[.ar (.i .i64),.ar (.i .i64)],kl:=[1000000,3000000]})]}),(20,{j:=some {vs:=[(7,.so 0),(8,.so 1),(9,.x (.i .i64)),(23,.x (.i .i64))],os:=[.ar (.i .i64),.ar (.i .i64)],kl:=[6000000,6000001]},e:=[(.exit 2,{vs:=[(7,.so 0),(8,.so 1),(9,.x (.i .i64))],os:=[.ar (.i .i64),.ar (.i .i64)],kl:=[6000000,6000001]})]}),(24,{e:=[(.normal,{vs:=[(7,.so 0),(8,.so 1),(9,.x (.i .i64))],os:=[.ar (.i .i64),.ar (.i .i64)],kl:=[6000002,6000003]})]})]) .nil (by kernel_rfl) (by kernel_rfl)
def qt(n_0:Int)(l_1:Sl bG):Option (Sl Int×Bool):=
 (rH n_0 l_1).bind fun r1=>
 bif(!r1)then(some (Sl.nil,false))else
 ((tP n_0 l_1).bind fun(r2,r3,r4)=>
 bif decide (r4>=0)then(some (Sl.nil,false))else
 (some (r2,true)))
def S_:lB:=⟨[(false,.x (.i .i64)),(false,.x (.sl y7))],[([.x (.sl (.i .i64)),.x .b],[])],false,[],fun p=>match p with|(n_0,l_1)=>qt n_0 l_1⟩
theorem T5:cY prog 86 S_:=cH mixed dH (de:=de) (np:=2) (an:=[]) (.cons T7 (.cons T6 .nil)) (by kernel_rfl) (by kernel_rfl)
def lZ(n_0:Int)(gap_1:Int):(Int×Sl bG)->Option ((Int×Sl bG)⊕(Sl bG)):=fun(i4,s5)=>
 bif decide (i4<n_0)then((iH (s5.l++[(⟨wr .i64 (i4-1),i4,gap_1⟩:bG)])).bind fun l6=>
 some (.inl (wr .i64 (i4+1),(Sl.mk l6))))else
 (some (.inr s5))
def py(n_0:Int)(gap_1:Int):Option (Sl Int):=
 (bD (lZ n_0 gap_1) (1,Sl.nil)).bind fun s7=>
 (qt n_0 s7).bind fun(r8,r9)=>
 some r8
def S9:lB:=⟨[(false,.x (.i .i64)),(false,.x (.i .i64))],[([.x (.sl (.i .i64))],[])],false,[],fun p=>match p with|(n_0,gap_1)=>py n_0 gap_1⟩
theorem T4:cY prog 53 S9:=cH mixed dH (de:=de) (np:=2) (an:=[(7,{j:=some {vs:=[(5,.so 0),(6,.x (.i .i64))],os:=[.ar y7]},e:=[(.exit 0,{vs:=[(5,.so 0)],os:=[.ar y7]})]})]) (.cons T5 .nil) (by kernel_rfl) (by kernel_rfl)
def ld(l_0:Sl ae)(round_1:Int):(Int×Sl Int)->Option ((Int×Sl Int)⊕(Sl Int)):=fun(i4,s5)=>
 bif decide (i4<(l_0.l.length:Int))then(((e9 i4 l_0.l.length).bind fun n6=>
 (bif((ae.uj (gt l_0.l n6))==round_1)then((cO s5 (ae.Sw (gt l_0.l n6))).bind fun r7=>
 some (!r7))else
 (some false):Option Bool).bind fun b8=>
 bif b8 then((iH (s5.l++[ae.Sw (gt l_0.l n6)])).bind fun l9=>
 some (Sl.mk l9))else
 (some s5):Option (Sl Int)).bind fun s10=>
 some (.inl (wr .i64 (i4+1),s10)))else
 (some (.inr s5))
def u7(l_0:Sl ae)(round_1:Int):Option (Sl Int):=
 (bD (ld l_0 round_1) (0,Sl.nil)).bind fun s11=>
 some s11
def S8:lB:=⟨[(false,.x (.sl y4)),(false,.x (.i .i64))],[([.x (.sl (.i .i64))],[])],false,[],fun p=>match p with|(l_0,round_1)=>u7 l_0 round_1⟩
theorem T3:cY prog 55 S8:=cH mixed dH (de:=de) (np:=2) (an:=[(7,{j:=some {vs:=[(5,.so 0),(10,.x (.i .i64))],os:=[.ar (.i .i64)]},e:=[(.exit 0,{vs:=[(5,.so 0)],os:=[.ar (.i .i64)]})]}),(11,{e:=[(.normal,{vs:=[(5,.so 0)],os:=[.ar (.i .i64)],kl:=[0]})]}),(15,{j:=some {vs:=[(24,.x .b)]}})]) (.cons N5 .nil) (by kernel_rfl) (by kernel_rfl)
def mW(at_3:Int)(miss_4:Int)(lead_5:Int)(r5:Sl ae)(r7:Int)(r8:Sl Int)(r10:Sl Int):(Int×Sl ae×Int×Int×Int×Int×Sl aj)->Option ((Int×Sl ae×Int×Int×Int×Int×Sl aj)⊕(Sl ae×Int×Int×Int×Int×Sl aj)):=fun(i19,s20,i21,i22,i23,i24,s25)=>
 bif decide (i19<(r10.l.length:Int))then((e9 i19 r10.l.length).bind fun n26=>
 (e9 i19 r8.l.length).bind fun n27=>
 (e9 i19 r8.l.length).bind fun n28=>
 (u7 r5 (gt r8.l n28)).bind fun r29=>
 (iH (s25.l++[(⟨gt r8.l n27,wr .i64 ((wr .i64 ((wr .i64 ((wr .i64 ((wr .i64 (at_3+lead_5))+miss_4))+r7))+1))+(gt r10.l n26)),r29⟩:aj)])).bind fun l30=>
 some (.inl (wr .i64 (i19+1),s20,i21,i22,i23,i24,(Sl.mk l30))))else
 (some (.inr (s20,i21,i22,i23,i24,s25)))
def kE(t_0:ah)(old_1:Sl (Sl Int))(now_2:Sl (Sl Int))(at_3:Int)(miss_4:Int)(lead_5:Int):Option (aJ×Int):=
 ((p8 at_3 1099511627776).bind fun r1=>
 bif(!r1)then(some true)else
 ((p8 miss_4 1048576).bind fun r2=>
 bif(!r2)then(some true)else
 ((p8 lead_5 1048576).bind fun r3=>
 some (!r3))):Option Bool).bind fun b4=>
 bif b4 then(some ((⟨Sl.nil,Sl.nil,0,0,0,0⟩:aJ),2))else
 ((mI t_0 old_1 now_2).bind fun(r5,r6)=>
 bif(r6 !=0)then(some ((⟨Sl.nil,Sl.nil,0,0,0,0⟩:aJ),r6))else
 (bif((r5.l.length:Int)==0)then(some ((⟨Sl.nil,Sl.nil,0,0,0,0⟩:aJ),7))else
 ((nM t_0).bind fun r7=>
 (mX r5).bind fun r8=>
 (oq t_0 miss_4).bind fun r9=>
 (py (r8.l.length:Int) r9).bind fun r10=>
 (bD (mW at_3 miss_4 lead_5 r5 r7 r8 r10) (0,r5,miss_4,r7,0,0,Sl.nil)).bind fun(s31,i32,i33,i34,i35,s36)=>
 (e9 (wr .i64 ((s36.l.length:Int)-1)) s36.l.length).bind fun n37=>
 bif decide ((wr .i64 ((aj.At (gt s36.l n37))+miss_4))>1099511627776)then(some ((⟨Sl.nil,Sl.nil,0,0,0,0⟩:aJ),11))else
 (some ((⟨s31,s36,i32,i33,wr .i64 ((wr .i64 ((wr .i64 ((wr .i64 ((wr .i64 ((wr .i64 (at_3+lead_5))+miss_4))+r7))+1))-miss_4))-i33),wr .i64 ((aj.At (gt s36.l n37))+miss_4)⟩:bI),0)))))
def S7:lB:=⟨[(false,.x y0),(false,.x (.sl (.sl (.i .i64)))),(false,.x (.sl (.sl (.i .i64)))),(false,.x (.i .i64)),(false,.x (.i .i64)),(false,.x (.i .i64))],[([.x y3,.x (.i .i64)],[])],false,[],fun p=>match p with|(t_0,old_1,now_2,at_3,miss_4,lead_5)=>kE t_0 old_1 now_2 at_3 miss_4 lead_5⟩
theorem R5:cY prog 26 S7:=cH mixed dH (de:=de) (np:=6) (an:=[(4,{j:=some {vs:=[(33,.x .b)]}}),(27,{j:=some {vs:=[(16,.op 0 y3 []),(75,.x (.i .i64))],os:=[.bx y3 (.rc (.co (.x (.sl y4)) (.co (.so 1) (.co (.x (.i .i64)) (.co (.x (.i .i64)) (.co (.x (.i .i64)) (.co (.x (.i .i64)) .ni))))))),.ar y5],kl:=[5]},e:=[(.exit 1,{vs:=[(16,.op 0 y3 [])],os:=[.bx y3 (.rc (.co (.x (.sl y4)) (.co (.so 1) (.co (.x (.i .i64)) (.co (.x (.i .i64)) (.co (.x (.i .i64)) (.co (.x (.i .i64)) .ni))))))),.ar y5],kl:=[5]})]})]) (.cons Uf (.cons Ud (.cons R9 (.cons Ua (.cons R8 (.cons T4 (.cons T3 .nil))))))) (by kernel_rfl) (by kernel_rfl)
def nO(t_0:ah)(old_1:Sl (Sl Int))(now_2:Sl (Sl Int))(at_3:Int)(miss_4:Int)(lead_5:Int):Option Bool:=
 ((lg t_0 old_1).bind fun r1=>
 bif(!r1)then(some true)else
 ((lg t_0 now_2).bind fun r2=>
 some (!r2)):Option Bool).bind fun b3=>
 bif b3 then((gL).bind fun r4=>
 some r4)else
 ((kE t_0 old_1 now_2 at_3 miss_4 lead_5).bind fun(r5,r6)=>
 bif(r6 !=0)then((gL).bind fun r7=>
 some r7)else
 (((fx t_0 old_1 now_2 r5).bind fun r8=>
 bif((r8.l.length:Int)==0)then((gL).bind fun r9=>
 some r9)else
 (some false):Option Bool).bind fun b10=>
 some b10))
def S6:lB:=⟨[(false,.x y0),(false,.x (.sl (.sl (.i .i64)))),(false,.x (.sl (.sl (.i .i64)))),(false,.x (.i .i64)),(false,.x (.i .i64)),(false,.x (.i .i64))],[([.x .b],[])],true,[],fun p=>match p with|(t_0,old_1,now_2,at_3,miss_4,lead_5)=>nO t_0 old_1 now_2 at_3 miss_4 lead_5⟩
theorem Vd:cY prog 6 S6:=cH mixed dH (de:=de) (np:=6) (an:=[(4,{j:=some {vs:=[(24,.x .b)]}}),(15,{j:=some {vs:=[(12,.x .b)]}})]) (.cons SQ (.cons R6 (.cons R5 (.cons Qi .nil)))) (by kernel_rfl) (by kernel_rfl)
def nN(t_0:ah)(old_1:Sl (Sl Int))(now_2:Sl (Sl Int))(at_3:Int)(miss_4:Int)(lead_5:Int)(k_6:Int):Option Bool:=
 ((lg t_0 old_1).bind fun r1=>
 bif(!r1)then(some true)else
 ((lg t_0 now_2).bind fun r2=>
 some (!r2)):Option Bool).bind fun b3=>
 bif b3 then((gL).bind fun r4=>
 some r4)else
 ((kE t_0 old_1 now_2 at_3 miss_4 lead_5).bind fun(r5,r6)=>
 bif(((r6 !=0)||(decide (k_6<0)))||(decide (k_6>=(((aJ.iZ r5).l).length:Int))))then((gL).bind fun r7=>
 some r7)else
 ((qu ((aJ.iZ r5).l) 0 k_6).bind fun l8=>
 (iH ([]++(((aJ.iZ r5).to l8).l))).bind fun l9=>
 (qu ((aJ.iZ r5).l) (wr .i64 (k_6+1)) ((aJ.iZ r5).l).length).bind fun l10=>
 (iH (((kO Sl.nil (((aJ.iZ r5).to l8).l) l9).l)++(((aJ.iZ r5).to l10).l))).bind fun l11=>
 (fx t_0 old_1 now_2 (⟨(kO (kO Sl.nil (((aJ.iZ r5).to l8).l) l9) (((aJ.iZ r5).to l10).l) l11),aJ.eI r5,aJ.Av r5,aJ.GM r5,aJ.pN r5,aJ.To r5⟩:bI)).bind fun r12=>
 (bif((r12.l.length:Int)==0)then(some true)else
 ((e9 0 r12.l.length).bind fun n13=>
 (e9 k_6 ((aJ.iZ r5).l).length).bind fun n14=>
 (e9 k_6 ((aJ.iZ r5).l).length).bind fun n15=>
 some (!(decide ((gt r12.l n13)=(⟨2,ae.Sw (gt ((aJ.iZ r5).l) n14),ae.mC (gt ((aJ.iZ r5).l) n15)⟩:am))))):Option Bool).bind fun b16=>
 bif b16 then(some false)else
 (bif((k_6==0)||(decide (k_6>=(((aJ.eI r5).l).length:Int))))then((gL).bind fun r17=>
 some r17)else
 ((iH ([]++((aJ.eI r5).l))).bind fun l18=>
 (e9 (wr .i64 (k_6-1)) ((kO Sl.nil ((aJ.eI r5).l) l18).l).length).bind fun n19=>
 (e9 k_6 ((kO Sl.nil ((aJ.eI r5).l) l18).l).length).bind fun n20=>
 (fx t_0 old_1 now_2 (⟨aJ.iZ r5,(Sl.mk (((kO Sl.nil ((aJ.eI r5).l) l18).l).set n20 (⟨aj.No (gt ((kO Sl.nil ((aJ.eI r5).l) l18).l) n20),aj.At (gt ((kO Sl.nil ((aJ.eI r5).l) l18).l) n19),aj.RF (gt ((kO Sl.nil ((aJ.eI r5).l) l18).l) n20)⟩:aj))),aJ.Av r5,aJ.GM r5,aJ.pN r5,aJ.To r5⟩:bI)).bind fun r21=>
 (bif((r21.l.length:Int)==1)then((e9 0 r21.l.length).bind fun n22=>
 bif decide ((gt r21.l n22)=(⟨4,k_6,0⟩:am))then((gL).bind fun r23=>
 some r23)else
 (some false))else
 (some false):Option Bool).bind fun b24=>
 some b24))))
def S5:lB:=⟨[(false,.x y0),(false,.x (.sl (.sl (.i .i64)))),(false,.x (.sl (.sl (.i .i64)))),(false,.x (.i .i64)),(false,.x (.i .i64)),(false,.x (.i .i64)),(false,.x (.i .i64))],[([.x .b],[])],true,[],fun p=>match p with|(t_0,old_1,now_2,at_3,miss_4,lead_5,k_6)=>nN t_0 old_1 now_2 at_3 miss_4 lead_5 k_6⟩
theorem T2:cY prog 7 S5:=cH mixed dH (de:=de) (np:=7) (an:=[(4,{j:=some {vs:=[(29,.x .b)]}}),(28,{j:=some {vs:=[(97,.x .b)]}}),(47,{j:=some {vs:=[(14,.x .b)]}})]) (.cons SQ (.cons R6 (.cons R5 (.cons Qi .nil)))) (by kernel_rfl) (by kernel_rfl)
end Go.Proofs.YthcplpfiidlinaaDoor.J
