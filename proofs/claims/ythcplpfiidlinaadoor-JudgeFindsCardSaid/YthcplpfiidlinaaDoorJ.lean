/- What functions of the program compute, and that the model's run computes it. Conditions: as stated. -/
import Derived.Test.YthcplpfiidlinaaDoorJS
import Derived.Test.YthcplpfiidlinaaDoorChecked
import Derived.KernelRfl
open Go.Ev Go
noncomputable section
open Option.some renaming inj->aa
namespace Go.Proofs.YthcplpfiidlinaaDoor.J
abbrev prog:Program:=Tryd.prog
theorem mixed:prog.follows .mixedOrders=true:=by kernel_rfl
def HZ:Arr 32 Int:=⟨[0,1,28,2,29,14,24,3,30,22,20,15,25,17,4,8,31,27,13,23,21,19,16,7,26,12,18,6,11,5,10,9],rfl⟩
theorem dJ:lJ:=Hq (v:=.pt (.ar 32 (.i .u8)) HZ) (fun g w h=>by
 unfold LS at h;split at h
 .rename_i e;exact⟨e,(aa h).symm⟩
 .cases h) rfl (fun h n=>⟨cz (ed rfl ⟨rfl,rfl⟩),trivial,rfl⟩)
def di:Aj:=fun f=>if f=3 then(true,[])else if f=4 then(true,[])else if f=6 then(true,[])else if f=7 then(true,[])else if f=8 then(true,[])else if f=9 then(true,[])else if f=10 then(true,[])else if f=14 then(true,[])else if f=15 then(true,[])else if f=16 then(true,[])else if f=18 then(true,[])else if f=19 then(true,[])else if f=20 then(true,[])else if f=24 then(true,[])else if f=27 then(false,[true])else if f=28 then(false,[true])else if f=29 then(false,[true])else if f=34 then(true,[])else if f=35 then(true,[])else if f=37 then(true,[])else if f=38 then(true,[])else if f=39 then(true,[])else if f=42 then(false,[true,false])else if f=45 then(false,[true])else if f=46 then(false,[true])else if f=47 then(true,[])else if f=49 then(true,[])else if f=50 then(true,[])else if f=51 then(true,[])else if f=52 then(true,[])else if f=54 then(true,[])else if f=56 then(true,[])else if f=57 then(false,[true,false,false,false,false])else if f=58 then(true,[])else if f=59 then(true,[])else if f=61 then(true,[])else if f=62 then(false,[true,false,false,false])else if f=63 then(true,[])else if f=64 then(true,[])else if f=65 then(true,[])else if f=66 then(true,[])else if f=69 then(true,[])else if f=70 then(true,[])else if f=71 then(true,[])else if f=72 then(true,[])else if f=74 then(true,[])else if f=75 then(true,[])else if f=76 then(true,[])else if f=85 then(true,[])else if f=87 then(true,[])else if f=88 then(true,[])else if f=89 then(true,[])else if f=90 then(true,[])else if f=91 then(true,[])else if f=92 then(true,[])else if f=93 then(true,[])else if f=95 then(true,[])else if f=96 then(true,[])else if f=97 then(true,[])else if f=98 then(true,[])else if f=99 then(true,[])else if f=100 then(true,[])else if f=101 then(true,[])else if f=122 then(true,[])else if f=124 then(true,[])else if f=125 then(true,[])else if f=134 then(true,[])else if f=135 then(true,[])else if f=138 then(true,[])else(false,[])
def TK:Aj:=fun f=>if f=1000000000 then(true,[])else di f
@[reducible] def bz:Type:=Int×Int×Int×Int×Int×Int
@[reducible] def bz.A (x:bz):Int:=x.1
@[reducible] def bz.ny (x:bz):Int:=x.2.1
@[reducible] def bz.B (x:bz):Int:=x.2.2.1
@[reducible] def bz.nw (x:bz):Int:=x.2.2.2.1
@[reducible] def bz.w9 (x:bz):Int:=x.2.2.2.2.1
@[reducible] def bz.pS (x:bz):Int:=x.2.2.2.2.2
@[reducible] def fQ:Type:=Int×Int
@[reducible] def fQ.At (x:fQ):Int:=x.1
@[reducible] def fQ.oA (x:fQ):Int:=x.2
@[reducible] def ah:Type:=Int×Sl bz×Sl fQ
@[reducible] def ah.bq (x:ah):Int:=x.1
@[reducible] def ah.bU (x:ah):Sl bz:=x.2.1
@[reducible] def ah.bd (x:ah):Sl fQ:=x.2.2
@[reducible] def Fo:Type:=Int×Int×Int×Int
@[reducible] def C3:Type:=Int×Int×Sl Int
@[reducible] def dh:Type:=Sl Fo×Sl C3×Int×Int×Int×Int
@[reducible] def y1:Ty:=.st (.pr (.i .i64) (.pr (.i .i64) (.pr (.i .i64) (.pr (.i .i64) (.pr (.i .i64) (.i .i64))))))
@[reducible] def y2:Ty:=.st (.pr (.i .i64) (.i .i64))
@[reducible] def y0:Ty:=.st (.pr (.i .i64) (.pr (.sl y1) (.sl y2)))
@[reducible] def y4:Ty:=.st (.pr (.i .i64) (.pr (.i .i64) (.pr (.i .i64) (.i .i64))))
@[reducible] def y5:Ty:=.st (.pr (.i .i64) (.pr (.i .i64) (.sl (.i .i64))))
@[reducible] def y3:Ty:=.st (.pr (.sl y4) (.pr (.sl y5) (.pr (.i .i64) (.pr (.i .i64) (.pr (.i .i64) (.i .i64))))))
@[reducible] def ae:Type:=Int×Int×Int×Int
@[reducible] def ae.Sw (x:ae):Int:=x.1
@[reducible] def ae.mL (x:ae):Int:=x.2.1
@[reducible] def ae.oA (x:ae):Int:=x.2.2.1
@[reducible] def ae.vC (x:ae):Int:=x.2.2.2
@[reducible] def aj:Type:=Int×Int×Sl Int
@[reducible] def aj.No (x:aj):Int:=x.1
@[reducible] def aj.At (x:aj):Int:=x.2.1
@[reducible] def aj.SC (x:aj):Sl Int:=x.2.2
@[reducible] def aJ:Type:=Sl ae×Sl aj×Int×Int×Int×Int
@[reducible] def aJ.jf (x:aJ):Sl ae:=x.1
@[reducible] def aJ.fo (x:aJ):Sl aj:=x.2.1
@[reducible] def aJ.Co (x:aJ):Int:=x.2.2.1
@[reducible] def aJ.JR (x:aJ):Int:=x.2.2.2.1
@[reducible] def aJ.pT (x:aJ):Int:=x.2.2.2.2.1
@[reducible] def aJ.To (x:aJ):Int:=x.2.2.2.2.2
@[reducible] def bm:Type:=Int×Int
@[reducible] def bm.sw (x:bm):Int:=x.1
@[reducible] def bm.zU (x:bm):Int:=x.2
@[reducible] def am:Type:=Int×Int×Int
@[reducible] def bv:Type:=ah×Sl (Sl Int)×Sl (Sl Int)×aJ×Sl am
@[reducible] def bv.t (x:bv):ah:=x.1
@[reducible] def bv.p (x:bv):aJ:=x.2.2.2.1
@[reducible] def y7:Ty:=.st (.pr (.i .i64) (.pr (.i .i64) (.i .i64)))
@[reducible] def y6:Ty:=.st (.pr y0 (.pr (.sl (.sl (.i .i64))) (.pr (.sl (.sl (.i .i64))) (.pr y3 (.sl y7)))))
@[reducible] def aQ:Type:=Int×Int
@[reducible] def aQ.pT (x:aQ):Int:=x.1
@[reducible] def aQ.To (x:aQ):Int:=x.2
@[reducible] def bG:Type:=Int×Int×Int
@[reducible] def bG.I (x:bG):Int:=x.1
@[reducible] def bG.J (x:bG):Int:=x.2.1
@[reducible] def bG.SN (x:bG):Int:=x.2.2
def mV(r_1:Sl (Sl Int)):Int->Option (Int⊕(Bool⊕Unit)):=fun i2=>
 bif decide (i2<(r_1.l.length:Int))then((eX i2 r_1.l.length).bind fun n3=>
 bif decide ((((gt r_1.l n3).l).length:Int)>12)then(some (.inr (.inl false)))else
 (some (.inl (wr .i64 (i2+1)))))else
 (some (.inr (.inr ())))
def ol(t_0:ah)(r_1:Sl (Sl Int)):Option Bool:=
 (bD (mV r_1) 0).bind fun
 |.inl b4=>(some b4)
 |.inr _=>(some (((decide ((((ah.bU t_0).l).length:Int)<=30))&&(decide ((((ah.bd t_0).l).length:Int)<=12)))&&(decide ((r_1.l.length:Int)<=12))))
def SH:lD:=⟨[(false,.x y0),(false,.x (.sl (.sl (.i .i64))))],[([.x .b],[])],true,[],fun p=>match p with|(t_0,r_1)=>ol t_0 r_1⟩
theorem Uw:cZ prog 19 SH:=cJ mixed dJ (di:=di) (np:=2) (an:=[(5,{j:=some {vs:=[(5,.x (.i .i64))]},e:=[(.ret,{vs:=[(4,.x .b)]}),(.exit 0,{})]})]) .nil (by kernel_rfl) (by kernel_rfl)
def k7(t_0:ah):(Int×Sl bm)->Option ((Int×Sl bm)⊕(Sl bm)):=fun(i4,s5)=>
 bif decide (i4<(((ah.bU t_0).l).length:Int))then((eX i4 ((ah.bU t_0).l).length).bind fun n6=>
 (iF (s5.l++[(⟨bz.A (gt ((ah.bU t_0).l) n6),bz.ny (gt ((ah.bU t_0).l) n6)⟩:bm),(⟨bz.B (gt ((ah.bU t_0).l) n6),bz.nw (gt ((ah.bU t_0).l) n6)⟩:bm)])).bind fun l7=>
 some (.inl (wr .i64 (i4+1),(Sl.mk l7))))else
 (some (.inr s5))
def kZ(t_0:ah):(Int×Sl bm)->Option ((Int×Sl bm)⊕(Sl bm)):=fun(i11,s12)=>
 bif decide (i11<(((ah.bd t_0).l).length:Int))then((eX i11 ((ah.bd t_0).l).length).bind fun n13=>
 (iF (s12.l++[gt ((ah.bd t_0).l) n13])).bind fun l14=>
 some (.inl (wr .i64 (i11+1),(Sl.mk l14))))else
 (some (.inr s12))
def mz(t_0:ah):Option (Sl bm):=
 (bD (k7 t_0) (0,Sl.nil)).bind fun s8=>
 (bD (kZ t_0) (0,s8)).bind fun s15=>
 some s15
def Tz:lD:=⟨[(false,.x y0)],[([.x (.sl y2)],[])],false,[],fun p=>match p with|t_0=>mz t_0⟩
theorem Uq:cZ prog 94 Tz:=cJ mixed dJ (di:=di) (np:=1) (an:=[(7,{j:=some {vs:=[(3,.so 0),(11,.x (.i .i64))],os:=[.ar y2]},e:=[(.exit 0,{vs:=[(3,.so 0)],os:=[.ar y2]})]}),(19,{j:=some {vs:=[(3,.so 0),(32,.x (.i .i64))],os:=[.ar y2],kl:=[1]},e:=[(.exit 2,{vs:=[(3,.so 0)],os:=[.ar y2],kl:=[1]})]})]) .nil (by kernel_rfl) (by kernel_rfl)
def lS(t_0:ah):Int->Option (Int⊕(Bool⊕Unit)):=fun i2=>
 bif decide (i2<(((ah.bU t_0).l).length:Int))then((eX i2 ((ah.bU t_0).l).length).bind fun n3=>
 bif(((((bz.A (gt ((ah.bU t_0).l) n3))==(bz.B (gt ((ah.bU t_0).l) n3)))||(decide ((bz.w9 (gt ((ah.bU t_0).l) n3))<1)))||(decide ((bz.w9 (gt ((ah.bU t_0).l) n3))>(bz.pS (gt ((ah.bU t_0).l) n3)))))||(decide ((bz.pS (gt ((ah.bU t_0).l) n3))>1000)))then(some (.inr (.inl false)))else
 (some (.inl (wr .i64 (i2+1)))))else
 (some (.inr (.inr ())))
def iG(t_0:ah)(r5:Sl bm):(Int×Mp bm Int)->Option ((Int×Mp bm Int)⊕(Bool⊕Unit)):=fun(i9,m10)=>
 bif decide (i9<(r5.l.length:Int))then((eX i9 r5.l.length).bind fun n11=>
 (vb ((lX m10 0 (gt r5.l n11)).1) ((lX m10 0 (gt r5.l n11)).2.2) (wr .i64 ((oS m10 0 (gt r5.l n11))+1))).bind fun m12=>
 bif(((((decide ((bm.sw (gt r5.l n11))<0))||(decide ((bm.sw (gt r5.l n11))>=(ah.bq t_0))))||(decide ((bm.zU (gt r5.l n11))<0)))||(decide ((bm.zU (gt r5.l n11))>=8)))||(decide ((oS m12 0 (gt r5.l n11))>1)))then(some (.inr (.inl false)))else
 (some (.inl (wr .i64 (i9+1),m12))))else
 (some (.inr (.inr ())))
def nA(t_0:ah):Option Bool:=
 bif((((decide ((ah.bq t_0)<1))||(decide ((ah.bq t_0)>8)))||(decide ((((ah.bU t_0).l).length:Int)>24)))||(decide ((((ah.bd t_0).l).length:Int)>8)))then(some false)else
 ((bD (lS t_0) 0).bind fun
 |.inl b4=>(some b4)
 |.inr _=>((mz t_0).bind fun r5=>
 (bD (iG t_0 r5) (0,(Mp.none:Mp bm Int))).bind fun
 |.inl b13=>(some b13)
 |.inr _=>(some true)))
def Tl:lD:=⟨[(false,.x y0)],[([.x .b],[])],true,[],fun p=>match p with|t_0=>nA t_0⟩
theorem Uj:cZ prog 69 Tl:=cJ mixed dJ (di:=di) (np:=1) (an:=[(10,{j:=some {vs:=[(31,.x (.i .i64))]},e:=[(.ret,{vs:=[(2,.x .b)]}),(.exit 0,{})]}),(27,{j:=some {vs:=[(5,.om 0),(62,.x (.i .i64))],os:=[.mp y2 (.i .i64)],kl:=[1]},e:=[(.ret,{vs:=[(2,.x .b)],kl:=[1]}),(.exit 2,{kl:=[1]})]})]) (.cons Uq .nil) (by kernel_rfl) (by kernel_rfl)
def qg(p_0:Int):Option Bool:=some ((decide (p_0<0))||(decide (p_0>=8)))
def U6:lD:=⟨[(false,.x (.i .i64))],[([.x .b],[])],true,[],fun p=>match p with|p_0=>qg p_0⟩
theorem Vb:cZ prog 71 U6:=cJ mixed dJ (di:=di) (np:=1) (an:=[]) .nil (by kernel_rfl) (by kernel_rfl)
def cK(s_0:Sl Int):Int->Option (Int⊕(Int⊕Unit)):=fun i2=>
 bif decide (i2<(s_0.l.length:Int))then((eX i2 s_0.l.length).bind fun n3=>
 (qg (gt s_0.l n3)).bind fun r4=>
 bif r4 then(some (.inr (.inl i2)))else
 (some (.inl (wr .i64 (i2+1)))))else
 (some (.inr (.inr ())))
def c8(s_0:Sl Int):Option Int:=
 (bD (cK s_0) 0).bind fun
 |.inl i5=>(some i5)
 |.inr _=>(some (-1))
def U5:lD:=⟨[(false,.x (.sl (.i .i64))),(false,.fn 71 .ni)],[([.x (.i .i64)],[])],true,[],fun p=>match p with|s_0=>c8 s_0⟩
theorem Va:cZ prog 95 U5:=cJ mixed dJ (di:=di) (np:=2) (an:=[(5,{j:=some {vs:=[(8,.x (.i .i64))]},e:=[(.ret,{vs:=[(4,.x (.i .i64))]}),(.exit 0,{})]})]) (.cons Vb .nil) (by kernel_rfl) (by kernel_rfl)
def bT(s_0:Sl Int):Option Bool:=
 (c8 s_0).bind fun r1=>
 some (decide (r1>=0))
def U4:lD:=⟨[(false,.x (.sl (.i .i64))),(false,.fn 71 .ni)],[([.x .b],[])],true,[],fun p=>match p with|s_0=>bT s_0⟩
theorem U_:cZ prog 70 U4:=cJ mixed dJ (di:=di) (np:=2) (an:=[]) (.cons Va .nil) (by kernel_rfl) (by kernel_rfl)
def jU(t_0:ah)(r_1:Sl (Sl Int)):Int->Option (Int⊕(Bool⊕Unit)):=fun i3=>
 bif decide (i3<(r_1.l.length:Int))then((eX i3 r_1.l.length).bind fun n4=>
 (bif((((gt r_1.l n4).l).length:Int) !=(((ah.bd t_0).l).length:Int))then(some true)else
 ((bT (gt r_1.l n4)).bind fun r5=>
 some r5):Option Bool).bind fun b6=>
 bif b6 then(some (.inr (.inl false)))else
 (some (.inl (wr .i64 (i3+1)))))else
 (some (.inr (.inr ())))
def jr(t_0:ah)(r_1:Sl (Sl Int)):Option Bool:=
 (nA t_0).bind fun r1=>
 bif((!r1)||((r_1.l.length:Int) !=(ah.bq t_0)))then(some false)else
 ((bD (jU t_0 r_1) 0).bind fun
 |.inl b7=>(some b7)
 |.inr _=>(some true))
def U3:lD:=⟨[(false,.x y0),(false,.x (.sl (.sl (.i .i64))))],[([.x .b],[])],true,[],fun p=>match p with|(t_0,r_1)=>jr t_0 r_1⟩
theorem T9:cZ prog 34 U3:=cJ mixed dJ (di:=di) (np:=2) (an:=[(10,{j:=some {vs:=[(19,.x (.i .i64))]},e:=[(.ret,{vs:=[(4,.x .b)]}),(.exit 0,{})]}),(18,{j:=some {vs:=[(32,.x .b)]}})]) (.cons Uj (.cons U_ .nil)) (by kernel_rfl) (by kernel_rfl)
def mo(r_0:Sl (Sl Int))(sw_1:Int)(h_2:Int):Option (Int×Bool):=
 (bif(((decide (sw_1<0))||(decide (sw_1>=(r_0.l.length:Int))))||(decide (h_2<0)))then(some true)else
 ((eX sw_1 r_0.l.length).bind fun n1=>
 some (decide (h_2>=(((gt r_0.l n1).l).length:Int)))):Option Bool).bind fun b2=>
 bif b2 then(some (0,false))else
 ((eX sw_1 r_0.l.length).bind fun n3=>
 (eX h_2 ((gt r_0.l n3).l).length).bind fun n4=>
 some (gt ((gt r_0.l n3).l) n4,true))
def U2:lD:=⟨[(false,.x (.sl (.sl (.i .i64)))),(false,.x (.i .i64)),(false,.x (.i .i64))],[([.x (.i .i64),.x .b],[])],true,[],fun p=>match p with|(r_0,sw_1,h_2)=>mo r_0 sw_1 h_2⟩
theorem UW:cZ prog 96 U2:=cJ mixed dJ (di:=di) (np:=3) (an:=[(4,{j:=some {vs:=[(28,.x .b)]}})]) .nil (by kernel_rfl) (by kernel_rfl)
def f_(s_0:Sl Int)(v_1:Int):Int->Option (Int⊕(Int⊕Unit)):=fun i2=>
 bif decide (i2<(s_0.l.length:Int))then((eX i2 s_0.l.length).bind fun n3=>
 bif(v_1==(gt s_0.l n3))then(some (.inr (.inl i2)))else
 (some (.inl (wr .i64 (i2+1)))))else
 (some (.inr (.inr ())))
def hC(s_0:Sl Int)(v_1:Int):Option Int:=
 (bD (f_ s_0 v_1) 0).bind fun
 |.inl i4=>(some i4)
 |.inr _=>(some (-1))
def U1:lD:=⟨[(false,.x (.sl (.i .i64))),(false,.x (.i .i64))],[([.x (.i .i64)],[])],true,[],fun p=>match p with|(s_0,v_1)=>hC s_0 v_1⟩
theorem U9:cZ prog 72 U1:=cJ mixed dJ (di:=di) (np:=2) (an:=[(5,{j:=some {vs:=[(8,.x (.i .i64))]},e:=[(.ret,{vs:=[(4,.x (.i .i64))]}),(.exit 0,{})]})]) .nil (by kernel_rfl) (by kernel_rfl)
def cN(s_0:Sl Int)(v_1:Int):Option Bool:=
 (hC s_0 v_1).bind fun r1=>
 some (decide (r1>=0))
def TJ:lD:=⟨[(false,.x (.sl (.i .i64))),(false,.x (.i .i64))],[([.x .b],[])],true,[],fun p=>match p with|(s_0,v_1)=>cN s_0 v_1⟩
theorem N1:cZ prog 35 TJ:=cJ mixed dJ (di:=di) (np:=2) (an:=[]) (.cons U9 .nil) (by kernel_rfl) (by kernel_rfl)
def iq(l_0:Sl Int):Option Bool:=
 (bif decide ((l_0.l.length:Int)>0)then((qr l_0.l 0 (wr .i64 ((l_0.l.length:Int)-1))).bind fun l1=>
 (eX (wr .i64 ((l_0.l.length:Int)-1)) l_0.l.length).bind fun n2=>
 (cN (l_0.to l1) (gt l_0.l n2)).bind fun r3=>
 some r3)else
 (some false):Option Bool).bind fun b4=>
 some b4
def TI:lD:=⟨[(false,.x (.sl (.i .i64)))],[([.x .b],[])],true,[],fun p=>match p with|l_0=>iq l_0⟩
theorem Uv:cZ prog 97 TI:=cJ mixed dJ (di:=di) (np:=1) (an:=[(3,{j:=some {vs:=[(2,.x .b)]}})]) (.cons N1 .nil) (by kernel_rfl) (by kernel_rfl)
def mN(t_0:ah)(sw_1:Int)(port_2:Int):Int->Option (Int⊕((Int×Int×Int×Bool)⊕Unit)):=fun i2=>
 bif decide (i2<(((ah.bU t_0).l).length:Int))then((eX i2 ((ah.bU t_0).l).length).bind fun n3=>
 bif decide ((⟨sw_1,port_2⟩:bm)=(⟨bz.A (gt ((ah.bU t_0).l) n3),bz.ny (gt ((ah.bU t_0).l) n3)⟩:bm))then(some (.inr (.inl (bz.B (gt ((ah.bU t_0).l) n3),bz.nw (gt ((ah.bU t_0).l) n3),i2,true))))else
 (bif decide ((⟨sw_1,port_2⟩:bm)=(⟨bz.B (gt ((ah.bU t_0).l) n3),bz.nw (gt ((ah.bU t_0).l) n3)⟩:bm))then(some (.inr (.inl (bz.A (gt ((ah.bU t_0).l) n3),bz.ny (gt ((ah.bU t_0).l) n3),i2,true))))else
 (some (.inl (wr .i64 (i2+1))))))else
 (some (.inr (.inr ())))
def nB(t_0:ah)(sw_1:Int)(port_2:Int):Option (Int×Int×Int×Bool):=
 (bD (mN t_0 sw_1 port_2) 0).bind fun
 |.inl (i4,i5,i6,b7)=>(some (i4,i5,i6,b7))
 |.inr _=>(some (0,0,0,false))
def TH:lD:=⟨[(false,.x y0),(false,.x (.i .i64)),(false,.x (.i .i64))],[([.x (.i .i64),.x (.i .i64),.x (.i .i64),.x .b],[])],true,[],fun p=>match p with|(t_0,sw_1,port_2)=>nB t_0 sw_1 port_2⟩
theorem R7:cZ prog 89 TH:=cJ mixed dJ (di:=di) (np:=3) (an:=[(7,{j:=some {vs:=[(21,.x (.i .i64))]},e:=[(.ret,{vs:=[(6,.x (.i .i64)),(7,.x (.i .i64)),(8,.x (.i .i64)),(9,.x .b)]}),(.exit 0,{})]})]) .nil (by kernel_rfl) (by kernel_rfl)
def nG(t_0:ah)(r_1:Sl (Sl Int))(sw_2:Int)(h_3:Int):Option (Int×Bool):=
 (mo r_1 sw_2 h_3).bind fun(r1,r2)=>
 bif(!r2)then(some (0,false))else
 ((nB t_0 sw_2 r1).bind fun(r3,r4,r5,r6)=>
 some (r3,r6))
def TG:lD:=⟨[(false,.x y0),(false,.x (.sl (.sl (.i .i64)))),(false,.x (.i .i64)),(false,.x (.i .i64))],[([.x (.i .i64),.x .b],[])],true,[],fun p=>match p with|(t_0,r_1,sw_2,h_3)=>nG t_0 r_1 sw_2 h_3⟩
theorem Uu:cZ prog 98 TG:=cJ mixed dJ (di:=di) (np:=4) (an:=[]) (.cons UW (.cons R7 .nil)) (by kernel_rfl) (by kernel_rfl)
def dX(t_0:ah)(r_1:Sl (Sl Int))(h_3:Int):(Sl Int)->Option (Sl Int⊕((Int×Sl Int)⊕Unit)):=fun s6=>
 (iq s6).bind fun r7=>
 bif(!r7)then((eX (wr .i64 ((s6.l.length:Int)-1)) s6.l.length).bind fun n8=>
 (eX h_3 ((ah.bd t_0).l).length).bind fun n9=>
 (eX (gt s6.l n8) r_1.l.length).bind fun n10=>
 (eX h_3 ((gt r_1.l n10).l).length).bind fun n11=>
 bif decide ((gt ((ah.bd t_0).l) n9)=(⟨gt s6.l n8,gt ((gt r_1.l n10).l) n11⟩:fQ))then(some (.inr (.inl (0,s6))))else
 ((nG t_0 r_1 (gt s6.l n8) h_3).bind fun(r12,r13)=>
 bif(!r13)then(some (.inr (.inl (13,Sl.nil))))else
 ((iF (s6.l++[r12])).bind fun l14=>
 some (.inl (Sl.mk l14)))))else
 (some (.inr (.inr ())))
def jA(t_0:ah)(r_1:Sl (Sl Int))(sw_2:Int)(h_3:Int):Option (Sl Int×Int):=
 (mo r_1 sw_2 h_3).bind fun(r1,r2)=>
 (bif(!r2)then(some true)else
 ((jr t_0 r_1).bind fun r3=>
 some (!r3)):Option Bool).bind fun b4=>
 bif b4 then(some (Sl.nil,2))else
 ((bD (dX t_0 r_1 h_3) (Sl.mk [sw_2])).bind fun
 |.inl (i15,s16)=>(some (s16,i15))
 |.inr _=>(some (Sl.nil,12)))
def TF:lD:=⟨[(false,.x y0),(false,.x (.sl (.sl (.i .i64)))),(false,.x (.i .i64)),(false,.x (.i .i64))],[([.x (.sl (.i .i64)),.x (.i .i64)],[])],false,[],fun p=>match p with|(t_0,r_1,sw_2,h_3)=>jA t_0 r_1 sw_2 h_3⟩
theorem Ut:cZ prog 73 TF:=cJ mixed dJ (di:=di) (np:=4) (an:=[(6,{j:=some {vs:=[(30,.x .b)]}}),(12,{j:=some {vs:=[(12,.so 0)],os:=[.ar (.i .i64)],kl:=[3]},e:=[(.ret,{vs:=[(8,.so 0),(9,.x (.i .i64))],os:=[.ar (.i .i64)],kl:=[3]}),(.exit 0,{kl:=[3]})]})]) (.cons UW (.cons T9 (.cons Uv (.cons Uu .nil)))) (by kernel_rfl) (by kernel_rfl)
def gz(t_0:ah)(r_1:Sl (Sl Int))(h_2:Int):(Int×Sl Int)->Option ((Int×Sl Int)⊕(Sl Int)):=fun(i5,s6)=>
 bif decide (i5<(r_1.l.length:Int))then((jA t_0 r_1 i5 h_2).bind fun(r7,r8)=>
 (iF (s6.l++[wr .i64 ((r7.l.length:Int)-1)])).bind fun l9=>
 some (.inl (wr .i64 (i5+1),(Sl.mk l9))))else
 (some (.inr s6))
def lw(t_0:ah)(r_1:Sl (Sl Int))(h_2:Int):Option (Sl Int):=
 (jr t_0 r_1).bind fun r1=>
 bif(((!r1)||(decide (h_2<0)))||(decide (h_2>=(((ah.bd t_0).l).length:Int))))then(some Sl.nil)else
 ((bD (gz t_0 r_1 h_2) (0,Sl.nil)).bind fun s10=>
 some s10)
def TE:lD:=⟨[(false,.x y0),(false,.x (.sl (.sl (.i .i64)))),(false,.x (.i .i64))],[([.x (.sl (.i .i64))],[])],false,[],fun p=>match p with|(t_0,r_1,h_2)=>lw t_0 r_1 h_2⟩
theorem R6:cZ prog 36 TE:=cJ mixed dJ (di:=di) (np:=3) (an:=[(12,{j:=some {vs:=[(7,.so 0),(28,.x (.i .i64))],os:=[.ar (.i .i64)]},e:=[(.exit 0,{vs:=[(7,.so 0)],os:=[.ar (.i .i64)]})]})]) (.cons T9 (.cons Ut .nil)) (by kernel_rfl) (by kernel_rfl)
def gW(t_0:ah)(r_1:Sl (Sl Int)):Int->Option (Int⊕(Bool⊕Unit)):=fun i3=>
 bif decide (i3<(((ah.bd t_0).l).length:Int))then((lw t_0 r_1 i3).bind fun r4=>
 (cN r4 (-1)).bind fun r5=>
 bif r5 then(some (.inr (.inl false)))else
 (some (.inl (wr .i64 (i3+1)))))else
 (some (.inr (.inr ())))
def ir(t_0:ah)(r_1:Sl (Sl Int)):Option Bool:=
 (jr t_0 r_1).bind fun r1=>
 bif(!r1)then(some false)else
 ((bD (gW t_0 r_1) 0).bind fun
 |.inl b6=>(some b6)
 |.inr _=>(some true))
def TD:lD:=⟨[(false,.x y0),(false,.x (.sl (.sl (.i .i64))))],[([.x .b],[])],true,[],fun p=>match p with|(t_0,r_1)=>ir t_0 r_1⟩
theorem R5:cZ prog 16 TD:=cJ mixed dJ (di:=di) (np:=2) (an:=[(10,{j:=some {vs:=[(13,.x (.i .i64))]},e:=[(.ret,{vs:=[(4,.x .b)]}),(.exit 0,{})]})]) (.cons T9 (.cons R6 (.cons N1 .nil))) (by kernel_rfl) (by kernel_rfl)
def ki(r_0:aj)(m_1:ae):Option Bool:=
 (bif((ae.vC m_1)==(aj.No r_0))then((cN (aj.SC r_0) (ae.Sw m_1)).bind fun r1=>
 some r1)else
 (some false):Option Bool).bind fun b2=>
 some b2
def TC:lD:=⟨[(false,.x y5),(false,.x y4)],[([.x .b],[])],true,[],fun p=>match p with|(r_0,m_1)=>ki r_0 m_1⟩
theorem R4:cZ prog 61 TC:=cJ mixed dJ (di:=di) (np:=2) (an:=[(3,{j:=some {vs:=[(4,.x .b)]}})]) (.cons N1 .nil) (by kernel_rfl) (by kernel_rfl)
def iv(r_0:aj)(c_1:ae):Option Bool:=
 (ki r_0 c_1).bind fun r1=>
 some r1
def TB:lD:=⟨[(false,.x y5),(false,.pt y4)],[([.x .b],[])],true,[],fun p=>match p with|(r_0,c_1)=>iv r_0 c_1⟩
theorem Us:cZ prog 88 TB:=cJ mixed dJ (di:=di) (np:=2) (an:=[]) (.cons R4 .nil) (by kernel_rfl) (by kernel_rfl)
def bf(s_0:Sl aj)(f_1_c0:ae):Int->Option (Int⊕(Int⊕Unit)):=fun i2=>
 bif decide (i2<(s_0.l.length:Int))then((eX i2 s_0.l.length).bind fun n3=>
 (iv (gt s_0.l n3) f_1_c0).bind fun r4=>
 bif r4 then(some (.inr (.inl i2)))else
 (some (.inl (wr .i64 (i2+1)))))else
 (some (.inr (.inr ())))
def bC(s_0:Sl aj)(f_1_c0:ae):Option Int:=
 (bD (bf s_0 f_1_c0) 0).bind fun
 |.inl i5=>(some i5)
 |.inr _=>(some (-1))
def TA:lD:=⟨[(false,.x (.sl y5)),(false,.fn 88 (.pr (.pt y4) .ni))],[([.x (.i .i64)],[])],true,[],fun p=>match p with|(s_0,f_1_c0)=>bC s_0 f_1_c0⟩
theorem Ur:cZ prog 124 TA:=cJ mixed dJ (di:=di) (np:=2) (an:=[(5,{j:=some {vs:=[(8,.x (.i .i64))]},e:=[(.ret,{vs:=[(4,.x (.i .i64))]}),(.exit 0,{})]})]) (.cons Us .nil) (by kernel_rfl) (by kernel_rfl)
def br(s_0:Sl aj)(f_1_c0:ae):Option Bool:=
 (bC s_0 f_1_c0).bind fun r1=>
 some (decide (r1>=0))
def Tx:lD:=⟨[(false,.x (.sl y5)),(false,.fn 88 (.pr (.pt y4) .ni))],[([.x .b],[])],true,[],fun p=>match p with|(s_0,f_1_c0)=>br s_0 f_1_c0⟩
theorem Up:cZ prog 87 Tx:=cJ mixed dJ (di:=di) (np:=2) (an:=[]) (.cons Ur .nil) (by kernel_rfl) (by kernel_rfl)
def eW(x_0:bv)(m_1:ae):Option Bool:=
 (br (aJ.fo (bv.p x_0)) m_1).bind fun r1=>
 some r1
def Tw:lD:=⟨[(false,.pt y6),(false,.x y4)],[([.x .b],[])],true,[],fun p=>match p with|(x_0,m_1)=>eW x_0 m_1⟩
theorem Uo:cZ prog 56 Tw:=cJ mixed dJ (di:=di) (np:=2) (an:=[]) (.cons Up .nil) (by kernel_rfl) (by kernel_rfl)
def bF(x_0_t:ah)(x_0_old:Sl (Sl Int))(x_0_now:Sl (Sl Int))(x_0_p_Moves:Sl ae)(x_0_p_Rounds:Sl aj)(x_0_p_Miss:Int)(x_0_p_Life:Int)(x_0_p_From:Int)(x_0_p_To:Int)(x_0_out:Sl am)(is_1:Bool)(kind_2:Int)(k_3:Int)(h_4:Int):Option (ah×Sl (Sl Int)×Sl (Sl Int)×Sl ae×Sl aj×Int×Int×Int×Int×Sl am):=
 bif is_1 then((iF (x_0_out.l++[(⟨kind_2,k_3,h_4⟩:am)])).bind fun l1=>
 some (x_0_t,x_0_old,x_0_now,x_0_p_Moves,x_0_p_Rounds,x_0_p_Miss,x_0_p_Life,x_0_p_From,x_0_p_To,(Sl.mk l1)))else
 (some (x_0_t,x_0_old,x_0_now,x_0_p_Moves,x_0_p_Rounds,x_0_p_Miss,x_0_p_Life,x_0_p_From,x_0_p_To,x_0_out))
def Tv:lD:=⟨[(true,.pb y6 (.st (.pr (.x y0) (.pr (.x (.sl (.sl (.i .i64)))) (.pr (.x (.sl (.sl (.i .i64)))) (.pr (.st (.pr (.x (.sl y4)) (.pr (.x (.sl y5)) (.pr (.x (.i .i64)) (.pr (.x (.i .i64)) (.pr (.x (.i .i64)) (.pr (.x (.i .i64)) .ni))))))) (.pr (.os y7) .ni))))))),(false,.x .b),(false,.x (.i .i64)),(false,.x (.i .i64)),(false,.x (.i .i64))],[([],[.pb y6 (.st (.pr (.x y0) (.pr (.x (.sl (.sl (.i .i64)))) (.pr (.x (.sl (.sl (.i .i64)))) (.pr (.st (.pr (.x (.sl y4)) (.pr (.x (.sl y5)) (.pr (.x (.i .i64)) (.pr (.x (.i .i64)) (.pr (.x (.i .i64)) (.pr (.x (.i .i64)) .ni))))))) (.pr (.os y7) .ni))))))])],false,[true,false,false,false,false],fun p=>match p with|(x_0_t,x_0_old,x_0_now,x_0_p_Moves,x_0_p_Rounds,x_0_p_Miss,x_0_p_Life,x_0_p_From,x_0_p_To,x_0_out,is_1,kind_2,k_3,h_4)=>bF x_0_t x_0_old x_0_now x_0_p_Moves x_0_p_Rounds x_0_p_Miss x_0_p_Life x_0_p_From x_0_p_To x_0_out is_1 kind_2 k_3 h_4⟩
theorem Qg:cZ prog 57 Tv:=cJ mixed dJ (di:=di) (np:=5) (an:=[]) .nil (by kernel_rfl) (by kernel_rfl)
def fx(x_0:bv)(m_1:ae):Option Bool:=some ((((decide ((ae.Sw m_1)>=0))&&(decide ((ae.Sw m_1)<(ah.bq (bv.t x_0)))))&&(decide ((ae.mL m_1)>=0)))&&(decide ((ae.mL m_1)<(((ah.bd (bv.t x_0)).l).length:Int))))
def Tu:lD:=⟨[(false,.pt y6),(false,.x y4)],[([.x .b],[])],true,[],fun p=>match p with|(x_0,m_1)=>fx x_0 m_1⟩
theorem R3:cZ prog 58 Tu:=cJ mixed dJ (di:=di) (np:=2) (an:=[]) .nil (by kernel_rfl) (by kernel_rfl)
def dR(i13:Int)(s47:Sl am)(i43:Int)(i45:Int)(i46:Int)(n48:Nat)(s16:Sl (Sl Int))(n24:Nat)(i37:Int)(x38:ah)(s39:Sl (Sl Int))(s40:Sl (Sl Int))(s41:Sl ae)(s42:Sl aj)(i44:Int):(Int×Int)->Option ((Int×Int)⊕Int):=fun(i51,i52)=>
 bif decide (i52<(s41.l.length:Int))then(((eX i52 s41.l.length).bind fun n53=>
 (bif((((ae.Sw (gt s41.l n53))==i13)&&((ae.mL (gt s41.l n53))==i37))&&((ae.oA (gt s41.l n53))==(gt ((gt s16.l n24).l) n48)))then((eW (⟨x38,s39,s40,(⟨s41,s42,i43,i44,i45,i46⟩:dh),s47⟩:bv) (gt s41.l n53)).bind fun r54=>
 some r54)else
 (some false):Option Bool).bind fun b55=>
 bif b55 then(some (wr .i64 (i51+1)))else
 (some i51):Option Int).bind fun i56=>
 some (.inl (i56,wr .i64 (i52+1))))else
 (some (.inr i51))
def eS(i13:Int)(s16:Sl (Sl Int))(n24:Nat):(Int×ah×Sl (Sl Int)×Sl (Sl Int)×Sl ae×Sl aj×Int×Int×Int×Int×Sl am)->Option ((Int×ah×Sl (Sl Int)×Sl (Sl Int)×Sl ae×Sl aj×Int×Int×Int×Int×Sl am)⊕(ah×Sl (Sl Int)×Sl (Sl Int)×Sl ae×Sl aj×Int×Int×Int×Int×Sl am)):=fun(i37,x38,s39,s40,s41,s42,i43,i44,i45,i46,s47)=>
 bif decide (i37<(((gt s16.l n24).l).length:Int))then((eX i37 ((gt s16.l n24).l).length).bind fun n48=>
 (bD (dR i13 s47 i43 i45 i46 n48 s16 n24 i37 x38 s39 s40 s41 s42 i44) (0,0)).bind fun i57=>
 (eX i13 s39.l.length).bind fun n58=>
 (eX i37 ((gt s39.l n58).l).length).bind fun n59=>
 (bF x38 s39 s40 s41 s42 i43 i44 i45 i46 s47 (((gt ((gt s16.l n24).l) n48) !=(gt ((gt s39.l n58).l) n59))&&(i57 !=1)) 2 i13 i37).bind fun(q60,q61,q62,q63,q64,q65,q66,q67,q68,s69)=>
 some (.inl (wr .i64 (i37+1),q60,q61,q62,q63,q64,q65,q66,q67,q68,s69)))else
 (some (.inr (x38,s39,s40,s41,s42,i43,i44,i45,i46,s47)))
def eR(x_0_now:Sl (Sl Int)):(Int×ah×Sl (Sl Int)×Sl (Sl Int)×Sl ae×Sl aj×Int×Int×Int×Int×Sl am)->Option ((Int×ah×Sl (Sl Int)×Sl (Sl Int)×Sl ae×Sl aj×Int×Int×Int×Int×Sl am)⊕(ah×Sl (Sl Int)×Sl (Sl Int)×Sl ae×Sl aj×Int×Int×Int×Int×Sl am)):=fun(i13,x14,s15,s16,s17,s18,i19,i20,i21,i22,s23)=>
 bif decide (i13<(x_0_now.l.length:Int))then((eX i13 s16.l.length).bind fun n24=>
 (bD (eS i13 s16 n24) (0,x14,s15,s16,s17,s18,i19,i20,i21,i22,s23)).bind fun(x70,s71,s72,s73,s74,i75,i76,i77,i78,s79)=>
 some (.inl (wr .i64 (i13+1),x70,s71,s72,s73,s74,i75,i76,i77,i78,s79)))else
 (some (.inr (x14,s15,s16,s17,s18,i19,i20,i21,i22,s23)))
def eQ(s83:Sl ae):(Int×ah×Sl (Sl Int)×Sl (Sl Int)×Sl ae×Sl aj×Int×Int×Int×Int×Sl am)->Option ((Int×ah×Sl (Sl Int)×Sl (Sl Int)×Sl ae×Sl aj×Int×Int×Int×Int×Sl am)⊕(ah×Sl (Sl Int)×Sl (Sl Int)×Sl ae×Sl aj×Int×Int×Int×Int×Sl am)):=fun(i102,x103,s104,s105,s106,s107,i108,i109,i110,i111,s112)=>
 bif decide (i102<(s83.l.length:Int))then((eX i102 s83.l.length).bind fun n113=>
 ((fx (⟨x103,s104,s105,(⟨s106,s107,i108,i109,i110,i111⟩:dh),s112⟩:bv) (gt s83.l n113)).bind fun r114=>
 bif(!r114)then((bF x103 s104 s105 s106 s107 i108 i109 i110 i111 s112 true 3 i102 (ae.mL (gt s83.l n113))).bind fun(q115,q116,q117,q118,q119,q120,q121,q122,q123,s124)=>
 some (q115,q116,q117,q118,q119,q120,q121,q122,q123,s124))else
 ((eX (ae.Sw (gt s83.l n113)) s105.l.length).bind fun n125=>
 (eX (ae.mL (gt s83.l n113)) ((gt s105.l n125).l).length).bind fun n126=>
 bif((gt ((gt s105.l n125).l) n126) !=(ae.oA (gt s83.l n113)))then((bF x103 s104 s105 s106 s107 i108 i109 i110 i111 s112 true 3 i102 (ae.mL (gt s83.l n113))).bind fun(q127,q128,q129,q130,q131,q132,q133,q134,q135,s136)=>
 some (q127,q128,q129,q130,q131,q132,q133,q134,q135,s136))else
 ((eX (ae.Sw (gt s83.l n113)) s104.l.length).bind fun n137=>
 (eX (ae.mL (gt s83.l n113)) ((gt s104.l n137).l).length).bind fun n138=>
 bif((gt ((gt s104.l n137).l) n138)==(ae.oA (gt s83.l n113)))then((bF x103 s104 s105 s106 s107 i108 i109 i110 i111 s112 true 3 i102 (ae.mL (gt s83.l n113))).bind fun(q139,q140,q141,q142,q143,q144,q145,q146,q147,s148)=>
 some (q139,q140,q141,q142,q143,q144,q145,q146,q147,s148))else
 ((eW (⟨x103,s104,s105,(⟨s106,s107,i108,i109,i110,i111⟩:dh),s112⟩:bv) (gt s83.l n113)).bind fun r149=>
 (bF x103 s104 s105 s106 s107 i108 i109 i110 i111 s112 (!r149) 3 i102 (ae.mL (gt s83.l n113))).bind fun(q150,q151,q152,q153,q154,q155,q156,q157,q158,s159)=>
 some (q150,q151,q152,q153,q154,q155,q156,q157,q158,s159)))):Option (ah×Sl (Sl Int)×Sl (Sl Int)×Sl ae×Sl aj×Int×Int×Int×Int×Sl am)).bind fun(x160,s161,s162,s163,s164,i165,i166,i167,i168,s169)=>
 some (.inl (wr .i64 (i102+1),x160,s161,s162,s163,s164,i165,i166,i167,i168,s169)))else
 (some (.inr (x103,s104,s105,s106,s107,i108,i109,i110,i111,s112)))
def fZ(x_0_t:ah)(x_0_old:Sl (Sl Int))(x_0_now:Sl (Sl Int))(x_0_p_Moves:Sl ae)(x_0_p_Rounds:Sl aj)(x_0_p_Miss:Int)(x_0_p_Life:Int)(x_0_p_From:Int)(x_0_p_To:Int)(x_0_out:Sl am):Option (ah×Sl (Sl Int)×Sl (Sl Int)×Sl ae×Sl aj×Int×Int×Int×Int×Sl am):=
 (bD (eR x_0_now) (0,x_0_t,x_0_old,x_0_now,x_0_p_Moves,x_0_p_Rounds,x_0_p_Miss,x_0_p_Life,x_0_p_From,x_0_p_To,x_0_out)).bind fun(x80,s81,s82,s83,s84,i85,i86,i87,i88,s89)=>
 (bD (eQ s83) (0,x80,s81,s82,s83,s84,i85,i86,i87,i88,s89)).bind fun(x170,s171,s172,s173,s174,i175,i176,i177,i178,s179)=>
 some (x170,s171,s172,s173,s174,i175,i176,i177,i178,s179)
def Tt:lD:=⟨[(true,.pb y6 (.st (.pr (.x y0) (.pr (.x (.sl (.sl (.i .i64)))) (.pr (.x (.sl (.sl (.i .i64)))) (.pr (.st (.pr (.x (.sl y4)) (.pr (.x (.sl y5)) (.pr (.x (.i .i64)) (.pr (.x (.i .i64)) (.pr (.x (.i .i64)) (.pr (.x (.i .i64)) .ni))))))) (.pr (.os y7) .ni)))))))],[([],[.pb y6 (.st (.pr (.x y0) (.pr (.x (.sl (.sl (.i .i64)))) (.pr (.x (.sl (.sl (.i .i64)))) (.pr (.st (.pr (.x (.sl y4)) (.pr (.x (.sl y5)) (.pr (.x (.i .i64)) (.pr (.x (.i .i64)) (.pr (.x (.i .i64)) (.pr (.x (.i .i64)) .ni))))))) (.pr (.os y7) .ni))))))])],false,[true],fun p=>match p with|(x_0_t,x_0_old,x_0_now,x_0_p_Moves,x_0_p_Rounds,x_0_p_Miss,x_0_p_Life,x_0_p_From,x_0_p_To,x_0_out)=>fZ x_0_t x_0_old x_0_now x_0_p_Moves x_0_p_Rounds x_0_p_Miss x_0_p_Life x_0_p_From x_0_p_To x_0_out⟩
theorem Un:cZ prog 27 Tt:=cJ mixed dJ (di:=di) (np:=1) (an:=[(3,{j:=some {vs:=[(0,.op 0 y6 []),(15,.x (.i .i64))],gs:=(.co (.op 0 y6 []) .ni),os:=[.bx y6 (.rc (.co (.x y0) (.co (.x (.sl (.sl (.i .i64)))) (.co (.x (.sl (.sl (.i .i64)))) (.co (.rc (.co (.x (.sl y4)) (.co (.x (.sl y5)) (.co (.x (.i .i64)) (.co (.x (.i .i64)) (.co (.x (.i .i64)) (.co (.x (.i .i64)) .ni))))))) (.co (.so 1) .ni)))))),.ar y7],kl:=[0,12]},e:=[(.exit 0,{vs:=[(0,.op 0 y6 [])],gs:=(.co (.op 0 y6 []) .ni),os:=[.bx y6 (.rc (.co (.x y0) (.co (.x (.sl (.sl (.i .i64)))) (.co (.x (.sl (.sl (.i .i64)))) (.co (.rc (.co (.x (.sl y4)) (.co (.x (.sl y5)) (.co (.x (.i .i64)) (.co (.x (.i .i64)) (.co (.x (.i .i64)) (.co (.x (.i .i64)) .ni))))))) (.co (.so 1) .ni)))))),.ar y7],kl:=[0,12]})]}),(12,{j:=some {vs:=[(0,.op 0 y6 []),(26,.x (.i .i64))],gs:=(.co (.op 0 y6 []) .ni),os:=[.bx y6 (.rc (.co (.x y0) (.co (.x (.sl (.sl (.i .i64)))) (.co (.x (.sl (.sl (.i .i64)))) (.co (.rc (.co (.x (.sl y4)) (.co (.x (.sl y5)) (.co (.x (.i .i64)) (.co (.x (.i .i64)) (.co (.x (.i .i64)) (.co (.x (.i .i64)) .ni))))))) (.co (.so 1) .ni)))))),.ar y7],kl:=[13,14]},e:=[(.exit 2,{vs:=[(0,.op 0 y6 [])],gs:=(.co (.op 0 y6 []) .ni),os:=[.bx y6 (.rc (.co (.x y0) (.co (.x (.sl (.sl (.i .i64)))) (.co (.x (.sl (.sl (.i .i64)))) (.co (.rc (.co (.x (.sl y4)) (.co (.x (.sl y5)) (.co (.x (.i .i64)) (.co (.x (.i .i64)) (.co (.x (.i .i64)) (.co (.x (.i .i64)) .ni))))))) (.co (.so 1) .ni)))))),.ar y7],kl:=[13,14]})]}),(24,{j:=some {vs:=[(5,.x (.i .i64)),(37,.x (.i .i64))]},e:=[(.exit 4,{vs:=[(5,.x (.i .i64))]})]}),(28,{e:=[(.normal,{vs:=[(5,.x (.i .i64))]})]}),(32,{j:=some {vs:=[(61,.x .b)]}}),(40,{j:=some {vs:=[(0,.op 0 y6 []),(93,.x (.i .i64))],gs:=(.co (.op 0 y6 []) .ni),os:=[.bx y6 (.rc (.co (.x y0) (.co (.x (.sl (.sl (.i .i64)))) (.co (.x (.sl (.sl (.i .i64)))) (.co (.rc (.co (.x (.sl y4)) (.co (.x (.sl y5)) (.co (.x (.i .i64)) (.co (.x (.i .i64)) (.co (.x (.i .i64)) (.co (.x (.i .i64)) .ni))))))) (.co (.so 1) .ni)))))),.ar y7],kl:=[13,14]},e:=[(.exit 6,{gs:=(.co (.op 0 y6 []) .ni),os:=[.bx y6 (.rc (.co (.x y0) (.co (.x (.sl (.sl (.i .i64)))) (.co (.x (.sl (.sl (.i .i64)))) (.co (.rc (.co (.x (.sl y4)) (.co (.x (.sl y5)) (.co (.x (.i .i64)) (.co (.x (.i .i64)) (.co (.x (.i .i64)) (.co (.x (.i .i64)) .ni))))))) (.co (.so 1) .ni)))))),.ar y7],kl:=[13,14]})]}),(47,{j:=some {vs:=[(0,.op 0 y6 [])],gs:=(.co (.op 0 y6 []) .ni),os:=[.bx y6 (.rc (.co (.x y0) (.co (.x (.sl (.sl (.i .i64)))) (.co (.x (.sl (.sl (.i .i64)))) (.co (.rc (.co (.x (.sl y4)) (.co (.x (.sl y5)) (.co (.x (.i .i64)) (.co (.x (.i .i64)) (.co (.x (.i .i64)) (.co (.x (.i .i64)) .ni))))))) (.co (.so 1) .ni)))))),.ar y7],kl:=[15,16]}})]) (.cons Uo (.cons Qg (.cons R3 .nil))) (by kernel_rfl) (by kernel_rfl)
def jl(t_0:ah):(Int×Int)->Option ((Int×Int)⊕Int):=fun(i3,i4)=>
 bif decide (i4<(((ah.bU t_0).l).length:Int))then((eX i4 ((ah.bU t_0).l).length).bind fun n5=>
 some (.inl ((if(bz.pS (gt ((ah.bU t_0).l) n5))>i3 then(bz.pS (gt ((ah.bU t_0).l) n5))else i3),wr .i64 (i4+1))))else
 (some (.inr i3))
def lu(t_0:ah):Option Int:=
 (bD (jl t_0) (0,0)).bind fun i6=>
 some i6
def Ts:lD:=⟨[(false,.x y0)],[([.x (.i .i64)],[])],true,[],fun p=>match p with|t_0=>lu t_0⟩
theorem Um:cZ prog 85 Ts:=cJ mixed dJ (di:=di) (np:=1) (an:=[(7,{j:=some {vs:=[(3,.x (.i .i64)),(9,.x (.i .i64))]},e:=[(.exit 0,{vs:=[(3,.x (.i .i64))]})]})]) .nil (by kernel_rfl) (by kernel_rfl)
def nI(t_0:ah):Option Int:=
 (lu t_0).bind fun r1=>
 some (wr .i64 ((ah.bq t_0)*r1))
def Tq:lD:=⟨[(false,.x y0)],[([.x (.i .i64)],[])],true,[],fun p=>match p with|t_0=>nI t_0⟩
theorem R1:cZ prog 52 Tq:=cJ mixed dJ (di:=di) (np:=1) (an:=[]) (.cons Um .nil) (by kernel_rfl) (by kernel_rfl)
def od(t_0:ah)(miss_1:Int):Option Int:=
 (nI t_0).bind fun r1=>
 some (wr .i64 ((wr .i64 ((wr .i64 (2*miss_1))+r1))+1))
def Tp:lD:=⟨[(false,.x y0),(false,.x (.i .i64))],[([.x (.i .i64)],[])],true,[],fun p=>match p with|(t_0,miss_1)=>od t_0 miss_1⟩
theorem R0:cZ prog 54 Tp:=cJ mixed dJ (di:=di) (np:=2) (an:=[]) (.cons R1 .nil) (by kernel_rfl) (by kernel_rfl)
def ju(n_0:Int):Option Int:=some (if 1125899906842624<(if(-1125899906842624)>n_0 then(-1125899906842624)else n_0)then 1125899906842624 else(if(-1125899906842624)>n_0 then(-1125899906842624)else n_0))
def Tn:lD:=⟨[(false,.x (.i .i64))],[([.x (.i .i64)],[])],true,[],fun p=>match p with|n_0=>ju n_0⟩
theorem Ul:cZ prog 59 Tn:=cJ mixed dJ (di:=di) (np:=1) (an:=[]) .nil (by kernel_rfl) (by kernel_rfl)
def dQ(r1:Int):(Int×ah×Sl (Sl Int)×Sl (Sl Int)×Sl ae×Sl aj×Int×Int×Int×Int×Sl am)->Option ((Int×ah×Sl (Sl Int)×Sl (Sl Int)×Sl ae×Sl aj×Int×Int×Int×Int×Sl am)⊕(ah×Sl (Sl Int)×Sl (Sl Int)×Sl ae×Sl aj×Int×Int×Int×Int×Sl am)):=fun(i14,x15,s16,s17,s18,s19,i20,i21,i22,i23,s24)=>
 bif decide (i14<(s19.l.length:Int))then((eX i14 s19.l.length).bind fun n25=>
 (ju (aj.At (gt s19.l n25))).bind fun r26=>
 (eX (wr .i64 (i14-1)) s19.l.length).bind fun n27=>
 (ju (aj.At (gt s19.l n27))).bind fun r28=>
 (bF x15 s16 s17 s18 s19 i20 i21 i22 i23 s24 (decide ((wr .i64 (r26-r28))<r1)) 4 i14 0).bind fun(q29,q30,q31,q32,q33,q34,q35,q36,q37,s38)=>
 some (.inl (wr .i64 (i14+1),q29,q30,q31,q32,q33,q34,q35,q36,q37,s38)))else
 (some (.inr (x15,s16,s17,s18,s19,i20,i21,i22,i23,s24)))
def fY(x_0_t:ah)(x_0_old:Sl (Sl Int))(x_0_now:Sl (Sl Int))(x_0_p_Moves:Sl ae)(x_0_p_Rounds:Sl aj)(x_0_p_Miss:Int)(x_0_p_Life:Int)(x_0_p_From:Int)(x_0_p_To:Int)(x_0_out:Sl am):Option (ah×Sl (Sl Int)×Sl (Sl Int)×Sl ae×Sl aj×Int×Int×Int×Int×Sl am):=
 (od x_0_t (if 1048576<(if 0>x_0_p_Miss then 0 else x_0_p_Miss)then 1048576 else(if 0>x_0_p_Miss then 0 else x_0_p_Miss))).bind fun r1=>
 (bD (dQ r1) (1,x_0_t,x_0_old,x_0_now,x_0_p_Moves,x_0_p_Rounds,x_0_p_Miss,x_0_p_Life,x_0_p_From,x_0_p_To,x_0_out)).bind fun(x39,s40,s41,s42,s43,i44,i45,i46,i47,s48)=>
 some (x39,s40,s41,s42,s43,i44,i45,i46,i47,s48)
def Tm:lD:=⟨[(true,.pb y6 (.st (.pr (.x y0) (.pr (.x (.sl (.sl (.i .i64)))) (.pr (.x (.sl (.sl (.i .i64)))) (.pr (.st (.pr (.x (.sl y4)) (.pr (.x (.sl y5)) (.pr (.x (.i .i64)) (.pr (.x (.i .i64)) (.pr (.x (.i .i64)) (.pr (.x (.i .i64)) .ni))))))) (.pr (.os y7) .ni)))))))],[([],[.pb y6 (.st (.pr (.x y0) (.pr (.x (.sl (.sl (.i .i64)))) (.pr (.x (.sl (.sl (.i .i64)))) (.pr (.st (.pr (.x (.sl y4)) (.pr (.x (.sl y5)) (.pr (.x (.i .i64)) (.pr (.x (.i .i64)) (.pr (.x (.i .i64)) (.pr (.x (.i .i64)) .ni))))))) (.pr (.os y7) .ni))))))])],false,[true],fun p=>match p with|(x_0_t,x_0_old,x_0_now,x_0_p_Moves,x_0_p_Rounds,x_0_p_Miss,x_0_p_Life,x_0_p_From,x_0_p_To,x_0_out)=>fY x_0_t x_0_old x_0_now x_0_p_Moves x_0_p_Rounds x_0_p_Miss x_0_p_Life x_0_p_From x_0_p_To x_0_out⟩
theorem Uk:cZ prog 28 Tm:=cJ mixed dJ (di:=di) (np:=1) (an:=[(6,{j:=some {vs:=[(0,.op 0 y6 []),(4,.x (.i .i64))],gs:=(.co (.op 0 y6 []) .ni),os:=[.bx y6 (.rc (.co (.x y0) (.co (.x (.sl (.sl (.i .i64)))) (.co (.x (.sl (.sl (.i .i64)))) (.co (.rc (.co (.x (.sl y4)) (.co (.x (.sl y5)) (.co (.x (.i .i64)) (.co (.x (.i .i64)) (.co (.x (.i .i64)) (.co (.x (.i .i64)) .ni))))))) (.co (.so 1) .ni)))))),.ar y7],kl:=[0,12]},e:=[(.exit 0,{gs:=(.co (.op 0 y6 []) .ni),os:=[.bx y6 (.rc (.co (.x y0) (.co (.x (.sl (.sl (.i .i64)))) (.co (.x (.sl (.sl (.i .i64)))) (.co (.rc (.co (.x (.sl y4)) (.co (.x (.sl y5)) (.co (.x (.i .i64)) (.co (.x (.i .i64)) (.co (.x (.i .i64)) (.co (.x (.i .i64)) .ni))))))) (.co (.so 1) .ni)))))),.ar y7],kl:=[0,12]})]})]) (.cons R0 (.cons Ul (.cons Qg .nil))) (by kernel_rfl) (by kernel_rfl)
def jq(s_0:Sl Int):Option (Sl Int):=
 bif s_0.fN then(some Sl.nil)else
 ((iF ([]++s_0.l)).bind fun l1=>
 some (kL (Sl.mk []) s_0.l l1))
def Tk:lD:=⟨[(false,.x (.sl (.i .i64)))],[([.os (.i .i64)],[])],false,[],fun p=>match p with|s_0=>jq s_0⟩
theorem Ui:cZ prog 60 Tk:=cJ mixed dJ (di:=di) (np:=1) (an:=[]) .nil (by kernel_rfl) (by kernel_rfl)
def j6(n_0:Int)(l_1:Sl aQ):Int->Option (Int⊕(Bool⊕Unit)):=fun i2=>
 bif decide (i2<(l_1.l.length:Int))then((eX i2 l_1.l.length).bind fun n3=>
 bif((((decide ((aQ.pT (gt l_1.l n3))<0))||(decide ((aQ.pT (gt l_1.l n3))>=n_0)))||(decide ((aQ.To (gt l_1.l n3))<0)))||(decide ((aQ.To (gt l_1.l n3))>=n_0)))then(some (.inr (.inl false)))else
 (some (.inl (wr .i64 (i2+1)))))else
 (some (.inr (.inr ())))
def ld(n_0:Int)(l_1:Sl aQ):Option Bool:=
 bif((decide (n_0<0))||(decide (n_0>16)))then(some false)else
 ((bD (j6 n_0 l_1) 0).bind fun
 |.inl b4=>(some b4)
 |.inr _=>(some true))
def Tj:lD:=⟨[(false,.x (.i .i64)),(false,.x (.sl y2))],[([.x .b],[])],true,[],fun p=>match p with|(n_0,l_1)=>ld n_0 l_1⟩
theorem Uh:cZ prog 47 Tj:=cJ mixed dJ (di:=di) (np:=2) (an:=[(10,{j:=some {vs:=[(15,.x (.i .i64))]},e:=[(.ret,{vs:=[(4,.x .b)]}),(.exit 0,{})]})]) .nil (by kernel_rfl) (by kernel_rfl)
def kD(l_1:Sl aQ):(Int×Sl Int)->Option ((Int×Sl Int)⊕(Sl Int)):=fun(i5,s6)=>
 bif decide (i5<(l_1.l.length:Int))then((eX i5 l_1.l.length).bind fun n7=>
 (eX (aQ.pT (gt l_1.l n7)) s6.l.length).bind fun n8=>
 (x7 .u16 1 (aQ.To (gt l_1.l n7))).bind fun i9=>
 (eX (aQ.pT (gt l_1.l n7)) s6.l.length).bind fun n10=>
 some (.inl (wr .i64 (i5+1),(Sl.mk (s6.l.set n10 (Rv .u16 (gt s6.l n8) i9))))))else
 (some (.inr s6))
def nN(n_0:Int)(l_1:Sl aQ):Option (Sl Int):=
 (zD 0 n_0 n_0).bind fun l1=>
 (bD (kD l_1) (0,(Sl.mk l1))).bind fun s11=>
 some s11
def Ti:lD:=⟨[(false,.x (.i .i64)),(false,.x (.sl y2))],[([.x (.sl (.i .u16))],[])],false,[],fun p=>match p with|(n_0,l_1)=>nN n_0 l_1⟩
theorem Ug:cZ prog 48 Ti:=cJ mixed dJ (di:=di) (np:=2) (an:=[(7,{j:=some {vs:=[(5,.so 0),(12,.x (.i .i64))],os:=[.ar (.i .u16)],kl:=[0]},e:=[(.exit 0,{vs:=[(5,.so 0)],os:=[.ar (.i .u16)],kl:=[0]})]})]) .nil (by kernel_rfl) (by kernel_rfl)
def dD(x_0:Int):Option Int:=
 bif(x_0==0)then(some 16)else
 ((eX (JK .u32 (wr .u32 ((wr .u32 (JL .u16 x_0 (wr .u16 (0-x_0))))*125613361)) 27) 32).bind fun n1=>
 some (wr .i64 (gt HZ.1 n1)))
def Th:lD:=⟨[(false,.x (.i .u16))],[([.x (.i .i64)],[])],true,[],fun p=>match p with|x_0=>dD x_0⟩
theorem RZ:cZ prog 50 Th:=cJ mixed dJ (di:=di) (np:=1) (an:=[]) .nil (by kernel_rfl) (by kernel_rfl)
def kE:(Int×Sl Int)->Option ((Int×Sl Int)⊕(Sl Int)):=fun(i4,s5)=>
 bif(i4 !=0)then((dD i4).bind fun r6=>
 (iF (s5.l++[r6])).bind fun l7=>
 some (.inl (JL .u16 i4 (wr .u16 (i4-1)),(Sl.mk l7))))else
 (some (.inr s5))
def nO(set_0:Int):Option (Sl Int):=
 (bD (kE) (set_0,Sl.nil)).bind fun s8=>
 some s8
def Tg:lD:=⟨[(false,.x (.i .u16))],[([.x (.sl (.i .i64))],[])],false,[],fun p=>match p with|set_0=>nO set_0⟩
theorem Uf:cZ prog 84 Tg:=cJ mixed dJ (di:=di) (np:=1) (an:=[(5,{j:=some {vs:=[(0,.x (.i .u16)),(3,.so 0)],os:=[.ar (.i .i64)]},e:=[(.exit 0,{vs:=[(3,.so 0)],os:=[.ar (.i .i64)]})]})]) (.cons RZ .nil) (by kernel_rfl) (by kernel_rfl)
def kC(to_0:Sl Int)(r1:Sl Int):(Int×Int)->Option ((Int×Int)⊕Int):=fun(i4,i5)=>
 bif decide (i5<(r1.l.length:Int))then((eX i5 r1.l.length).bind fun n6=>
 (eX (gt r1.l n6) to_0.l.length).bind fun n7=>
 some (.inl (Rv .u16 i4 (gt to_0.l n7),wr .i64 (i5+1))))else
 (some (.inr i4))
def nM(to_0:Sl Int)(set_1:Int):Option Int:=
 (nO set_1).bind fun r1=>
 (bD (kC to_0 r1) (0,0)).bind fun i8=>
 some i8
def Tf:lD:=⟨[(false,.x (.sl (.i .u16))),(false,.x (.i .u16))],[([.x (.i .u16)],[])],true,[],fun p=>match p with|(to_0,set_1)=>nM to_0 set_1⟩
theorem Ue:cZ prog 49 Tf:=cJ mixed dJ (di:=di) (np:=2) (an:=[(7,{j:=some {vs:=[(5,.x (.i .u16)),(11,.x (.i .i64))]},e:=[(.exit 0,{vs:=[(5,.x (.i .u16))]})]})]) (.cons Uf .nil) (by kernel_rfl) (by kernel_rfl)
def iV(r2:Sl Int):(Int×Sl Int)->Option ((Int×Sl Int)⊕(Bool⊕(Sl Int))):=fun(i7,s8)=>
 bif(i7 !=0)then((nM r2 i7).bind fun r9=>
 bif((rG .u16 i7 r9)==0)then(some (.inr (.inl false)))else
 ((dD (rG .u16 i7 r9)).bind fun r10=>
 (iF (s8.l++[r10])).bind fun l11=>
 (x7 .u16 1 r10).bind fun i12=>
 some (.inl (rG .u16 i7 i12,(Sl.mk l11)))))else
 (some (.inr (.inr s8)))
def iI(n_0:Int)(l_1:Sl aQ):Option (Sl Int×Bool):=
 (ld n_0 l_1).bind fun r1=>
 bif(!r1)then(some (Sl.nil,false))else
 ((nN n_0 l_1).bind fun r2=>
 (x7 .u16 1 n_0).bind fun i3=>
 (bD (iV r2) (wr .u16 (i3-1),Sl.nil)).bind fun
 |.inl b13=>(some (Sl.nil,b13))
 |.inr s14=>(some (s14,true)))
def Te:lD:=⟨[(false,.x (.i .i64)),(false,.x (.sl y2))],[([.x (.sl (.i .i64)),.x .b],[])],false,[],fun p=>match p with|(n_0,l_1)=>iI n_0 l_1⟩
theorem Ud:cZ prog 25 Te:=cJ mixed dJ (di:=di) (np:=2) (an:=[(14,{j:=some {vs:=[(7,.x (.i .u16)),(8,.so 0)],os:=[.ar (.i .i64)]},e:=[(.ret,{vs:=[(4,.nl 0),(5,.x .b)]}),(.exit 0,{vs:=[(8,.so 0)],os:=[.ar (.i .i64)]})]})]) (.cons Uh (.cons Ug (.cons Ue (.cons RZ .nil)))) (by kernel_rfl) (by kernel_rfl)
def er(x_0_t:ah)(ports_1:Sl (Sl Int))(h_3:Int)(i7:Int)(n9:Nat):(Bool×Int×Sl aQ)->Option ((Bool×Int×Sl aQ)⊕(Bool×Sl aQ)):=fun(b13,i14,s15)=>
 bif decide (i14<(((gt ports_1.l n9).l).length:Int))then(((eX i14 ((gt ports_1.l n9).l).length).bind fun n16=>
 (nB x_0_t i7 (gt ((gt ports_1.l n9).l) n16)).bind fun(r17,r18,r19,r20)=>
 bif r20 then((iF (s15.l++[(⟨i7,r17⟩:aQ)])).bind fun l21=>
 some (b13,(Sl.mk l21)))else
 ((eX h_3 ((ah.bd x_0_t).l).length).bind fun n22=>
 bif(!(decide ((gt ((ah.bd x_0_t).l) n22)=(⟨i7,gt ((gt ports_1.l n9).l) n16⟩:fQ))))then(some (true,s15))else
 (some (b13,s15))):Option (Bool×Sl aQ)).bind fun(b23,s24)=>
 some (.inl (b23,wr .i64 (i14+1),s24)))else
 (some (.inr (b13,s15)))
def fm(x_0_t:ah)(ports_1:Sl (Sl Int))(h_3:Int):(Bool×Int×Sl aQ)->Option ((Bool×Int×Sl aQ)⊕(Bool×Sl aQ)):=fun(b6,i7,s8)=>
 bif decide (i7<(ports_1.l.length:Int))then((eX i7 ports_1.l.length).bind fun n9=>
 (bD (er x_0_t ports_1 h_3 i7 n9) (b6,0,s8)).bind fun(b25,s26)=>
 some (.inl (b25,wr .i64 (i7+1),s26)))else
 (some (.inr (b6,s8)))
def ig(x_0_t:ah)(x_0_old:Sl (Sl Int))(x_0_now:Sl (Sl Int))(x_0_p_Moves:Sl ae)(x_0_p_Rounds:Sl aj)(x_0_p_Miss:Int)(x_0_p_Life:Int)(x_0_p_From:Int)(x_0_p_To:Int)(x_0_out:Sl am)(ports_1:Sl (Sl Int))(k_2:Int)(h_3:Int):Option (ah×Sl (Sl Int)×Sl (Sl Int)×Sl ae×Sl aj×Int×Int×Int×Int×Sl am):=
 (bD (fm x_0_t ports_1 h_3) (false,0,Sl.nil)).bind fun(b27,s28)=>
 (iI (ah.bq x_0_t) s28).bind fun(r29,r30)=>
 (bF x_0_t x_0_old x_0_now x_0_p_Moves x_0_p_Rounds x_0_p_Miss x_0_p_Life x_0_p_From x_0_p_To x_0_out b27 5 k_2 h_3).bind fun(q31,q32,q33,q34,q35,q36,q37,q38,q39,s40)=>
 (bF q31 q32 q33 q34 q35 q36 q37 q38 q39 s40 (!r30) 6 k_2 h_3).bind fun(q41,q42,q43,q44,q45,q46,q47,q48,q49,s50)=>
 some (q41,q42,q43,q44,q45,q46,q47,q48,q49,s50)
def Td:lD:=⟨[(true,.pb y6 (.st (.pr (.x y0) (.pr (.x (.sl (.sl (.i .i64)))) (.pr (.x (.sl (.sl (.i .i64)))) (.pr (.st (.pr (.x (.sl y4)) (.pr (.x (.sl y5)) (.pr (.x (.i .i64)) (.pr (.x (.i .i64)) (.pr (.x (.i .i64)) (.pr (.x (.i .i64)) .ni))))))) (.pr (.os y7) .ni))))))),(false,.x (.sl (.sl (.i .i64)))),(false,.x (.i .i64)),(false,.x (.i .i64))],[([],[.pb y6 (.st (.pr (.x y0) (.pr (.x (.sl (.sl (.i .i64)))) (.pr (.x (.sl (.sl (.i .i64)))) (.pr (.st (.pr (.x (.sl y4)) (.pr (.x (.sl y5)) (.pr (.x (.i .i64)) (.pr (.x (.i .i64)) (.pr (.x (.i .i64)) (.pr (.x (.i .i64)) .ni))))))) (.pr (.os y7) .ni))))))])],false,[true,false,false,false],fun p=>match p with|(x_0_t,x_0_old,x_0_now,x_0_p_Moves,x_0_p_Rounds,x_0_p_Miss,x_0_p_Life,x_0_p_From,x_0_p_To,x_0_out,ports_1,k_2,h_3)=>ig x_0_t x_0_old x_0_now x_0_p_Moves x_0_p_Rounds x_0_p_Miss x_0_p_Life x_0_p_From x_0_p_To x_0_out ports_1 k_2 h_3⟩
theorem Uc:cZ prog 62 Td:=cJ mixed dJ (di:=di) (np:=4) (an:=[(7,{j:=some {vs:=[(8,.so 0),(9,.x .b),(22,.x (.i .i64))],os:=[.ar y2]},e:=[(.exit 0,{vs:=[(8,.so 0),(9,.x .b)],os:=[.ar y2]})]}),(16,{j:=some {vs:=[(8,.so 0),(9,.x .b),(29,.x (.i .i64))],os:=[.ar y2],kl:=[13]},e:=[(.exit 2,{vs:=[(8,.so 0),(9,.x .b)],os:=[.ar y2],kl:=[13]})]}),(20,{e:=[(.normal,{vs:=[(8,.so 0),(9,.x .b)],os:=[.ar y2],kl:=[14]})]})]) (.cons R7 (.cons Ud (.cons Qg .nil))) (by kernel_rfl) (by kernel_rfl)
def fB(x_0_old:Sl (Sl Int)):(Int×Sl (Sl Int))->Option ((Int×Sl (Sl Int))⊕(Sl (Sl Int))):=fun(i5,s6)=>
 bif decide (i5<(x_0_old.l.length:Int))then((eX i5 x_0_old.l.length).bind fun n7=>
 (jq (gt x_0_old.l n7)).bind fun s8=>
 (eX i5 s6.l.length).bind fun n9=>
 some (.inl (wr .i64 (i5+1),(Sl.mk (s6.l.set n9 s8)))))else
 (some (.inr s6))
def fA(i50:Int)(s60:Sl (Sl Int)):(Int×Sl (Sl Int)×Sl (Sl Int))->Option ((Int×Sl (Sl Int)×Sl (Sl Int))⊕(Sl (Sl Int)×Sl (Sl Int))):=fun(i67,s68,s69)=>
 bif decide (i67<(s60.l.length:Int))then((eX i67 s68.l.length).bind fun n70=>
 (eX i50 ((gt s68.l n70).l).length).bind fun n71=>
 (eX i67 s69.l.length).bind fun n72=>
 some (.inl (wr .i64 (i67+1),(Sl.mk (s68.l.set n70 (gt s68.l n70))),(Sl.mk (s69.l.set n72 (Sl.mk [gt ((gt s68.l n70).l) n71]))))))else
 (some (.inr (s68,s69)))
def eB(x_0_p_Rounds:Sl aj)(n36:Nat)(s52:Sl (Sl Int))(s53:Sl (Sl Int))(s61:Sl am)(s55:Sl aj)(s54:Sl ae)(i50:Int)(x51:ah)(i56:Int)(i57:Int)(i58:Int)(i59:Int):(Int×Sl (Sl Int))->Option ((Int×Sl (Sl Int))⊕(Sl (Sl Int))):=fun(i78,s79)=>
 bif decide (i78<(s54.l.length:Int))then(((eX i78 s54.l.length).bind fun n80=>
 (bif((ae.mL (gt s54.l n80))==i50)then((fx (⟨x51,s52,s53,(⟨s54,s55,i56,i57,i58,i59⟩:dh),s61⟩:bv) (gt s54.l n80)).bind fun r81=>
 bif r81 then((ki (gt x_0_p_Rounds.l n36) (gt s54.l n80)).bind fun r82=>
 some r82)else
 (some false))else
 (some false):Option Bool).bind fun b83=>
 bif b83 then((eX (ae.Sw (gt s54.l n80)) s79.l.length).bind fun n84=>
 (iF (((gt s79.l n84).l)++[ae.oA (gt s54.l n80)])).bind fun l85=>
 (eX (ae.Sw (gt s54.l n80)) s79.l.length).bind fun n86=>
 bif Nat.beq n84 n86 then(some (Sl.mk (s79.l.set n86 (Sl.mk l85))))else(none))else
 (some s79):Option (Sl (Sl Int))).bind fun s87=>
 some (.inl (wr .i64 (i78+1),s87)))else
 (some (.inr s79))
def eA(x_0_p_Rounds:Sl aj)(n36:Nat)(i24:Int)(x25:ah):(Int×ah×Sl (Sl Int)×Sl (Sl Int)×Sl ae×Sl aj×Int×Int×Int×Int×Sl (Sl Int)×Sl am)->Option ((Int×ah×Sl (Sl Int)×Sl (Sl Int)×Sl ae×Sl aj×Int×Int×Int×Int×Sl (Sl Int)×Sl am)⊕(ah×Sl (Sl Int)×Sl (Sl Int)×Sl ae×Sl aj×Int×Int×Int×Int×Sl (Sl Int)×Sl am)):=fun(i50,x51,s52,s53,s54,s55,i56,i57,i58,i59,s60,s61)=>
 bif decide (i50<(((ah.bd x25).l).length:Int))then((zD (Sl.nil:Sl Int) (s60.l.length:Int) (s60.l.length:Int)).bind fun l62=>
 (bD (fA i50 s60) (0,s60,(Sl.mk l62))).bind fun(s73,s74)=>
 (bD (eB x_0_p_Rounds n36 s52 s53 s61 s55 s54 i50 x51 i56 i57 i58 i59) (0,s74)).bind fun s88=>
 (ig x51 s52 s53 s54 s55 i56 i57 i58 i59 s61 s88 i24 i50).bind fun(q89,q90,q91,q92,q93,q94,q95,q96,q97,s98)=>
 some (.inl (wr .i64 (i50+1),q89,q90,q91,q92,q93,q94,q95,q96,q97,s73,s98)))else
 (some (.inr (x51,s52,s53,s54,s55,i56,i57,i58,i59,s60,s61)))
def ez(x_0_p_Rounds:Sl aj)(n36:Nat)(s100:Sl (Sl Int))(s102:Sl ae)(s109:Sl am)(x99:ah)(s101:Sl (Sl Int))(s103:Sl aj)(i104:Int)(i105:Int)(i106:Int)(i107:Int):(Int×Sl (Sl Int))->Option ((Int×Sl (Sl Int))⊕(Sl (Sl Int))):=fun(i113,s114)=>
 bif decide (i113<(s102.l.length:Int))then(((eX i113 s102.l.length).bind fun n115=>
 ((fx (⟨x99,s100,s101,(⟨s102,s103,i104,i105,i106,i107⟩:dh),s109⟩:bv) (gt s102.l n115)).bind fun r116=>
 bif r116 then((ki (gt x_0_p_Rounds.l n36) (gt s102.l n115)).bind fun r117=>
 some r117)else
 (some false):Option Bool).bind fun b118=>
 bif b118 then((eX (ae.Sw (gt s102.l n115)) s114.l.length).bind fun n119=>
 (eX (ae.mL (gt s102.l n115)) ((gt s114.l n119).l).length).bind fun n120=>
 some (Sl.mk (s114.l.set n119 (Sl.mk (((gt s114.l n119).l).set n120 (ae.oA (gt s102.l n115)))))))else
 (some s114):Option (Sl (Sl Int))).bind fun s121=>
 some (.inl (wr .i64 (i113+1),s121)))else
 (some (.inr s114))
def ew(x_0_p_Rounds:Sl aj):(Int×ah×Sl (Sl Int)×Sl (Sl Int)×Sl ae×Sl aj×Int×Int×Int×Int×Sl (Sl Int)×Sl am)->Option ((Int×ah×Sl (Sl Int)×Sl (Sl Int)×Sl ae×Sl aj×Int×Int×Int×Int×Sl (Sl Int)×Sl am)⊕(ah×Sl (Sl Int)×Sl (Sl Int)×Sl ae×Sl aj×Int×Int×Int×Int×Sl am)):=fun(i24,x25,s26,s27,s28,s29,i30,i31,i32,i33,s34,s35)=>
 bif decide (i24<(x_0_p_Rounds.l.length:Int))then((eX i24 x_0_p_Rounds.l.length).bind fun n36=>
 (bD (eA x_0_p_Rounds n36 i24 x25) (0,x25,s26,s27,s28,s29,i30,i31,i32,i33,s34,s35)).bind fun(x99,s100,s101,s102,s103,i104,i105,i106,i107,s108,s109)=>
 (bD (ez x_0_p_Rounds n36 s100 s102 s109 x99 s101 s103 i104 i105 i106 i107) (0,s108)).bind fun s122=>
 some (.inl (wr .i64 (i24+1),x99,s100,s101,s102,s103,i104,i105,i106,i107,s122,s109)))else
 (some (.inr (x25,s26,s27,s28,s29,i30,i31,i32,i33,s35)))
def gH(x_0_t:ah)(x_0_old:Sl (Sl Int))(x_0_now:Sl (Sl Int))(x_0_p_Moves:Sl ae)(x_0_p_Rounds:Sl aj)(x_0_p_Miss:Int)(x_0_p_Life:Int)(x_0_p_From:Int)(x_0_p_To:Int)(x_0_out:Sl am):Option (ah×Sl (Sl Int)×Sl (Sl Int)×Sl ae×Sl aj×Int×Int×Int×Int×Sl am):=
 (zD (Sl.nil:Sl Int) (x_0_old.l.length:Int) (x_0_old.l.length:Int)).bind fun l1=>
 (bD (fB x_0_old) (0,(Sl.mk l1))).bind fun s10=>
 (bD (ew x_0_p_Rounds) (0,x_0_t,x_0_old,x_0_now,x_0_p_Moves,x_0_p_Rounds,x_0_p_Miss,x_0_p_Life,x_0_p_From,x_0_p_To,s10,x_0_out)).bind fun(x123,s124,s125,s126,s127,i128,i129,i130,i131,s132)=>
 some (x123,s124,s125,s126,s127,i128,i129,i130,i131,s132)
def Tc:lD:=⟨[(true,.pb y6 (.st (.pr (.x y0) (.pr (.x (.sl (.sl (.i .i64)))) (.pr (.x (.sl (.sl (.i .i64)))) (.pr (.st (.pr (.x (.sl y4)) (.pr (.x (.sl y5)) (.pr (.x (.i .i64)) (.pr (.x (.i .i64)) (.pr (.x (.i .i64)) (.pr (.x (.i .i64)) .ni))))))) (.pr (.os y7) .ni)))))))],[([],[.pb y6 (.st (.pr (.x y0) (.pr (.x (.sl (.sl (.i .i64)))) (.pr (.x (.sl (.sl (.i .i64)))) (.pr (.st (.pr (.x (.sl y4)) (.pr (.x (.sl y5)) (.pr (.x (.i .i64)) (.pr (.x (.i .i64)) (.pr (.x (.i .i64)) (.pr (.x (.i .i64)) .ni))))))) (.pr (.os y7) .ni))))))])],false,[true],fun p=>match p with|(x_0_t,x_0_old,x_0_now,x_0_p_Moves,x_0_p_Rounds,x_0_p_Miss,x_0_p_Life,x_0_p_From,x_0_p_To,x_0_out)=>gH x_0_t x_0_old x_0_now x_0_p_Moves x_0_p_Rounds x_0_p_Miss x_0_p_Life x_0_p_From x_0_p_To x_0_out⟩
theorem Ub:cZ prog 29 Tc:=cJ mixed dJ (di:=TK) (np:=1) (an:=[(5,{j:=some {vs:=[(2,.sr 0),(25,.x (.i .i64))],os:=[.rw (.i .i64)],kl:=[13]},e:=[(.exit 0,{vs:=[(2,.sr 0)],os:=[.rw (.i .i64)],kl:=[13]})]}),(16,{j:=some {vs:=[(0,.op 0 y6 []),(2,.sr 1),(42,.x (.i .i64))],gs:=(.co (.op 0 y6 []) .ni),os:=[.bx y6 (.rc (.co (.x y0) (.co (.x (.sl (.sl (.i .i64)))) (.co (.x (.sl (.sl (.i .i64)))) (.co (.rc (.co (.x (.sl y4)) (.co (.x (.sl y5)) (.co (.x (.i .i64)) (.co (.x (.i .i64)) (.co (.x (.i .i64)) (.co (.x (.i .i64)) .ni))))))) (.co (.so 2) .ni)))))),.rw (.i .i64),.ar y7],kl:=[0,12,14]},e:=[(.exit 2,{gs:=(.co (.op 0 y6 []) .ni),os:=[.bx y6 (.rc (.co (.x y0) (.co (.x (.sl (.sl (.i .i64)))) (.co (.x (.sl (.sl (.i .i64)))) (.co (.rc (.co (.x (.sl y4)) (.co (.x (.sl y5)) (.co (.x (.i .i64)) (.co (.x (.i .i64)) (.co (.x (.i .i64)) (.co (.x (.i .i64)) .ni))))))) (.co (.so 1) .ni)))))),.ar y7],kl:=[0,12,14]})]}),(26,{j:=some {vs:=[(0,.op 0 y6 []),(2,.sr 1),(53,.x (.i .i64))],gs:=(.co (.op 0 y6 []) .ni),os:=[.bx y6 (.rc (.co (.x y0) (.co (.x (.sl (.sl (.i .i64)))) (.co (.x (.sl (.sl (.i .i64)))) (.co (.rc (.co (.x (.sl y4)) (.co (.x (.sl y5)) (.co (.x (.i .i64)) (.co (.x (.i .i64)) (.co (.x (.i .i64)) (.co (.x (.i .i64)) .ni))))))) (.co (.so 2) .ni)))))),.rw (.i .i64),.ar y7],kl:=[15,16,17]},e:=[(.exit 4,{vs:=[(0,.op 0 y6 []),(2,.sr 1)],gs:=(.co (.op 0 y6 []) .ni),os:=[.bx y6 (.rc (.co (.x y0) (.co (.x (.sl (.sl (.i .i64)))) (.co (.x (.sl (.sl (.i .i64)))) (.co (.rc (.co (.x (.sl y4)) (.co (.x (.sl y5)) (.co (.x (.i .i64)) (.co (.x (.i .i64)) (.co (.x (.i .i64)) (.co (.x (.i .i64)) .ni))))))) (.co (.so 2) .ni)))))),.rw (.i .i64),.ar y7],kl:=[15,16,17]})]}),(38,{j:=some {vs:=[(2,.sr 0),(8,.sr 1),(61,.x (.i .i64))],os:=[.rw (.i .i64),.rw (.i .i64)],kl:=[20,22]},e:=[(.exit 6,{vs:=[(2,.sr 0),(8,.sr 1)],os:=[.rw (.i .i64),.rw (.i .i64)],kl:=[20,22]})]}),(50,{j:=some {vs:=[(8,.sr 0),(82,.x (.i .i64))],os:=[.rw (.i .i64)],kl:=[24]},e:=[(.exit 8,{vs:=[(8,.sr 0)],os:=[.rw (.i .i64)],kl:=[24]})]}),(54,{e:=[(.normal,{vs:=[(8,.sr 0)],os:=[.rw (.i .i64)],kl:=[25]})]}),(58,{j:=some {vs:=[(99,.x .b)]}}),(65,{j:=some {vs:=[(2,.sr 0),(126,.x (.i .i64))],os:=[.rw (.i .i64)],kl:=[20]},e:=[(.exit 10,{vs:=[(2,.sr 0)],os:=[.rw (.i .i64)],kl:=[20]})]}),(69,{e:=[(.normal,{vs:=[(2,.sr 0)],os:=[.rw (.i .i64)],kl:=[22]})]}),(73,{j:=some {vs:=[(137,.x .b)]}})]) (.cons Ui (.cons R3 (.cons R4 (.cons Uc .nil)))) (by kernel_rfl) (by kernel_rfl)
def fS(t_0:ah)(old_1:Sl (Sl Int))(now_2:Sl (Sl Int))(p_3:aJ):Option (Sl am):=
 ((ir t_0 old_1).bind fun r1=>
 bif(!r1)then(some true)else
 ((ir t_0 now_2).bind fun r2=>
 some (!r2)):Option Bool).bind fun b3=>
 bif b3 then(some (Sl.mk [(⟨1,0,0⟩:am)]))else
 ((fZ t_0 old_1 now_2 (aJ.jf p_3) (aJ.fo p_3) (aJ.Co p_3) (aJ.JR p_3) (aJ.pT p_3) (aJ.To p_3) Sl.nil).bind fun(q4,q5,q6,q7,q8,q9,q10,q11,q12,s13)=>
 (fY q4 q5 q6 q7 q8 q9 q10 q11 q12 s13).bind fun(q14,q15,q16,q17,q18,q19,q20,q21,q22,s23)=>
 (gH q14 q15 q16 q17 q18 q19 q20 q21 q22 s23).bind fun(q24,q25,q26,q27,q28,q29,q30,q31,q32,s33)=>
 some s33)
def Tb:lD:=⟨[(false,.x y0),(false,.x (.sl (.sl (.i .i64)))),(false,.x (.sl (.sl (.i .i64)))),(false,.x y3)],[([.x (.sl y7)],[])],false,[],fun p=>match p with|(t_0,old_1,now_2,p_3)=>fS t_0 old_1 now_2 p_3⟩
theorem RY:cZ prog 11 Tb:=cJ mixed dJ (di:=di) (np:=4) (an:=[(4,{j:=some {vs:=[(19,.x .b)]}})]) (.cons R5 (.cons Un (.cons Uk (.cons Ub .nil)))) (by kernel_rfl) (by kernel_rfl)
def uB(kind_0:Int):Option ByteArray:=
 bif((decide (kind_0<1))||(decide (kind_0>6)))then(some (⟨#[63]⟩:ByteArray))else
 ((eX (wr .i64 (kind_0-1)) 6).bind fun n1=>
 some (gt ((Arr.set (Arr.set (Arr.set (Arr.set (Arr.set (Arr.set (sd (.ar 6 .s)) 0 (⟨#[119,114,111,110,103]⟩:ByteArray)) 1 (⟨#[109,105,115,115,105,110,103]⟩:ByteArray)) 2 (⟨#[101,120,116,114,97]⟩:ByteArray)) 3 (⟨#[99,108,111,115,101]⟩:ByteArray)) 4 (⟨#[104,111,108,101]⟩:ByteArray)) 5 (⟨#[108,111,111,112]⟩:ByteArray)).1) n1))
def Ta:lD:=⟨[(false,.x (.i .i64))],[([.x .s],[])],true,[],fun p=>match p with|kind_0=>uB kind_0⟩
theorem Ua:cZ prog 14 Ta:=cJ mixed dJ (di:=di) (np:=1) (an:=[]) .nil (by kernel_rfl) (by kernel_rfl)
def jt:Option Bool:=
 (fS (⟨3,(Sl.mk [(⟨0,0,1,0,1,1⟩:bz),(⟨1,1,2,0,1,1⟩:bz),(⟨0,1,2,1,1,1⟩:bz)]),(Sl.mk [(⟨2,7⟩:fQ)])⟩:ah) (Sl.mk [(Sl.mk [0]),(Sl.mk [1]),(Sl.mk [7])]) (Sl.mk [(Sl.mk [1]),(Sl.mk [1]),(Sl.mk [7])]) (⟨Sl.nil,Sl.nil,0,0,0,0⟩:aJ)).bind fun r1=>
 (bif((r1.l.length:Int)==1)then((eX 0 r1.l.length).bind fun n2=>
 bif decide ((gt r1.l n2)=(⟨2,0,0⟩:am))then((uB 6).bind fun r3=>
 bif(r3.toList==(⟨#[108,111,111,112]⟩:ByteArray).toList)then((fS (⟨0,Sl.nil,Sl.nil⟩:ah) Sl.nil Sl.nil (⟨Sl.nil,Sl.nil,0,0,0,0⟩:aJ)).bind fun r4=>
 some ((r4.l.length:Int)==1))else
 (some false))else
 (some false))else
 (some false):Option Bool).bind fun b5=>
 some b5
def S_:lD:=⟨[],[([.x .b],[])],true,[],fun p=>match p with|_=>jt⟩
theorem T_:cZ prog 9 S_:=cJ mixed dJ (di:=di) (np:=0) (an:=[(7,{j:=some {vs:=[(0,.x .b)]}})]) (.cons RY (.cons Ua .nil)) (by kernel_rfl) (by kernel_rfl)
def pY(n_0:Int)(most_1:Int):Option Bool:=some ((decide (n_0>=0))&&(decide (n_0<=most_1)))
def S9:lD:=⟨[(false,.x (.i .i64)),(false,.x (.i .i64))],[([.x .b],[])],true,[],fun p=>match p with|(n_0,most_1)=>pY n_0 most_1⟩
theorem T8:cZ prog 51 S9:=cJ mixed dJ (di:=di) (np:=2) (an:=[]) .nil (by kernel_rfl) (by kernel_rfl)
theorem T7:cZ prog 42 (Bw y4 43 jH):=H6
def jX(old_1:Sl (Sl Int))(now_2:Sl (Sl Int))(i7:Int)(r9:Sl Int):(Int×Sl ae)->Option ((Int×Sl ae)⊕(Sl ae)):=fun(i12,s13)=>
 bif decide (i12<(now_2.l.length:Int))then(((eX i12 now_2.l.length).bind fun n14=>
 (eX i7 ((gt now_2.l n14).l).length).bind fun n15=>
 (eX i12 old_1.l.length).bind fun n16=>
 (eX i7 ((gt old_1.l n16).l).length).bind fun n17=>
 bif((gt ((gt now_2.l n14).l) n15) !=(gt ((gt old_1.l n16).l) n17))then((eX i12 now_2.l.length).bind fun n18=>
 (eX i7 ((gt now_2.l n18).l).length).bind fun n19=>
 (eX i12 r9.l.length).bind fun n20=>
 (iF (s13.l++[(⟨i12,i7,gt ((gt now_2.l n18).l) n19,gt r9.l n20⟩:ae)])).bind fun l21=>
 some (Sl.mk l21))else
 (some s13):Option (Sl ae)).bind fun s22=>
 some (.inl (wr .i64 (i12+1),s22)))else
 (some (.inr s13))
def mU(t_0:ah)(old_1:Sl (Sl Int))(now_2:Sl (Sl Int)):(Int×Sl ae)->Option ((Int×Sl ae)⊕(Sl ae)):=fun(i7,s8)=>
 bif decide (i7<(((ah.bd t_0).l).length:Int))then((lw t_0 now_2 i7).bind fun r9=>
 (bD (jX old_1 now_2 i7 r9) (0,s8)).bind fun s23=>
 some (.inl (wr .i64 (i7+1),s23)))else
 (some (.inr s8))
def mD(t_0:ah)(old_1:Sl (Sl Int))(now_2:Sl (Sl Int)):Option (Sl ae×Int):=
 ((ir t_0 old_1).bind fun r1=>
 bif(!r1)then(some true)else
 ((ir t_0 now_2).bind fun r2=>
 some (!r2)):Option Bool).bind fun b3=>
 bif b3 then(some (Sl.nil,2))else
 ((bD (mU t_0 old_1 now_2) (0,Sl.nil)).bind fun s24=>
 (tY jH s24).bind fun s25=>
 (zZ s25 s24).bind fun _=>
 some (s25,0))
def S8:lD:=⟨[(false,.x y0),(false,.x (.sl (.sl (.i .i64)))),(false,.x (.sl (.sl (.i .i64))))],[([.x (.sl y4),.x (.i .i64)],[])],false,[],fun p=>match p with|(t_0,old_1,now_2)=>mD t_0 old_1 now_2⟩
theorem T6:cZ prog 22 S8:=cJ mixed dJ (di:=di) (np:=3) (an:=[(4,{j:=some {vs:=[(21,.x .b)]}}),(12,{j:=some {vs:=[(8,.so 0),(25,.x (.i .i64))],os:=[.ar y4]},e:=[(.exit 0,{vs:=[(8,.so 0)],os:=[.ar y4]})]}),(23,{j:=some {vs:=[(8,.so 0),(34,.x (.i .i64))],os:=[.ar y4],kl:=[1]},e:=[(.exit 2,{vs:=[(8,.so 0)],os:=[.ar y4],kl:=[1]})]}),(27,{e:=[(.normal,{vs:=[(8,.so 0)],os:=[.ar y4],kl:=[3]})]})]) (.cons R5 (.cons R6 (.cons T7 .nil))) (by kernel_rfl) (by kernel_rfl)
theorem T5:cZ prog 45 (xW (.i .i64) rb):=Kh
theorem T4:cZ prog 46 (B5 (.i .i64) rR):=MF
def mh(l_0:Sl ae):(Int×Sl Int)->Option ((Int×Sl Int)⊕(Sl Int)):=fun(i4,s5)=>
 bif decide (i4<(l_0.l.length:Int))then((eX i4 l_0.l.length).bind fun n6=>
 (iF (s5.l++[ae.vC (gt l_0.l n6)])).bind fun l7=>
 some (.inl (wr .i64 (i4+1),(Sl.mk l7))))else
 (some (.inr s5))
def mT(l_0:Sl ae):Option (Sl Int):=
 (bD (mh l_0) (0,Sl.nil)).bind fun s8=>
 (tY rb s8).bind fun s9=>
 (zZ s9 s8).bind fun _=>
 (Mz rR s9).bind fun s10=>
 some s10
def S7:lD:=⟨[(false,.x (.sl y4))],[([.x (.sl (.i .i64))],[])],false,[],fun p=>match p with|l_0=>mT l_0⟩
theorem T3:cZ prog 41 S7:=cJ mixed dJ (di:=di) (np:=1) (an:=[(7,{j:=some {vs:=[(3,.so 0),(8,.x (.i .i64))],os:=[.ar (.i .i64)]},e:=[(.exit 0,{vs:=[(3,.so 0)],os:=[.ar (.i .i64)]})]})]) (.cons T5 (.cons T4 .nil)) (by kernel_rfl) (by kernel_rfl)
def rC(a_0:bG)(c_1:Int):Option Bool:=some ((((((decide ((bG.I a_0)<0))||(decide ((bG.I a_0)>=c_1)))||(decide ((bG.J a_0)<0)))||(decide ((bG.J a_0)>=c_1)))||(decide ((bG.SN a_0)<(-1073741824))))||(decide ((bG.SN a_0)>1073741824)))
def S6:lD:=⟨[(false,.x y7),(false,.pt (.i .i64))],[([.x .b],[])],true,[],fun p=>match p with|(a_0,c_1)=>rC a_0 c_1⟩
theorem T2:cZ prog 135 S6:=cJ mixed dJ (di:=di) (np:=2) (an:=[]) .nil (by kernel_rfl) (by kernel_rfl)
def cg(s_0:Sl bG)(f_1_c0:Int):Int->Option (Int⊕(Int⊕Unit)):=fun i2=>
 bif decide (i2<(s_0.l.length:Int))then((eX i2 s_0.l.length).bind fun n3=>
 (rC (gt s_0.l n3) f_1_c0).bind fun r4=>
 bif r4 then(some (.inr (.inl i2)))else
 (some (.inl (wr .i64 (i2+1)))))else
 (some (.inr (.inr ())))
def dn(s_0:Sl bG)(f_1_c0:Int):Option Int:=
 (bD (cg s_0 f_1_c0) 0).bind fun
 |.inl i5=>(some i5)
 |.inr _=>(some (-1))
def S5:lD:=⟨[(false,.x (.sl y7)),(false,.fn 135 (.pr (.pt (.i .i64)) .ni))],[([.x (.i .i64)],[])],true,[],fun p=>match p with|(s_0,f_1_c0)=>dn s_0 f_1_c0⟩
theorem T1:cZ prog 138 S5:=cJ mixed dJ (di:=di) (np:=2) (an:=[(5,{j:=some {vs:=[(8,.x (.i .i64))]},e:=[(.ret,{vs:=[(4,.x (.i .i64))]}),(.exit 0,{})]})]) (.cons T2 .nil) (by kernel_rfl) (by kernel_rfl)
def dg(s_0:Sl bG)(f_1_c0:Int):Option Bool:=
 (dn s_0 f_1_c0).bind fun r1=>
 some (decide (r1>=0))
def S4:lD:=⟨[(false,.x (.sl y7)),(false,.fn 135 (.pr (.pt (.i .i64)) .ni))],[([.x .b],[])],true,[],fun p=>match p with|(s_0,f_1_c0)=>dg s_0 f_1_c0⟩
theorem T0:cZ prog 134 S4:=cJ mixed dJ (di:=di) (np:=2) (an:=[]) (.cons T1 .nil) (by kernel_rfl) (by kernel_rfl)
def rD(n_0:Int)(l_1:Sl bG):Option Bool:=
 bif(((decide (n_0<0))||(decide (n_0>64)))||(decide ((l_1.l.length:Int)>256)))then(some false)else
 ((dg l_1 n_0).bind fun r1=>
 some (!r1))
def SZ:lD:=⟨[(false,.x (.i .i64)),(false,.x (.sl y7))],[([.x .b],[])],true,[],fun p=>match p with|(n_0,l_1)=>rD n_0 l_1⟩
theorem TZ:cZ prog 122 SZ:=cJ mixed dJ (di:=di) (np:=2) (an:=[]) (.cons T0 .nil) (by kernel_rfl) (by kernel_rfl)
def iE(l_1:Sl bG):(Int×Int×Sl Int×Sl Int)->Option ((Int×Int×Sl Int×Sl Int)⊕(Int×Sl Int×Sl Int)):=fun(i19,i20,s21,s22)=>
 bif decide (i20<(l_1.l.length:Int))then(((eX i20 l_1.l.length).bind fun n23=>
 (eX (bG.I (gt l_1.l n23)) s21.l.length).bind fun n24=>
 (eX (bG.J (gt l_1.l n23)) s21.l.length).bind fun n25=>
 bif decide ((wr .i64 ((gt s21.l n24)+(bG.SN (gt l_1.l n23))))>(gt s21.l n25))then((eX (bG.J (gt l_1.l n23)) s21.l.length).bind fun n26=>
 (eX (bG.J (gt l_1.l n23)) s22.l.length).bind fun n27=>
 some (bG.J (gt l_1.l n23),(Sl.mk (s21.l.set n26 (wr .i64 ((gt s21.l n24)+(bG.SN (gt l_1.l n23)))))),(Sl.mk (s22.l.set n27 i20))))else
 (some (i19,s21,s22)):Option (Int×Sl Int×Sl Int)).bind fun(i28,s29,s30)=>
 some (.inl (i28,wr .i64 (i20+1),s29,s30)))else
 (some (.inr (i19,s21,s22)))
def nc(n_0:Int)(l_1:Sl bG):(Int×Int×Sl Int×Sl Int)->Option ((Int×Int×Sl Int×Sl Int)⊕(Int×Sl Int×Sl Int)):=fun(i9,i10,s11,s12)=>
 bif decide (i10<(wr .i64 (n_0+1)))then((bD (iE l_1) ((-1),0,s11,s12)).bind fun(i31,s32,s33)=>
 bif decide (i31<0)then(some (.inr (i31,s32,s33)))else
 (some (.inl (i31,wr .i64 (i10+1),s32,s33))))else
 (some (.inr (i9,s11,s12)))
def tK(n_0:Int)(l_1:Sl bG):Option (Sl Int×Sl Int×Int):=
 (zD 0 n_0 n_0).bind fun l1=>
 (zD 0 n_0 n_0).bind fun l2=>
 (bD (nc n_0 l_1) ((-1),0,(Sl.mk l1),(Sl.mk l2))).bind fun(i34,s35,s36)=>
 some (s35,s36,i34)
def SY:lD:=⟨[(false,.x (.i .i64)),(false,.x (.sl y7))],[([.x (.sl (.i .i64)),.x (.sl (.i .i64)),.x (.i .i64)],[])],false,[],fun p=>match p with|(n_0,l_1)=>tK n_0 l_1⟩
theorem TY:cZ prog 123 SY:=cJ mixed dJ (di:=di) (np:=2) (an:=[(10,{j:=some {vs:=[(7,.so 0),(8,.so 1),(9,.x (.i .i64)),(19,.x (.i .i64))],os:=[.ar (.i .i64),.ar (.i .i64)],kl:=[1000000,3000000]},e:=[(.exit 0,{vs:=[(7,.so 0),(8,.so 1),(9,.x (.i .i64))],os:=[.ar (.i .i64),.ar (.i .i64)],kl:=[1000000,3000000]})]}),(20,{j:=some {vs:=[(7,.so 0),(8,.so 1),(9,.x (.i .i64)),(23,.x (.i .i64))],os:=[.ar (.i .i64),.ar (.i .i64)],kl:=[6000000,6000001]},e:=[(.exit 2,{vs:=[(7,.so 0),(8,.so 1),(9,.x (.i .i64))],os:=[.ar (.i .i64),.ar (.i .i64)],kl:=[6000000,6000001]})]}),(24,{e:=[(.normal,{vs:=[(7,.so 0),(8,.so 1),(9,.x (.i .i64))],os:=[.ar (.i .i64),.ar (.i .i64)],kl:=[6000002,6000003]})]})]) .nil (by kernel_rfl) (by kernel_rfl)
def qq(n_0:Int)(l_1:Sl bG):Option (Sl Int×Bool):=
 (rD n_0 l_1).bind fun r1=>
 bif(!r1)then(some (Sl.nil,false))else
 ((tK n_0 l_1).bind fun(r2,r3,r4)=>
 bif decide (r4>=0)then(some (Sl.nil,false))else
 (some (r2,true)))
def SX:lD:=⟨[(false,.x (.i .i64)),(false,.x (.sl y7))],[([.x (.sl (.i .i64)),.x .b],[])],false,[],fun p=>match p with|(n_0,l_1)=>qq n_0 l_1⟩
theorem TX:cZ prog 86 SX:=cJ mixed dJ (di:=di) (np:=2) (an:=[]) (.cons TZ (.cons TY .nil)) (by kernel_rfl) (by kernel_rfl)
def lW(n_0:Int)(gap_1:Int):(Int×Sl bG)->Option ((Int×Sl bG)⊕(Sl bG)):=fun(i4,s5)=>
 bif decide (i4<n_0)then((iF (s5.l++[(⟨wr .i64 (i4-1),i4,gap_1⟩:bG)])).bind fun l6=>
 some (.inl (wr .i64 (i4+1),(Sl.mk l6))))else
 (some (.inr s5))
def pu(n_0:Int)(gap_1:Int):Option (Sl Int):=
 (bD (lW n_0 gap_1) (1,Sl.nil)).bind fun s7=>
 (qq n_0 s7).bind fun(r8,r9)=>
 some r8
def SW:lD:=⟨[(false,.x (.i .i64)),(false,.x (.i .i64))],[([.x (.sl (.i .i64))],[])],false,[],fun p=>match p with|(n_0,gap_1)=>pu n_0 gap_1⟩
theorem TW:cZ prog 53 SW:=cJ mixed dJ (di:=di) (np:=2) (an:=[(7,{j:=some {vs:=[(5,.so 0),(6,.x (.i .i64))],os:=[.ar y7]},e:=[(.exit 0,{vs:=[(5,.so 0)],os:=[.ar y7]})]})]) (.cons TX .nil) (by kernel_rfl) (by kernel_rfl)
def k8(l_0:Sl ae)(round_1:Int):(Int×Sl Int)->Option ((Int×Sl Int)⊕(Sl Int)):=fun(i4,s5)=>
 bif decide (i4<(l_0.l.length:Int))then(((eX i4 l_0.l.length).bind fun n6=>
 (bif((ae.vC (gt l_0.l n6))==round_1)then((cN s5 (ae.Sw (gt l_0.l n6))).bind fun r7=>
 some (!r7))else
 (some false):Option Bool).bind fun b8=>
 bif b8 then((iF (s5.l++[ae.Sw (gt l_0.l n6)])).bind fun l9=>
 some (Sl.mk l9))else
 (some s5):Option (Sl Int)).bind fun s10=>
 some (.inl (wr .i64 (i4+1),s10)))else
 (some (.inr s5))
def uY(l_0:Sl ae)(round_1:Int):Option (Sl Int):=
 (bD (k8 l_0 round_1) (0,Sl.nil)).bind fun s11=>
 some s11
def SV:lD:=⟨[(false,.x (.sl y4)),(false,.x (.i .i64))],[([.x (.sl (.i .i64))],[])],false,[],fun p=>match p with|(l_0,round_1)=>uY l_0 round_1⟩
theorem TU:cZ prog 55 SV:=cJ mixed dJ (di:=di) (np:=2) (an:=[(7,{j:=some {vs:=[(5,.so 0),(10,.x (.i .i64))],os:=[.ar (.i .i64)]},e:=[(.exit 0,{vs:=[(5,.so 0)],os:=[.ar (.i .i64)]})]}),(11,{e:=[(.normal,{vs:=[(5,.so 0)],os:=[.ar (.i .i64)],kl:=[0]})]}),(15,{j:=some {vs:=[(24,.x .b)]}})]) (.cons N1 .nil) (by kernel_rfl) (by kernel_rfl)
def mS(at_3:Int)(miss_4:Int)(lead_5:Int)(r5:Sl ae)(r7:Int)(r8:Sl Int)(r10:Sl Int):(Int×Sl ae×Int×Int×Int×Int×Sl aj)->Option ((Int×Sl ae×Int×Int×Int×Int×Sl aj)⊕(Sl ae×Int×Int×Int×Int×Sl aj)):=fun(i19,s20,i21,i22,i23,i24,s25)=>
 bif decide (i19<(r10.l.length:Int))then((eX i19 r10.l.length).bind fun n26=>
 (eX i19 r8.l.length).bind fun n27=>
 (eX i19 r8.l.length).bind fun n28=>
 (uY r5 (gt r8.l n28)).bind fun r29=>
 (iF (s25.l++[(⟨gt r8.l n27,wr .i64 ((wr .i64 ((wr .i64 ((wr .i64 ((wr .i64 (at_3+lead_5))+miss_4))+r7))+1))+(gt r10.l n26)),r29⟩:aj)])).bind fun l30=>
 some (.inl (wr .i64 (i19+1),s20,i21,i22,i23,i24,(Sl.mk l30))))else
 (some (.inr (s20,i21,i22,i23,i24,s25)))
def lx(t_0:ah)(old_1:Sl (Sl Int))(now_2:Sl (Sl Int))(at_3:Int)(miss_4:Int)(lead_5:Int):Option (aJ×Int):=
 ((pY at_3 1099511627776).bind fun r1=>
 bif(!r1)then(some true)else
 ((pY miss_4 1048576).bind fun r2=>
 bif(!r2)then(some true)else
 ((pY lead_5 1048576).bind fun r3=>
 some (!r3))):Option Bool).bind fun b4=>
 bif b4 then(some ((⟨Sl.nil,Sl.nil,0,0,0,0⟩:aJ),2))else
 ((mD t_0 old_1 now_2).bind fun(r5,r6)=>
 bif(r6 !=0)then(some ((⟨Sl.nil,Sl.nil,0,0,0,0⟩:aJ),r6))else
 (bif((r5.l.length:Int)==0)then(some ((⟨Sl.nil,Sl.nil,0,0,0,0⟩:aJ),7))else
 ((nI t_0).bind fun r7=>
 (mT r5).bind fun r8=>
 (od t_0 miss_4).bind fun r9=>
 (pu (r8.l.length:Int) r9).bind fun r10=>
 (bD (mS at_3 miss_4 lead_5 r5 r7 r8 r10) (0,r5,miss_4,r7,0,0,Sl.nil)).bind fun(s31,i32,i33,i34,i35,s36)=>
 (eX (wr .i64 ((s36.l.length:Int)-1)) s36.l.length).bind fun n37=>
 bif decide ((wr .i64 ((aj.At (gt s36.l n37))+miss_4))>1099511627776)then(some ((⟨Sl.nil,Sl.nil,0,0,0,0⟩:aJ),11))else
 (some ((⟨s31,s36,i32,i33,wr .i64 ((wr .i64 ((wr .i64 ((wr .i64 ((wr .i64 ((wr .i64 (at_3+lead_5))+miss_4))+r7))+1))-miss_4))-i33),wr .i64 ((aj.At (gt s36.l n37))+miss_4)⟩:dh),0)))))
def SU:lD:=⟨[(false,.x y0),(false,.x (.sl (.sl (.i .i64)))),(false,.x (.sl (.sl (.i .i64)))),(false,.x (.i .i64)),(false,.x (.i .i64)),(false,.x (.i .i64))],[([.x y3,.x (.i .i64)],[])],false,[],fun p=>match p with|(t_0,old_1,now_2,at_3,miss_4,lead_5)=>lx t_0 old_1 now_2 at_3 miss_4 lead_5⟩
theorem TT:cZ prog 26 SU:=cJ mixed dJ (di:=di) (np:=6) (an:=[(4,{j:=some {vs:=[(33,.x .b)]}}),(27,{j:=some {vs:=[(16,.op 0 y3 []),(75,.x (.i .i64))],os:=[.bx y3 (.rc (.co (.x (.sl y4)) (.co (.so 1) (.co (.x (.i .i64)) (.co (.x (.i .i64)) (.co (.x (.i .i64)) (.co (.x (.i .i64)) .ni))))))),.ar y5],kl:=[5]},e:=[(.exit 1,{vs:=[(16,.op 0 y3 [])],os:=[.bx y3 (.rc (.co (.x (.sl y4)) (.co (.so 1) (.co (.x (.i .i64)) (.co (.x (.i .i64)) (.co (.x (.i .i64)) (.co (.x (.i .i64)) .ni))))))),.ar y5],kl:=[5]})]})]) (.cons T8 (.cons T6 (.cons R1 (.cons T3 (.cons R0 (.cons TW (.cons TU .nil))))))) (by kernel_rfl) (by kernel_rfl)
def nJ(t_0:ah)(old_1:Sl (Sl Int))(now_2:Sl (Sl Int))(at_3:Int)(miss_4:Int)(lead_5:Int)(k_6:Int):Option Bool:=
 ((ol t_0 old_1).bind fun r1=>
 bif(!r1)then(some true)else
 ((ol t_0 now_2).bind fun r2=>
 some (!r2)):Option Bool).bind fun b3=>
 bif b3 then((jt).bind fun r4=>
 some r4)else
 ((lx t_0 old_1 now_2 at_3 miss_4 lead_5).bind fun(r5,r6)=>
 bif(((r6 !=0)||(decide (k_6<0)))||(decide (k_6>=(((aJ.jf r5).l).length:Int))))then((jt).bind fun r7=>
 some r7)else
 ((qr ((aJ.jf r5).l) 0 k_6).bind fun l8=>
 (iF ([]++(((aJ.jf r5).to l8).l))).bind fun l9=>
 (qr ((aJ.jf r5).l) (wr .i64 (k_6+1)) ((aJ.jf r5).l).length).bind fun l10=>
 (iF (((kL Sl.nil (((aJ.jf r5).to l8).l) l9).l)++(((aJ.jf r5).to l10).l))).bind fun l11=>
 (fS t_0 old_1 now_2 (⟨(kL (kL Sl.nil (((aJ.jf r5).to l8).l) l9) (((aJ.jf r5).to l10).l) l11),aJ.fo r5,aJ.Co r5,aJ.JR r5,aJ.pT r5,aJ.To r5⟩:dh)).bind fun r12=>
 (bif((r12.l.length:Int)==0)then(some true)else
 ((eX 0 r12.l.length).bind fun n13=>
 (eX k_6 ((aJ.jf r5).l).length).bind fun n14=>
 (eX k_6 ((aJ.jf r5).l).length).bind fun n15=>
 some (!(decide ((gt r12.l n13)=(⟨2,ae.Sw (gt ((aJ.jf r5).l) n14),ae.mL (gt ((aJ.jf r5).l) n15)⟩:am))))):Option Bool).bind fun b16=>
 bif b16 then(some false)else
 (bif((k_6==0)||(decide (k_6>=(((aJ.fo r5).l).length:Int))))then((jt).bind fun r17=>
 some r17)else
 ((iF ([]++((aJ.fo r5).l))).bind fun l18=>
 (eX (wr .i64 (k_6-1)) ((kL Sl.nil ((aJ.fo r5).l) l18).l).length).bind fun n19=>
 (eX k_6 ((kL Sl.nil ((aJ.fo r5).l) l18).l).length).bind fun n20=>
 (fS t_0 old_1 now_2 (⟨aJ.jf r5,(Sl.mk (((kL Sl.nil ((aJ.fo r5).l) l18).l).set n20 (⟨aj.No (gt ((kL Sl.nil ((aJ.fo r5).l) l18).l) n20),aj.At (gt ((kL Sl.nil ((aJ.fo r5).l) l18).l) n19),aj.SC (gt ((kL Sl.nil ((aJ.fo r5).l) l18).l) n20)⟩:aj))),aJ.Co r5,aJ.JR r5,aJ.pT r5,aJ.To r5⟩:dh)).bind fun r21=>
 (bif((r21.l.length:Int)==1)then((eX 0 r21.l.length).bind fun n22=>
 bif decide ((gt r21.l n22)=(⟨4,k_6,0⟩:am))then((jt).bind fun r23=>
 some r23)else
 (some false))else
 (some false):Option Bool).bind fun b24=>
 some b24))))
def SS:lD:=⟨[(false,.x y0),(false,.x (.sl (.sl (.i .i64)))),(false,.x (.sl (.sl (.i .i64)))),(false,.x (.i .i64)),(false,.x (.i .i64)),(false,.x (.i .i64)),(false,.x (.i .i64))],[([.x .b],[])],true,[],fun p=>match p with|(t_0,old_1,now_2,at_3,miss_4,lead_5,k_6)=>nJ t_0 old_1 now_2 at_3 miss_4 lead_5 k_6⟩
theorem TS:cZ prog 7 SS:=cJ mixed dJ (di:=di) (np:=7) (an:=[(4,{j:=some {vs:=[(29,.x .b)]}}),(28,{j:=some {vs:=[(97,.x .b)]}}),(47,{j:=some {vs:=[(14,.x .b)]}})]) (.cons Uw (.cons T_ (.cons TT (.cons RY .nil)))) (by kernel_rfl) (by kernel_rfl)
end Go.Proofs.YthcplpfiidlinaaDoor.J
