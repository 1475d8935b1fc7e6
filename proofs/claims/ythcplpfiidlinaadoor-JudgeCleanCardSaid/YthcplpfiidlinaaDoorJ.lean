/- What functions of the program compute, and that the model's run computes it. Conditions: as stated. -/
import Derived.Test.YthcplpfiidlinaaDoorJS
import Derived.Test.YthcplpfiidlinaaDoorChecked
import Derived.KernelRfl
open Go.Ev Go
noncomputable section
open Option.some renaming inj->aa
namespace Go.Proofs.YthcplpfiidlinaaDoor.J
abbrev prog:Program:=Tryd.prog
theorem mixed:prog.follows .mixedOrders=true:=by kernel_rfl
def HM:Arr 32 Int:=⟨[0,1,28,2,29,14,24,3,30,22,20,15,25,17,4,8,31,27,13,23,21,19,16,7,26,12,18,6,11,5,10,9],rfl⟩
theorem dK:lH:=Hg (v:=.pt (.ar 32 (.i .u8)) HM) (fun g w h=>by
 unfold LG at h;split at h
 .rename_i e;exact⟨e,(aa h).symm⟩
 .cases h) rfl (fun h n=>⟨ci (dR rfl ⟨rfl,rfl⟩),trivial,rfl⟩)
def dg:Ah:=fun f=>if f=3 then(true,[])else if f=4 then(true,[])else if f=6 then(true,[])else if f=7 then(true,[])else if f=8 then(true,[])else if f=9 then(true,[])else if f=10 then(true,[])else if f=14 then(true,[])else if f=15 then(true,[])else if f=16 then(true,[])else if f=18 then(true,[])else if f=19 then(true,[])else if f=20 then(true,[])else if f=24 then(true,[])else if f=27 then(false,[true])else if f=28 then(false,[true])else if f=29 then(false,[true])else if f=34 then(true,[])else if f=35 then(true,[])else if f=37 then(true,[])else if f=38 then(true,[])else if f=39 then(true,[])else if f=42 then(false,[true,false])else if f=45 then(false,[true])else if f=46 then(false,[true])else if f=47 then(true,[])else if f=49 then(true,[])else if f=50 then(true,[])else if f=51 then(true,[])else if f=52 then(true,[])else if f=54 then(true,[])else if f=56 then(true,[])else if f=57 then(false,[true,false,false,false,false])else if f=58 then(true,[])else if f=59 then(true,[])else if f=61 then(true,[])else if f=62 then(false,[true,false,false,false])else if f=63 then(true,[])else if f=64 then(true,[])else if f=65 then(true,[])else if f=66 then(true,[])else if f=69 then(true,[])else if f=70 then(true,[])else if f=71 then(true,[])else if f=72 then(true,[])else if f=74 then(true,[])else if f=75 then(true,[])else if f=76 then(true,[])else if f=85 then(true,[])else if f=87 then(true,[])else if f=88 then(true,[])else if f=89 then(true,[])else if f=90 then(true,[])else if f=91 then(true,[])else if f=92 then(true,[])else if f=93 then(true,[])else if f=95 then(true,[])else if f=96 then(true,[])else if f=97 then(true,[])else if f=98 then(true,[])else if f=99 then(true,[])else if f=100 then(true,[])else if f=101 then(true,[])else if f=122 then(true,[])else if f=124 then(true,[])else if f=125 then(true,[])else if f=134 then(true,[])else if f=135 then(true,[])else if f=138 then(true,[])else(false,[])
def TF:Ah:=fun f=>if f=1000000000 then(true,[])else dg f
@[reducible] def bw:Type:=Int×Int×Int×Int×Int×Int
@[reducible] def bw.A (x:bw):Int:=x.1
@[reducible] def bw.nq (x:bw):Int:=x.2.1
@[reducible] def bw.B (x:bw):Int:=x.2.2.1
@[reducible] def bw.nn (x:bw):Int:=x.2.2.2.1
@[reducible] def bw.w9 (x:bw):Int:=x.2.2.2.2.1
@[reducible] def bw.pP (x:bw):Int:=x.2.2.2.2.2
@[reducible] def fK:Type:=Int×Int
@[reducible] def fK.At (x:fK):Int:=x.1
@[reducible] def fK.ot (x:fK):Int:=x.2
@[reducible] def ah:Type:=Int×Sl bw×Sl fK
@[reducible] def ah.bo (x:ah):Int:=x.1
@[reducible] def ah.bS (x:ah):Sl bw:=x.2.1
@[reducible] def ah.bf (x:ah):Sl fK:=x.2.2
@[reducible] def Fi:Type:=Int×Int×Int×Int
@[reducible] def C3:Type:=Int×Int×Sl Int
@[reducible] def dq:Type:=Sl Fi×Sl C3×Int×Int×Int×Int
@[reducible] def y1:Ty:=.st (.pr (.i .i64) (.pr (.i .i64) (.pr (.i .i64) (.pr (.i .i64) (.pr (.i .i64) (.i .i64))))))
@[reducible] def y2:Ty:=.st (.pr (.i .i64) (.i .i64))
@[reducible] def y0:Ty:=.st (.pr (.i .i64) (.pr (.sl y1) (.sl y2)))
@[reducible] def y4:Ty:=.st (.pr (.i .i64) (.pr (.i .i64) (.pr (.i .i64) (.i .i64))))
@[reducible] def y5:Ty:=.st (.pr (.i .i64) (.pr (.i .i64) (.sl (.i .i64))))
@[reducible] def y3:Ty:=.st (.pr (.sl y4) (.pr (.sl y5) (.pr (.i .i64) (.pr (.i .i64) (.pr (.i .i64) (.i .i64))))))
@[reducible] def ae:Type:=Int×Int×Int×Int
@[reducible] def ae.Sw (x:ae):Int:=x.1
@[reducible] def ae.nh (x:ae):Int:=x.2.1
@[reducible] def ae.ot (x:ae):Int:=x.2.2.1
@[reducible] def ae.vD (x:ae):Int:=x.2.2.2
@[reducible] def aj:Type:=Int×Int×Sl Int
@[reducible] def aj.No (x:aj):Int:=x.1
@[reducible] def aj.At (x:aj):Int:=x.2.1
@[reducible] def aj.UI (x:aj):Sl Int:=x.2.2
@[reducible] def bh:Type:=Sl ae×Sl aj×Int×Int×Int×Int
@[reducible] def bh.qR (x:bh):Sl ae:=x.1
@[reducible] def bh.gO (x:bh):Sl aj:=x.2.1
@[reducible] def bh.MT (x:bh):Int:=x.2.2.1
@[reducible] def bh.Rf (x:bh):Int:=x.2.2.2.1
@[reducible] def bh.rJ (x:bh):Int:=x.2.2.2.2.1
@[reducible] def bh.To (x:bh):Int:=x.2.2.2.2.2
@[reducible] def bm:Type:=Int×Int
@[reducible] def bm.sw (x:bm):Int:=x.1
@[reducible] def bm.zS (x:bm):Int:=x.2
@[reducible] def aq:Type:=Int×Int×Int
@[reducible] def bt:Type:=ah×Sl (Sl Int)×Sl (Sl Int)×bh×Sl aq
@[reducible] def bt.t (x:bt):ah:=x.1
@[reducible] def bt.p (x:bt):bh:=x.2.2.2.1
@[reducible] def y7:Ty:=.st (.pr (.i .i64) (.pr (.i .i64) (.i .i64)))
@[reducible] def y6:Ty:=.st (.pr y0 (.pr (.sl (.sl (.i .i64))) (.pr (.sl (.sl (.i .i64))) (.pr y3 (.sl y7)))))
@[reducible] def aP:Type:=Int×Int
@[reducible] def aP.rJ (x:aP):Int:=x.1
@[reducible] def aP.To (x:aP):Int:=x.2
@[reducible] def bI:Type:=Int×Int×Int
@[reducible] def bI.I (x:bI):Int:=x.1
@[reducible] def bI.J (x:bI):Int:=x.2.1
@[reducible] def bI.SI (x:bI):Int:=x.2.2
def mP(r_1:Sl (Sl Int)):Int->Option (Int⊕(Bool⊕Unit)):=fun i2=>
 bif decide (i2<(r_1.l.length:Int))then((fw i2 r_1.l.length).bind fun n3=>
 bif decide ((((gt r_1.l n3).l).length:Int)>12)then(some (.inr (.inl false)))else
 (some (.inl (wr .i64 (i2+1)))))else
 (some (.inr (.inr ())))
def n_(t_0:ah)(r_1:Sl (Sl Int)):Option Bool:=
 (bE (mP r_1) 0).bind fun
 |.inl b4=>(some b4)
 |.inr _=>(some (((decide ((((ah.bS t_0).l).length:Int)<=30))&&(decide ((((ah.bf t_0).l).length:Int)<=12)))&&(decide ((r_1.l.length:Int)<=12))))
def SC:lD:=⟨[(false,.x y0),(false,.x (.sl (.sl (.i .i64))))],[([.x .b],[])],true,[],fun p=>match p with|(t_0,r_1)=>n_ t_0 r_1⟩
theorem Ur:cV prog 19 SC:=cH mixed dK (dg:=dg) (np:=2) (an:=[(5,{j:=some {vs:=[(5,.x (.i .i64))]},e:=[(.ret,{vs:=[(4,.x .b)]}),(.exit 0,{})]})]) .nil (by kernel_rfl) (by kernel_rfl)
def kW(t_0:ah):(Int×Sl bm)->Option ((Int×Sl bm)⊕(Sl bm)):=fun(i4,s5)=>
 bif decide (i4<(((ah.bS t_0).l).length:Int))then((fw i4 ((ah.bS t_0).l).length).bind fun n6=>
 (jF (s5.l++[(⟨bw.A (gt ((ah.bS t_0).l) n6),bw.nq (gt ((ah.bS t_0).l) n6)⟩:bm),(⟨bw.B (gt ((ah.bS t_0).l) n6),bw.nn (gt ((ah.bS t_0).l) n6)⟩:bm)])).bind fun l7=>
 some (.inl (wr .i64 (i4+1),(Sl.mk l7))))else
 (some (.inr s5))
def kV(t_0:ah):(Int×Sl bm)->Option ((Int×Sl bm)⊕(Sl bm)):=fun(i11,s12)=>
 bif decide (i11<(((ah.bf t_0).l).length:Int))then((fw i11 ((ah.bf t_0).l).length).bind fun n13=>
 (jF (s12.l++[gt ((ah.bf t_0).l) n13])).bind fun l14=>
 some (.inl (wr .i64 (i11+1),(Sl.mk l14))))else
 (some (.inr s12))
def mw(t_0:ah):Option (Sl bm):=
 (bE (kW t_0) (0,Sl.nil)).bind fun s8=>
 (bE (kV t_0) (0,s8)).bind fun s15=>
 some s15
def Tt:lD:=⟨[(false,.x y0)],[([.x (.sl y2)],[])],false,[],fun p=>match p with|t_0=>mw t_0⟩
theorem Ul:cV prog 94 Tt:=cH mixed dK (dg:=dg) (np:=1) (an:=[(7,{j:=some {vs:=[(3,.so 0),(11,.x (.i .i64))],os:=[.ar y2]},e:=[(.exit 0,{vs:=[(3,.so 0)],os:=[.ar y2]})]}),(19,{j:=some {vs:=[(3,.so 0),(32,.x (.i .i64))],os:=[.ar y2],kl:=[1]},e:=[(.exit 2,{vs:=[(3,.so 0)],os:=[.ar y2],kl:=[1]})]})]) .nil (by kernel_rfl) (by kernel_rfl)
def lP(t_0:ah):Int->Option (Int⊕(Bool⊕Unit)):=fun i2=>
 bif decide (i2<(((ah.bS t_0).l).length:Int))then((fw i2 ((ah.bS t_0).l).length).bind fun n3=>
 bif(((((bw.A (gt ((ah.bS t_0).l) n3))==(bw.B (gt ((ah.bS t_0).l) n3)))||(decide ((bw.w9 (gt ((ah.bS t_0).l) n3))<1)))||(decide ((bw.w9 (gt ((ah.bS t_0).l) n3))>(bw.pP (gt ((ah.bS t_0).l) n3)))))||(decide ((bw.pP (gt ((ah.bS t_0).l) n3))>1000)))then(some (.inr (.inl false)))else
 (some (.inl (wr .i64 (i2+1)))))else
 (some (.inr (.inr ())))
def iD(t_0:ah)(r5:Sl bm):(Int×Mp bm Int)->Option ((Int×Mp bm Int)⊕(Bool⊕Unit)):=fun(i9,m10)=>
 bif decide (i9<(r5.l.length:Int))then((fw i9 r5.l.length).bind fun n11=>
 (vd ((lU m10 0 (gt r5.l n11)).1) ((lU m10 0 (gt r5.l n11)).2.2) (wr .i64 ((oP m10 0 (gt r5.l n11))+1))).bind fun m12=>
 bif(((((decide ((bm.sw (gt r5.l n11))<0))||(decide ((bm.sw (gt r5.l n11))>=(ah.bo t_0))))||(decide ((bm.zS (gt r5.l n11))<0)))||(decide ((bm.zS (gt r5.l n11))>=8)))||(decide ((oP m12 0 (gt r5.l n11))>1)))then(some (.inr (.inl false)))else
 (some (.inl (wr .i64 (i9+1),m12))))else
 (some (.inr (.inr ())))
def nu(t_0:ah):Option Bool:=
 bif((((decide ((ah.bo t_0)<1))||(decide ((ah.bo t_0)>8)))||(decide ((((ah.bS t_0).l).length:Int)>24)))||(decide ((((ah.bf t_0).l).length:Int)>8)))then(some false)else
 ((bE (lP t_0) 0).bind fun
 |.inl b4=>(some b4)
 |.inr _=>((mw t_0).bind fun r5=>
 (bE (iD t_0 r5) (0,(Mp.none:Mp bm Int))).bind fun
 |.inl b13=>(some b13)
 |.inr _=>(some true)))
def Tg:lD:=⟨[(false,.x y0)],[([.x .b],[])],true,[],fun p=>match p with|t_0=>nu t_0⟩
theorem Ue:cV prog 69 Tg:=cH mixed dK (dg:=dg) (np:=1) (an:=[(10,{j:=some {vs:=[(31,.x (.i .i64))]},e:=[(.ret,{vs:=[(2,.x .b)]}),(.exit 0,{})]}),(27,{j:=some {vs:=[(5,.om 0),(62,.x (.i .i64))],os:=[.mp y2 (.i .i64)],kl:=[1]},e:=[(.ret,{vs:=[(2,.x .b)],kl:=[1]}),(.exit 2,{kl:=[1]})]})]) (.cons Ul .nil) (by kernel_rfl) (by kernel_rfl)
def qe(p_0:Int):Option Bool:=some ((decide (p_0<0))||(decide (p_0>=8)))
def U0:lD:=⟨[(false,.x (.i .i64))],[([.x .b],[])],true,[],fun p=>match p with|p_0=>qe p_0⟩
theorem U5:cV prog 71 U0:=cH mixed dK (dg:=dg) (np:=1) (an:=[]) .nil (by kernel_rfl) (by kernel_rfl)
def cI(s_0:Sl Int):Int->Option (Int⊕(Int⊕Unit)):=fun i2=>
 bif decide (i2<(s_0.l.length:Int))then((fw i2 s_0.l.length).bind fun n3=>
 (qe (gt s_0.l n3)).bind fun r4=>
 bif r4 then(some (.inr (.inl i2)))else
 (some (.inl (wr .i64 (i2+1)))))else
 (some (.inr (.inr ())))
def cW(s_0:Sl Int):Option Int:=
 (bE (cI s_0) 0).bind fun
 |.inl i5=>(some i5)
 |.inr _=>(some (-1))
def UZ:lD:=⟨[(false,.x (.sl (.i .i64))),(false,.fn 71 .ni)],[([.x (.i .i64)],[])],true,[],fun p=>match p with|s_0=>cW s_0⟩
theorem U4:cV prog 95 UZ:=cH mixed dK (dg:=dg) (np:=2) (an:=[(5,{j:=some {vs:=[(8,.x (.i .i64))]},e:=[(.ret,{vs:=[(4,.x (.i .i64))]}),(.exit 0,{})]})]) (.cons U5 .nil) (by kernel_rfl) (by kernel_rfl)
def bR(s_0:Sl Int):Option Bool:=
 (cW s_0).bind fun r1=>
 some (decide (r1>=0))
def UY:lD:=⟨[(false,.x (.sl (.i .i64))),(false,.fn 71 .ni)],[([.x .b],[])],true,[],fun p=>match p with|s_0=>bR s_0⟩
theorem U3:cV prog 70 UY:=cH mixed dK (dg:=dg) (np:=2) (an:=[]) (.cons U4 .nil) (by kernel_rfl) (by kernel_rfl)
def jT(t_0:ah)(r_1:Sl (Sl Int)):Int->Option (Int⊕(Bool⊕Unit)):=fun i3=>
 bif decide (i3<(r_1.l.length:Int))then((fw i3 r_1.l.length).bind fun n4=>
 (bif((((gt r_1.l n4).l).length:Int) !=(((ah.bf t_0).l).length:Int))then(some true)else
 ((bR (gt r_1.l n4)).bind fun r5=>
 some r5):Option Bool).bind fun b6=>
 bif b6 then(some (.inr (.inl false)))else
 (some (.inl (wr .i64 (i3+1)))))else
 (some (.inr (.inr ())))
def jm(t_0:ah)(r_1:Sl (Sl Int)):Option Bool:=
 (nu t_0).bind fun r1=>
 bif((!r1)||((r_1.l.length:Int) !=(ah.bo t_0)))then(some false)else
 ((bE (jT t_0 r_1) 0).bind fun
 |.inl b7=>(some b7)
 |.inr _=>(some true))
def UX:lD:=⟨[(false,.x y0),(false,.x (.sl (.sl (.i .i64))))],[([.x .b],[])],true,[],fun p=>match p with|(t_0,r_1)=>jm t_0 r_1⟩
theorem T4:cV prog 34 UX:=cH mixed dK (dg:=dg) (np:=2) (an:=[(10,{j:=some {vs:=[(19,.x (.i .i64))]},e:=[(.ret,{vs:=[(4,.x .b)]}),(.exit 0,{})]}),(18,{j:=some {vs:=[(32,.x .b)]}})]) (.cons Ue (.cons U3 .nil)) (by kernel_rfl) (by kernel_rfl)
def mm(r_0:Sl (Sl Int))(sw_1:Int)(h_2:Int):Option (Int×Bool):=
 (bif(((decide (sw_1<0))||(decide (sw_1>=(r_0.l.length:Int))))||(decide (h_2<0)))then(some true)else
 ((fw sw_1 r_0.l.length).bind fun n1=>
 some (decide (h_2>=(((gt r_0.l n1).l).length:Int)))):Option Bool).bind fun b2=>
 bif b2 then(some (0,false))else
 ((fw sw_1 r_0.l.length).bind fun n3=>
 (fw h_2 ((gt r_0.l n3).l).length).bind fun n4=>
 some (gt ((gt r_0.l n3).l) n4,true))
def UW:lD:=⟨[(false,.x (.sl (.sl (.i .i64)))),(false,.x (.i .i64)),(false,.x (.i .i64))],[([.x (.i .i64),.x .b],[])],true,[],fun p=>match p with|(r_0,sw_1,h_2)=>mm r_0 sw_1 h_2⟩
theorem UQ:cV prog 96 UW:=cH mixed dK (dg:=dg) (np:=3) (an:=[(4,{j:=some {vs:=[(28,.x .b)]}})]) .nil (by kernel_rfl) (by kernel_rfl)
def fW(s_0:Sl Int)(v_1:Int):Int->Option (Int⊕(Int⊕Unit)):=fun i2=>
 bif decide (i2<(s_0.l.length:Int))then((fw i2 s_0.l.length).bind fun n3=>
 bif(v_1==(gt s_0.l n3))then(some (.inr (.inl i2)))else
 (some (.inl (wr .i64 (i2+1)))))else
 (some (.inr (.inr ())))
def gY(s_0:Sl Int)(v_1:Int):Option Int:=
 (bE (fW s_0 v_1) 0).bind fun
 |.inl i4=>(some i4)
 |.inr _=>(some (-1))
def UV:lD:=⟨[(false,.x (.sl (.i .i64))),(false,.x (.i .i64))],[([.x (.i .i64)],[])],true,[],fun p=>match p with|(s_0,v_1)=>gY s_0 v_1⟩
theorem U2:cV prog 72 UV:=cH mixed dK (dg:=dg) (np:=2) (an:=[(5,{j:=some {vs:=[(8,.x (.i .i64))]},e:=[(.ret,{vs:=[(4,.x (.i .i64))]}),(.exit 0,{})]})]) .nil (by kernel_rfl) (by kernel_rfl)
def cL(s_0:Sl Int)(v_1:Int):Option Bool:=
 (gY s_0 v_1).bind fun r1=>
 some (decide (r1>=0))
def TE:lD:=⟨[(false,.x (.sl (.i .i64))),(false,.x (.i .i64))],[([.x .b],[])],true,[],fun p=>match p with|(s_0,v_1)=>cL s_0 v_1⟩
theorem NR:cV prog 35 TE:=cH mixed dK (dg:=dg) (np:=2) (an:=[]) (.cons U2 .nil) (by kernel_rfl) (by kernel_rfl)
def ik(l_0:Sl Int):Option Bool:=
 (bif decide ((l_0.l.length:Int)>0)then((tY l_0.l 0 (wr .i64 ((l_0.l.length:Int)-1))).bind fun l1=>
 (fw (wr .i64 ((l_0.l.length:Int)-1)) l_0.l.length).bind fun n2=>
 (cL (l_0.to l1) (gt l_0.l n2)).bind fun r3=>
 some r3)else
 (some false):Option Bool).bind fun b4=>
 some b4
def TD:lD:=⟨[(false,.x (.sl (.i .i64)))],[([.x .b],[])],true,[],fun p=>match p with|l_0=>ik l_0⟩
theorem Uq:cV prog 97 TD:=cH mixed dK (dg:=dg) (np:=1) (an:=[(3,{j:=some {vs:=[(2,.x .b)]}})]) (.cons NR .nil) (by kernel_rfl) (by kernel_rfl)
def mJ(t_0:ah)(sw_1:Int)(port_2:Int):Int->Option (Int⊕((Int×Int×Int×Bool)⊕Unit)):=fun i2=>
 bif decide (i2<(((ah.bS t_0).l).length:Int))then((fw i2 ((ah.bS t_0).l).length).bind fun n3=>
 bif decide ((⟨sw_1,port_2⟩:bm)=(⟨bw.A (gt ((ah.bS t_0).l) n3),bw.nq (gt ((ah.bS t_0).l) n3)⟩:bm))then(some (.inr (.inl (bw.B (gt ((ah.bS t_0).l) n3),bw.nn (gt ((ah.bS t_0).l) n3),i2,true))))else
 (bif decide ((⟨sw_1,port_2⟩:bm)=(⟨bw.B (gt ((ah.bS t_0).l) n3),bw.nn (gt ((ah.bS t_0).l) n3)⟩:bm))then(some (.inr (.inl (bw.A (gt ((ah.bS t_0).l) n3),bw.nq (gt ((ah.bS t_0).l) n3),i2,true))))else
 (some (.inl (wr .i64 (i2+1))))))else
 (some (.inr (.inr ())))
def nv(t_0:ah)(sw_1:Int)(port_2:Int):Option (Int×Int×Int×Bool):=
 (bE (mJ t_0 sw_1 port_2) 0).bind fun
 |.inl (i4,i5,i6,b7)=>(some (i4,i5,i6,b7))
 |.inr _=>(some (0,0,0,false))
def TC:lD:=⟨[(false,.x y0),(false,.x (.i .i64)),(false,.x (.i .i64))],[([.x (.i .i64),.x (.i .i64),.x (.i .i64),.x .b],[])],true,[],fun p=>match p with|(t_0,sw_1,port_2)=>nv t_0 sw_1 port_2⟩
theorem R0:cV prog 89 TC:=cH mixed dK (dg:=dg) (np:=3) (an:=[(7,{j:=some {vs:=[(21,.x (.i .i64))]},e:=[(.ret,{vs:=[(6,.x (.i .i64)),(7,.x (.i .i64)),(8,.x (.i .i64)),(9,.x .b)]}),(.exit 0,{})]})]) .nil (by kernel_rfl) (by kernel_rfl)
def nB(t_0:ah)(r_1:Sl (Sl Int))(sw_2:Int)(h_3:Int):Option (Int×Bool):=
 (mm r_1 sw_2 h_3).bind fun(r1,r2)=>
 bif(!r2)then(some (0,false))else
 ((nv t_0 sw_2 r1).bind fun(r3,r4,r5,r6)=>
 some (r3,r6))
def TB:lD:=⟨[(false,.x y0),(false,.x (.sl (.sl (.i .i64)))),(false,.x (.i .i64)),(false,.x (.i .i64))],[([.x (.i .i64),.x .b],[])],true,[],fun p=>match p with|(t_0,r_1,sw_2,h_3)=>nB t_0 r_1 sw_2 h_3⟩
theorem Up:cV prog 98 TB:=cH mixed dK (dg:=dg) (np:=4) (an:=[]) (.cons UQ (.cons R0 .nil)) (by kernel_rfl) (by kernel_rfl)
def dZ(t_0:ah)(r_1:Sl (Sl Int))(h_3:Int):(Sl Int)->Option (Sl Int⊕((Int×Sl Int)⊕Unit)):=fun s6=>
 (ik s6).bind fun r7=>
 bif(!r7)then((fw (wr .i64 ((s6.l.length:Int)-1)) s6.l.length).bind fun n8=>
 (fw h_3 ((ah.bf t_0).l).length).bind fun n9=>
 (fw (gt s6.l n8) r_1.l.length).bind fun n10=>
 (fw h_3 ((gt r_1.l n10).l).length).bind fun n11=>
 bif decide ((gt ((ah.bf t_0).l) n9)=(⟨gt s6.l n8,gt ((gt r_1.l n10).l) n11⟩:fK))then(some (.inr (.inl (0,s6))))else
 ((nB t_0 r_1 (gt s6.l n8) h_3).bind fun(r12,r13)=>
 bif(!r13)then(some (.inr (.inl (13,Sl.nil))))else
 ((jF (s6.l++[r12])).bind fun l14=>
 some (.inl (Sl.mk l14)))))else
 (some (.inr (.inr ())))
def jy(t_0:ah)(r_1:Sl (Sl Int))(sw_2:Int)(h_3:Int):Option (Sl Int×Int):=
 (mm r_1 sw_2 h_3).bind fun(r1,r2)=>
 (bif(!r2)then(some true)else
 ((jm t_0 r_1).bind fun r3=>
 some (!r3)):Option Bool).bind fun b4=>
 bif b4 then(some (Sl.nil,2))else
 ((bE (dZ t_0 r_1 h_3) (Sl.mk [sw_2])).bind fun
 |.inl (i15,s16)=>(some (s16,i15))
 |.inr _=>(some (Sl.nil,12)))
def TA:lD:=⟨[(false,.x y0),(false,.x (.sl (.sl (.i .i64)))),(false,.x (.i .i64)),(false,.x (.i .i64))],[([.x (.sl (.i .i64)),.x (.i .i64)],[])],false,[],fun p=>match p with|(t_0,r_1,sw_2,h_3)=>jy t_0 r_1 sw_2 h_3⟩
theorem Uo:cV prog 73 TA:=cH mixed dK (dg:=dg) (np:=4) (an:=[(6,{j:=some {vs:=[(30,.x .b)]}}),(12,{j:=some {vs:=[(12,.so 0)],os:=[.ar (.i .i64)],kl:=[3]},e:=[(.ret,{vs:=[(8,.so 0),(9,.x (.i .i64))],os:=[.ar (.i .i64)],kl:=[3]}),(.exit 0,{kl:=[3]})]})]) (.cons UQ (.cons T4 (.cons Uq (.cons Up .nil)))) (by kernel_rfl) (by kernel_rfl)
def gp(t_0:ah)(r_1:Sl (Sl Int))(h_2:Int):(Int×Sl Int)->Option ((Int×Sl Int)⊕(Sl Int)):=fun(i5,s6)=>
 bif decide (i5<(r_1.l.length:Int))then((jy t_0 r_1 i5 h_2).bind fun(r7,r8)=>
 (jF (s6.l++[wr .i64 ((r7.l.length:Int)-1)])).bind fun l9=>
 some (.inl (wr .i64 (i5+1),(Sl.mk l9))))else
 (some (.inr s6))
def lr(t_0:ah)(r_1:Sl (Sl Int))(h_2:Int):Option (Sl Int):=
 (jm t_0 r_1).bind fun r1=>
 bif(((!r1)||(decide (h_2<0)))||(decide (h_2>=(((ah.bf t_0).l).length:Int))))then(some Sl.nil)else
 ((bE (gp t_0 r_1 h_2) (0,Sl.nil)).bind fun s10=>
 some s10)
def Tz:lD:=⟨[(false,.x y0),(false,.x (.sl (.sl (.i .i64)))),(false,.x (.i .i64))],[([.x (.sl (.i .i64))],[])],false,[],fun p=>match p with|(t_0,r_1,h_2)=>lr t_0 r_1 h_2⟩
theorem RZ:cV prog 36 Tz:=cH mixed dK (dg:=dg) (np:=3) (an:=[(12,{j:=some {vs:=[(7,.so 0),(28,.x (.i .i64))],os:=[.ar (.i .i64)]},e:=[(.exit 0,{vs:=[(7,.so 0)],os:=[.ar (.i .i64)]})]})]) (.cons T4 (.cons Uo .nil)) (by kernel_rfl) (by kernel_rfl)
def gT(t_0:ah)(r_1:Sl (Sl Int)):Int->Option (Int⊕(Bool⊕Unit)):=fun i3=>
 bif decide (i3<(((ah.bf t_0).l).length:Int))then((lr t_0 r_1 i3).bind fun r4=>
 (cL r4 (-1)).bind fun r5=>
 bif r5 then(some (.inr (.inl false)))else
 (some (.inl (wr .i64 (i3+1)))))else
 (some (.inr (.inr ())))
def il(t_0:ah)(r_1:Sl (Sl Int)):Option Bool:=
 (jm t_0 r_1).bind fun r1=>
 bif(!r1)then(some false)else
 ((bE (gT t_0 r_1) 0).bind fun
 |.inl b6=>(some b6)
 |.inr _=>(some true))
def Tx:lD:=⟨[(false,.x y0),(false,.x (.sl (.sl (.i .i64))))],[([.x .b],[])],true,[],fun p=>match p with|(t_0,r_1)=>il t_0 r_1⟩
theorem RY:cV prog 16 Tx:=cH mixed dK (dg:=dg) (np:=2) (an:=[(10,{j:=some {vs:=[(13,.x (.i .i64))]},e:=[(.ret,{vs:=[(4,.x .b)]}),(.exit 0,{})]})]) (.cons T4 (.cons RZ (.cons NR .nil))) (by kernel_rfl) (by kernel_rfl)
def kh(r_0:aj)(m_1:ae):Option Bool:=
 (bif((ae.vD m_1)==(aj.No r_0))then((cL (aj.UI r_0) (ae.Sw m_1)).bind fun r1=>
 some r1)else
 (some false):Option Bool).bind fun b2=>
 some b2
def Tw:lD:=⟨[(false,.x y5),(false,.x y4)],[([.x .b],[])],true,[],fun p=>match p with|(r_0,m_1)=>kh r_0 m_1⟩
theorem RX:cV prog 61 Tw:=cH mixed dK (dg:=dg) (np:=2) (an:=[(3,{j:=some {vs:=[(4,.x .b)]}})]) (.cons NR .nil) (by kernel_rfl) (by kernel_rfl)
def iu(r_0:aj)(c_1:ae):Option Bool:=
 (kh r_0 c_1).bind fun r1=>
 some r1
def Tv:lD:=⟨[(false,.x y5),(false,.pt y4)],[([.x .b],[])],true,[],fun p=>match p with|(r_0,c_1)=>iu r_0 c_1⟩
theorem Un:cV prog 88 Tv:=cH mixed dK (dg:=dg) (np:=2) (an:=[]) (.cons RX .nil) (by kernel_rfl) (by kernel_rfl)
def bd(s_0:Sl aj)(f_1_c0:ae):Int->Option (Int⊕(Int⊕Unit)):=fun i2=>
 bif decide (i2<(s_0.l.length:Int))then((fw i2 s_0.l.length).bind fun n3=>
 (iu (gt s_0.l n3) f_1_c0).bind fun r4=>
 bif r4 then(some (.inr (.inl i2)))else
 (some (.inl (wr .i64 (i2+1)))))else
 (some (.inr (.inr ())))
def bD(s_0:Sl aj)(f_1_c0:ae):Option Int:=
 (bE (bd s_0 f_1_c0) 0).bind fun
 |.inl i5=>(some i5)
 |.inr _=>(some (-1))
def Tu:lD:=⟨[(false,.x (.sl y5)),(false,.fn 88 (.pr (.pt y4) .ni))],[([.x (.i .i64)],[])],true,[],fun p=>match p with|(s_0,f_1_c0)=>bD s_0 f_1_c0⟩
theorem Um:cV prog 124 Tu:=cH mixed dK (dg:=dg) (np:=2) (an:=[(5,{j:=some {vs:=[(8,.x (.i .i64))]},e:=[(.ret,{vs:=[(4,.x (.i .i64))]}),(.exit 0,{})]})]) (.cons Un .nil) (by kernel_rfl) (by kernel_rfl)
def bp(s_0:Sl aj)(f_1_c0:ae):Option Bool:=
 (bD s_0 f_1_c0).bind fun r1=>
 some (decide (r1>=0))
def Ts:lD:=⟨[(false,.x (.sl y5)),(false,.fn 88 (.pr (.pt y4) .ni))],[([.x .b],[])],true,[],fun p=>match p with|(s_0,f_1_c0)=>bp s_0 f_1_c0⟩
theorem Uk:cV prog 87 Ts:=cH mixed dK (dg:=dg) (np:=2) (an:=[]) (.cons Um .nil) (by kernel_rfl) (by kernel_rfl)
def eY(x_0:bt)(m_1:ae):Option Bool:=
 (bp (bh.gO (bt.p x_0)) m_1).bind fun r1=>
 some r1
def Tq:lD:=⟨[(false,.pt y6),(false,.x y4)],[([.x .b],[])],true,[],fun p=>match p with|(x_0,m_1)=>eY x_0 m_1⟩
theorem Uj:cV prog 56 Tq:=cH mixed dK (dg:=dg) (np:=2) (an:=[]) (.cons Uk .nil) (by kernel_rfl) (by kernel_rfl)
def bG(x_0_t:ah)(x_0_old:Sl (Sl Int))(x_0_now:Sl (Sl Int))(x_0_p_Moves:Sl ae)(x_0_p_Rounds:Sl aj)(x_0_p_Miss:Int)(x_0_p_Life:Int)(x_0_p_From:Int)(x_0_p_To:Int)(x_0_out:Sl aq)(is_1:Bool)(kind_2:Int)(k_3:Int)(h_4:Int):Option (ah×Sl (Sl Int)×Sl (Sl Int)×Sl ae×Sl aj×Int×Int×Int×Int×Sl aq):=
 bif is_1 then((jF (x_0_out.l++[(⟨kind_2,k_3,h_4⟩:aq)])).bind fun l1=>
 some (x_0_t,x_0_old,x_0_now,x_0_p_Moves,x_0_p_Rounds,x_0_p_Miss,x_0_p_Life,x_0_p_From,x_0_p_To,(Sl.mk l1)))else
 (some (x_0_t,x_0_old,x_0_now,x_0_p_Moves,x_0_p_Rounds,x_0_p_Miss,x_0_p_Life,x_0_p_From,x_0_p_To,x_0_out))
def Tp:lD:=⟨[(true,.pb y6 (.st (.pr (.x y0) (.pr (.x (.sl (.sl (.i .i64)))) (.pr (.x (.sl (.sl (.i .i64)))) (.pr (.st (.pr (.x (.sl y4)) (.pr (.x (.sl y5)) (.pr (.x (.i .i64)) (.pr (.x (.i .i64)) (.pr (.x (.i .i64)) (.pr (.x (.i .i64)) .ni))))))) (.pr (.os y7) .ni))))))),(false,.x .b),(false,.x (.i .i64)),(false,.x (.i .i64)),(false,.x (.i .i64))],[([],[.pb y6 (.st (.pr (.x y0) (.pr (.x (.sl (.sl (.i .i64)))) (.pr (.x (.sl (.sl (.i .i64)))) (.pr (.st (.pr (.x (.sl y4)) (.pr (.x (.sl y5)) (.pr (.x (.i .i64)) (.pr (.x (.i .i64)) (.pr (.x (.i .i64)) (.pr (.x (.i .i64)) .ni))))))) (.pr (.os y7) .ni))))))])],false,[true,false,false,false,false],fun p=>match p with|(x_0_t,x_0_old,x_0_now,x_0_p_Moves,x_0_p_Rounds,x_0_p_Miss,x_0_p_Life,x_0_p_From,x_0_p_To,x_0_out,is_1,kind_2,k_3,h_4)=>bG x_0_t x_0_old x_0_now x_0_p_Moves x_0_p_Rounds x_0_p_Miss x_0_p_Life x_0_p_From x_0_p_To x_0_out is_1 kind_2 k_3 h_4⟩
theorem Qb:cV prog 57 Tp:=cH mixed dK (dg:=dg) (np:=5) (an:=[]) .nil (by kernel_rfl) (by kernel_rfl)
def fr(x_0:bt)(m_1:ae):Option Bool:=some ((((decide ((ae.Sw m_1)>=0))&&(decide ((ae.Sw m_1)<(ah.bo (bt.t x_0)))))&&(decide ((ae.nh m_1)>=0)))&&(decide ((ae.nh m_1)<(((ah.bf (bt.t x_0)).l).length:Int))))
def Tn:lD:=⟨[(false,.pt y6),(false,.x y4)],[([.x .b],[])],true,[],fun p=>match p with|(x_0,m_1)=>fr x_0 m_1⟩
theorem RW:cV prog 58 Tn:=cH mixed dK (dg:=dg) (np:=2) (an:=[]) .nil (by kernel_rfl) (by kernel_rfl)
def dU(i13:Int)(s47:Sl aq)(i43:Int)(i45:Int)(i46:Int)(n48:Nat)(s16:Sl (Sl Int))(n24:Nat)(i37:Int)(x38:ah)(s39:Sl (Sl Int))(s40:Sl (Sl Int))(s41:Sl ae)(s42:Sl aj)(i44:Int):(Int×Int)->Option ((Int×Int)⊕Int):=fun(i51,i52)=>
 bif decide (i52<(s41.l.length:Int))then(((fw i52 s41.l.length).bind fun n53=>
 (bif((((ae.Sw (gt s41.l n53))==i13)&&((ae.nh (gt s41.l n53))==i37))&&((ae.ot (gt s41.l n53))==(gt ((gt s16.l n24).l) n48)))then((eY (⟨x38,s39,s40,(⟨s41,s42,i43,i44,i45,i46⟩:dq),s47⟩:bt) (gt s41.l n53)).bind fun r54=>
 some r54)else
 (some false):Option Bool).bind fun b55=>
 bif b55 then(some (wr .i64 (i51+1)))else
 (some i51):Option Int).bind fun i56=>
 some (.inl (i56,wr .i64 (i52+1))))else
 (some (.inr i51))
def eU(i13:Int)(s16:Sl (Sl Int))(n24:Nat):(Int×ah×Sl (Sl Int)×Sl (Sl Int)×Sl ae×Sl aj×Int×Int×Int×Int×Sl aq)->Option ((Int×ah×Sl (Sl Int)×Sl (Sl Int)×Sl ae×Sl aj×Int×Int×Int×Int×Sl aq)⊕(ah×Sl (Sl Int)×Sl (Sl Int)×Sl ae×Sl aj×Int×Int×Int×Int×Sl aq)):=fun(i37,x38,s39,s40,s41,s42,i43,i44,i45,i46,s47)=>
 bif decide (i37<(((gt s16.l n24).l).length:Int))then((fw i37 ((gt s16.l n24).l).length).bind fun n48=>
 (bE (dU i13 s47 i43 i45 i46 n48 s16 n24 i37 x38 s39 s40 s41 s42 i44) (0,0)).bind fun i57=>
 (fw i13 s39.l.length).bind fun n58=>
 (fw i37 ((gt s39.l n58).l).length).bind fun n59=>
 (bG x38 s39 s40 s41 s42 i43 i44 i45 i46 s47 (((gt ((gt s16.l n24).l) n48) !=(gt ((gt s39.l n58).l) n59))&&(i57 !=1)) 2 i13 i37).bind fun(q60,q61,q62,q63,q64,q65,q66,q67,q68,s69)=>
 some (.inl (wr .i64 (i37+1),q60,q61,q62,q63,q64,q65,q66,q67,q68,s69)))else
 (some (.inr (x38,s39,s40,s41,s42,i43,i44,i45,i46,s47)))
def eT(x_0_now:Sl (Sl Int)):(Int×ah×Sl (Sl Int)×Sl (Sl Int)×Sl ae×Sl aj×Int×Int×Int×Int×Sl aq)->Option ((Int×ah×Sl (Sl Int)×Sl (Sl Int)×Sl ae×Sl aj×Int×Int×Int×Int×Sl aq)⊕(ah×Sl (Sl Int)×Sl (Sl Int)×Sl ae×Sl aj×Int×Int×Int×Int×Sl aq)):=fun(i13,x14,s15,s16,s17,s18,i19,i20,i21,i22,s23)=>
 bif decide (i13<(x_0_now.l.length:Int))then((fw i13 s16.l.length).bind fun n24=>
 (bE (eU i13 s16 n24) (0,x14,s15,s16,s17,s18,i19,i20,i21,i22,s23)).bind fun(x70,s71,s72,s73,s74,i75,i76,i77,i78,s79)=>
 some (.inl (wr .i64 (i13+1),x70,s71,s72,s73,s74,i75,i76,i77,i78,s79)))else
 (some (.inr (x14,s15,s16,s17,s18,i19,i20,i21,i22,s23)))
def eS(s83:Sl ae):(Int×ah×Sl (Sl Int)×Sl (Sl Int)×Sl ae×Sl aj×Int×Int×Int×Int×Sl aq)->Option ((Int×ah×Sl (Sl Int)×Sl (Sl Int)×Sl ae×Sl aj×Int×Int×Int×Int×Sl aq)⊕(ah×Sl (Sl Int)×Sl (Sl Int)×Sl ae×Sl aj×Int×Int×Int×Int×Sl aq)):=fun(i102,x103,s104,s105,s106,s107,i108,i109,i110,i111,s112)=>
 bif decide (i102<(s83.l.length:Int))then((fw i102 s83.l.length).bind fun n113=>
 ((fr (⟨x103,s104,s105,(⟨s106,s107,i108,i109,i110,i111⟩:dq),s112⟩:bt) (gt s83.l n113)).bind fun r114=>
 bif(!r114)then((bG x103 s104 s105 s106 s107 i108 i109 i110 i111 s112 true 3 i102 (ae.nh (gt s83.l n113))).bind fun(q115,q116,q117,q118,q119,q120,q121,q122,q123,s124)=>
 some (q115,q116,q117,q118,q119,q120,q121,q122,q123,s124))else
 ((fw (ae.Sw (gt s83.l n113)) s105.l.length).bind fun n125=>
 (fw (ae.nh (gt s83.l n113)) ((gt s105.l n125).l).length).bind fun n126=>
 bif((gt ((gt s105.l n125).l) n126) !=(ae.ot (gt s83.l n113)))then((bG x103 s104 s105 s106 s107 i108 i109 i110 i111 s112 true 3 i102 (ae.nh (gt s83.l n113))).bind fun(q127,q128,q129,q130,q131,q132,q133,q134,q135,s136)=>
 some (q127,q128,q129,q130,q131,q132,q133,q134,q135,s136))else
 ((fw (ae.Sw (gt s83.l n113)) s104.l.length).bind fun n137=>
 (fw (ae.nh (gt s83.l n113)) ((gt s104.l n137).l).length).bind fun n138=>
 bif((gt ((gt s104.l n137).l) n138)==(ae.ot (gt s83.l n113)))then((bG x103 s104 s105 s106 s107 i108 i109 i110 i111 s112 true 3 i102 (ae.nh (gt s83.l n113))).bind fun(q139,q140,q141,q142,q143,q144,q145,q146,q147,s148)=>
 some (q139,q140,q141,q142,q143,q144,q145,q146,q147,s148))else
 ((eY (⟨x103,s104,s105,(⟨s106,s107,i108,i109,i110,i111⟩:dq),s112⟩:bt) (gt s83.l n113)).bind fun r149=>
 (bG x103 s104 s105 s106 s107 i108 i109 i110 i111 s112 (!r149) 3 i102 (ae.nh (gt s83.l n113))).bind fun(q150,q151,q152,q153,q154,q155,q156,q157,q158,s159)=>
 some (q150,q151,q152,q153,q154,q155,q156,q157,q158,s159)))):Option (ah×Sl (Sl Int)×Sl (Sl Int)×Sl ae×Sl aj×Int×Int×Int×Int×Sl aq)).bind fun(x160,s161,s162,s163,s164,i165,i166,i167,i168,s169)=>
 some (.inl (wr .i64 (i102+1),x160,s161,s162,s163,s164,i165,i166,i167,i168,s169)))else
 (some (.inr (x103,s104,s105,s106,s107,i108,i109,i110,i111,s112)))
def fU(x_0_t:ah)(x_0_old:Sl (Sl Int))(x_0_now:Sl (Sl Int))(x_0_p_Moves:Sl ae)(x_0_p_Rounds:Sl aj)(x_0_p_Miss:Int)(x_0_p_Life:Int)(x_0_p_From:Int)(x_0_p_To:Int)(x_0_out:Sl aq):Option (ah×Sl (Sl Int)×Sl (Sl Int)×Sl ae×Sl aj×Int×Int×Int×Int×Sl aq):=
 (bE (eT x_0_now) (0,x_0_t,x_0_old,x_0_now,x_0_p_Moves,x_0_p_Rounds,x_0_p_Miss,x_0_p_Life,x_0_p_From,x_0_p_To,x_0_out)).bind fun(x80,s81,s82,s83,s84,i85,i86,i87,i88,s89)=>
 (bE (eS s83) (0,x80,s81,s82,s83,s84,i85,i86,i87,i88,s89)).bind fun(x170,s171,s172,s173,s174,i175,i176,i177,i178,s179)=>
 some (x170,s171,s172,s173,s174,i175,i176,i177,i178,s179)
def Tm:lD:=⟨[(true,.pb y6 (.st (.pr (.x y0) (.pr (.x (.sl (.sl (.i .i64)))) (.pr (.x (.sl (.sl (.i .i64)))) (.pr (.st (.pr (.x (.sl y4)) (.pr (.x (.sl y5)) (.pr (.x (.i .i64)) (.pr (.x (.i .i64)) (.pr (.x (.i .i64)) (.pr (.x (.i .i64)) .ni))))))) (.pr (.os y7) .ni)))))))],[([],[.pb y6 (.st (.pr (.x y0) (.pr (.x (.sl (.sl (.i .i64)))) (.pr (.x (.sl (.sl (.i .i64)))) (.pr (.st (.pr (.x (.sl y4)) (.pr (.x (.sl y5)) (.pr (.x (.i .i64)) (.pr (.x (.i .i64)) (.pr (.x (.i .i64)) (.pr (.x (.i .i64)) .ni))))))) (.pr (.os y7) .ni))))))])],false,[true],fun p=>match p with|(x_0_t,x_0_old,x_0_now,x_0_p_Moves,x_0_p_Rounds,x_0_p_Miss,x_0_p_Life,x_0_p_From,x_0_p_To,x_0_out)=>fU x_0_t x_0_old x_0_now x_0_p_Moves x_0_p_Rounds x_0_p_Miss x_0_p_Life x_0_p_From x_0_p_To x_0_out⟩
theorem Ui:cV prog 27 Tm:=cH mixed dK (dg:=dg) (np:=1) (an:=[(3,{j:=some {vs:=[(0,.op 0 y6 []),(15,.x (.i .i64))],gs:=(.co (.op 0 y6 []) .ni),os:=[.bx y6 (.rc (.co (.x y0) (.co (.x (.sl (.sl (.i .i64)))) (.co (.x (.sl (.sl (.i .i64)))) (.co (.rc (.co (.x (.sl y4)) (.co (.x (.sl y5)) (.co (.x (.i .i64)) (.co (.x (.i .i64)) (.co (.x (.i .i64)) (.co (.x (.i .i64)) .ni))))))) (.co (.so 1) .ni)))))),.ar y7],kl:=[0,12]},e:=[(.exit 0,{vs:=[(0,.op 0 y6 [])],gs:=(.co (.op 0 y6 []) .ni),os:=[.bx y6 (.rc (.co (.x y0) (.co (.x (.sl (.sl (.i .i64)))) (.co (.x (.sl (.sl (.i .i64)))) (.co (.rc (.co (.x (.sl y4)) (.co (.x (.sl y5)) (.co (.x (.i .i64)) (.co (.x (.i .i64)) (.co (.x (.i .i64)) (.co (.x (.i .i64)) .ni))))))) (.co (.so 1) .ni)))))),.ar y7],kl:=[0,12]})]}),(12,{j:=some {vs:=[(0,.op 0 y6 []),(26,.x (.i .i64))],gs:=(.co (.op 0 y6 []) .ni),os:=[.bx y6 (.rc (.co (.x y0) (.co (.x (.sl (.sl (.i .i64)))) (.co (.x (.sl (.sl (.i .i64)))) (.co (.rc (.co (.x (.sl y4)) (.co (.x (.sl y5)) (.co (.x (.i .i64)) (.co (.x (.i .i64)) (.co (.x (.i .i64)) (.co (.x (.i .i64)) .ni))))))) (.co (.so 1) .ni)))))),.ar y7],kl:=[13,14]},e:=[(.exit 2,{vs:=[(0,.op 0 y6 [])],gs:=(.co (.op 0 y6 []) .ni),os:=[.bx y6 (.rc (.co (.x y0) (.co (.x (.sl (.sl (.i .i64)))) (.co (.x (.sl (.sl (.i .i64)))) (.co (.rc (.co (.x (.sl y4)) (.co (.x (.sl y5)) (.co (.x (.i .i64)) (.co (.x (.i .i64)) (.co (.x (.i .i64)) (.co (.x (.i .i64)) .ni))))))) (.co (.so 1) .ni)))))),.ar y7],kl:=[13,14]})]}),(24,{j:=some {vs:=[(5,.x (.i .i64)),(37,.x (.i .i64))]},e:=[(.exit 4,{vs:=[(5,.x (.i .i64))]})]}),(28,{e:=[(.normal,{vs:=[(5,.x (.i .i64))]})]}),(32,{j:=some {vs:=[(61,.x .b)]}}),(40,{j:=some {vs:=[(0,.op 0 y6 []),(93,.x (.i .i64))],gs:=(.co (.op 0 y6 []) .ni),os:=[.bx y6 (.rc (.co (.x y0) (.co (.x (.sl (.sl (.i .i64)))) (.co (.x (.sl (.sl (.i .i64)))) (.co (.rc (.co (.x (.sl y4)) (.co (.x (.sl y5)) (.co (.x (.i .i64)) (.co (.x (.i .i64)) (.co (.x (.i .i64)) (.co (.x (.i .i64)) .ni))))))) (.co (.so 1) .ni)))))),.ar y7],kl:=[13,14]},e:=[(.exit 6,{gs:=(.co (.op 0 y6 []) .ni),os:=[.bx y6 (.rc (.co (.x y0) (.co (.x (.sl (.sl (.i .i64)))) (.co (.x (.sl (.sl (.i .i64)))) (.co (.rc (.co (.x (.sl y4)) (.co (.x (.sl y5)) (.co (.x (.i .i64)) (.co (.x (.i .i64)) (.co (.x (.i .i64)) (.co (.x (.i .i64)) .ni))))))) (.co (.so 1) .ni)))))),.ar y7],kl:=[13,14]})]}),(47,{j:=some {vs:=[(0,.op 0 y6 [])],gs:=(.co (.op 0 y6 []) .ni),os:=[.bx y6 (.rc (.co (.x y0) (.co (.x (.sl (.sl (.i .i64)))) (.co (.x (.sl (.sl (.i .i64)))) (.co (.rc (.co (.x (.sl y4)) (.co (.x (.sl y5)) (.co (.x (.i .i64)) (.co (.x (.i .i64)) (.co (.x (.i .i64)) (.co (.x (.i .i64)) .ni))))))) (.co (.so 1) .ni)))))),.ar y7],kl:=[15,16]}})]) (.cons Uj (.cons Qb (.cons RW .nil))) (by kernel_rfl) (by kernel_rfl)
def jh(t_0:ah):(Int×Int)->Option ((Int×Int)⊕Int):=fun(i3,i4)=>
 bif decide (i4<(((ah.bS t_0).l).length:Int))then((fw i4 ((ah.bS t_0).l).length).bind fun n5=>
 some (.inl ((if(bw.pP (gt ((ah.bS t_0).l) n5))>i3 then(bw.pP (gt ((ah.bS t_0).l) n5))else i3),wr .i64 (i4+1))))else
 (some (.inr i3))
def lq(t_0:ah):Option Int:=
 (bE (jh t_0) (0,0)).bind fun i6=>
 some i6
def Tl:lD:=⟨[(false,.x y0)],[([.x (.i .i64)],[])],true,[],fun p=>match p with|t_0=>lq t_0⟩
theorem Uh:cV prog 85 Tl:=cH mixed dK (dg:=dg) (np:=1) (an:=[(7,{j:=some {vs:=[(3,.x (.i .i64)),(9,.x (.i .i64))]},e:=[(.exit 0,{vs:=[(3,.x (.i .i64))]})]})]) .nil (by kernel_rfl) (by kernel_rfl)
def nD(t_0:ah):Option Int:=
 (lq t_0).bind fun r1=>
 some (wr .i64 ((ah.bo t_0)*r1))
def Tk:lD:=⟨[(false,.x y0)],[([.x (.i .i64)],[])],true,[],fun p=>match p with|t_0=>nD t_0⟩
theorem RU:cV prog 52 Tk:=cH mixed dK (dg:=dg) (np:=1) (an:=[]) (.cons Uh .nil) (by kernel_rfl) (by kernel_rfl)
def nV(t_0:ah)(miss_1:Int):Option Int:=
 (nD t_0).bind fun r1=>
 some (wr .i64 ((wr .i64 ((wr .i64 (2*miss_1))+r1))+1))
def Tj:lD:=⟨[(false,.x y0),(false,.x (.i .i64))],[([.x (.i .i64)],[])],true,[],fun p=>match p with|(t_0,miss_1)=>nV t_0 miss_1⟩
theorem RS:cV prog 54 Tj:=cH mixed dK (dg:=dg) (np:=2) (an:=[]) (.cons RU .nil) (by kernel_rfl) (by kernel_rfl)
def jp(n_0:Int):Option Int:=some (if 1125899906842624<(if(-1125899906842624)>n_0 then(-1125899906842624)else n_0)then 1125899906842624 else(if(-1125899906842624)>n_0 then(-1125899906842624)else n_0))
def Ti:lD:=⟨[(false,.x (.i .i64))],[([.x (.i .i64)],[])],true,[],fun p=>match p with|n_0=>jp n_0⟩
theorem Ug:cV prog 59 Ti:=cH mixed dK (dg:=dg) (np:=1) (an:=[]) .nil (by kernel_rfl) (by kernel_rfl)
def dT(r1:Int):(Int×ah×Sl (Sl Int)×Sl (Sl Int)×Sl ae×Sl aj×Int×Int×Int×Int×Sl aq)->Option ((Int×ah×Sl (Sl Int)×Sl (Sl Int)×Sl ae×Sl aj×Int×Int×Int×Int×Sl aq)⊕(ah×Sl (Sl Int)×Sl (Sl Int)×Sl ae×Sl aj×Int×Int×Int×Int×Sl aq)):=fun(i14,x15,s16,s17,s18,s19,i20,i21,i22,i23,s24)=>
 bif decide (i14<(s19.l.length:Int))then((fw i14 s19.l.length).bind fun n25=>
 (jp (aj.At (gt s19.l n25))).bind fun r26=>
 (fw (wr .i64 (i14-1)) s19.l.length).bind fun n27=>
 (jp (aj.At (gt s19.l n27))).bind fun r28=>
 (bG x15 s16 s17 s18 s19 i20 i21 i22 i23 s24 (decide ((wr .i64 (r26-r28))<r1)) 4 i14 0).bind fun(q29,q30,q31,q32,q33,q34,q35,q36,q37,s38)=>
 some (.inl (wr .i64 (i14+1),q29,q30,q31,q32,q33,q34,q35,q36,q37,s38)))else
 (some (.inr (x15,s16,s17,s18,s19,i20,i21,i22,i23,s24)))
def fT(x_0_t:ah)(x_0_old:Sl (Sl Int))(x_0_now:Sl (Sl Int))(x_0_p_Moves:Sl ae)(x_0_p_Rounds:Sl aj)(x_0_p_Miss:Int)(x_0_p_Life:Int)(x_0_p_From:Int)(x_0_p_To:Int)(x_0_out:Sl aq):Option (ah×Sl (Sl Int)×Sl (Sl Int)×Sl ae×Sl aj×Int×Int×Int×Int×Sl aq):=
 (nV x_0_t (if 1048576<(if 0>x_0_p_Miss then 0 else x_0_p_Miss)then 1048576 else(if 0>x_0_p_Miss then 0 else x_0_p_Miss))).bind fun r1=>
 (bE (dT r1) (1,x_0_t,x_0_old,x_0_now,x_0_p_Moves,x_0_p_Rounds,x_0_p_Miss,x_0_p_Life,x_0_p_From,x_0_p_To,x_0_out)).bind fun(x39,s40,s41,s42,s43,i44,i45,i46,i47,s48)=>
 some (x39,s40,s41,s42,s43,i44,i45,i46,i47,s48)
def Th:lD:=⟨[(true,.pb y6 (.st (.pr (.x y0) (.pr (.x (.sl (.sl (.i .i64)))) (.pr (.x (.sl (.sl (.i .i64)))) (.pr (.st (.pr (.x (.sl y4)) (.pr (.x (.sl y5)) (.pr (.x (.i .i64)) (.pr (.x (.i .i64)) (.pr (.x (.i .i64)) (.pr (.x (.i .i64)) .ni))))))) (.pr (.os y7) .ni)))))))],[([],[.pb y6 (.st (.pr (.x y0) (.pr (.x (.sl (.sl (.i .i64)))) (.pr (.x (.sl (.sl (.i .i64)))) (.pr (.st (.pr (.x (.sl y4)) (.pr (.x (.sl y5)) (.pr (.x (.i .i64)) (.pr (.x (.i .i64)) (.pr (.x (.i .i64)) (.pr (.x (.i .i64)) .ni))))))) (.pr (.os y7) .ni))))))])],false,[true],fun p=>match p with|(x_0_t,x_0_old,x_0_now,x_0_p_Moves,x_0_p_Rounds,x_0_p_Miss,x_0_p_Life,x_0_p_From,x_0_p_To,x_0_out)=>fT x_0_t x_0_old x_0_now x_0_p_Moves x_0_p_Rounds x_0_p_Miss x_0_p_Life x_0_p_From x_0_p_To x_0_out⟩
theorem Uf:cV prog 28 Th:=cH mixed dK (dg:=dg) (np:=1) (an:=[(6,{j:=some {vs:=[(0,.op 0 y6 []),(4,.x (.i .i64))],gs:=(.co (.op 0 y6 []) .ni),os:=[.bx y6 (.rc (.co (.x y0) (.co (.x (.sl (.sl (.i .i64)))) (.co (.x (.sl (.sl (.i .i64)))) (.co (.rc (.co (.x (.sl y4)) (.co (.x (.sl y5)) (.co (.x (.i .i64)) (.co (.x (.i .i64)) (.co (.x (.i .i64)) (.co (.x (.i .i64)) .ni))))))) (.co (.so 1) .ni)))))),.ar y7],kl:=[0,12]},e:=[(.exit 0,{gs:=(.co (.op 0 y6 []) .ni),os:=[.bx y6 (.rc (.co (.x y0) (.co (.x (.sl (.sl (.i .i64)))) (.co (.x (.sl (.sl (.i .i64)))) (.co (.rc (.co (.x (.sl y4)) (.co (.x (.sl y5)) (.co (.x (.i .i64)) (.co (.x (.i .i64)) (.co (.x (.i .i64)) (.co (.x (.i .i64)) .ni))))))) (.co (.so 1) .ni)))))),.ar y7],kl:=[0,12]})]})]) (.cons RS (.cons Ug (.cons Qb .nil))) (by kernel_rfl) (by kernel_rfl)
def jl(s_0:Sl Int):Option (Sl Int):=
 bif s_0.fI then(some Sl.nil)else
 ((jF ([]++s_0.l)).bind fun l1=>
 some (wI (Sl.mk []) s_0.l l1))
def Tf:lD:=⟨[(false,.x (.sl (.i .i64)))],[([.os (.i .i64)],[])],false,[],fun p=>match p with|s_0=>jl s_0⟩
theorem Ud:cV prog 60 Tf:=cH mixed dK (dg:=dg) (np:=1) (an:=[]) .nil (by kernel_rfl) (by kernel_rfl)
def j4(n_0:Int)(l_1:Sl aP):Int->Option (Int⊕(Bool⊕Unit)):=fun i2=>
 bif decide (i2<(l_1.l.length:Int))then((fw i2 l_1.l.length).bind fun n3=>
 bif((((decide ((aP.rJ (gt l_1.l n3))<0))||(decide ((aP.rJ (gt l_1.l n3))>=n_0)))||(decide ((aP.To (gt l_1.l n3))<0)))||(decide ((aP.To (gt l_1.l n3))>=n_0)))then(some (.inr (.inl false)))else
 (some (.inl (wr .i64 (i2+1)))))else
 (some (.inr (.inr ())))
def k8(n_0:Int)(l_1:Sl aP):Option Bool:=
 bif((decide (n_0<0))||(decide (n_0>16)))then(some false)else
 ((bE (j4 n_0 l_1) 0).bind fun
 |.inl b4=>(some b4)
 |.inr _=>(some true))
def Te:lD:=⟨[(false,.x (.i .i64)),(false,.x (.sl y2))],[([.x .b],[])],true,[],fun p=>match p with|(n_0,l_1)=>k8 n_0 l_1⟩
theorem Uc:cV prog 47 Te:=cH mixed dK (dg:=dg) (np:=2) (an:=[(10,{j:=some {vs:=[(15,.x (.i .i64))]},e:=[(.ret,{vs:=[(4,.x .b)]}),(.exit 0,{})]})]) .nil (by kernel_rfl) (by kernel_rfl)
def kA(l_1:Sl aP):(Int×Sl Int)->Option ((Int×Sl Int)⊕(Sl Int)):=fun(i5,s6)=>
 bif decide (i5<(l_1.l.length:Int))then((fw i5 l_1.l.length).bind fun n7=>
 (fw (aP.rJ (gt l_1.l n7)) s6.l.length).bind fun n8=>
 (x9 .u16 1 (aP.To (gt l_1.l n7))).bind fun i9=>
 (fw (aP.rJ (gt l_1.l n7)) s6.l.length).bind fun n10=>
 some (.inl (wr .i64 (i5+1),(Sl.mk (s6.l.set n10 (Rq .u16 (gt s6.l n8) i9))))))else
 (some (.inr s6))
def nH(n_0:Int)(l_1:Sl aP):Option (Sl Int):=
 (zE 0 n_0 n_0).bind fun l1=>
 (bE (kA l_1) (0,(Sl.mk l1))).bind fun s11=>
 some s11
def Td:lD:=⟨[(false,.x (.i .i64)),(false,.x (.sl y2))],[([.x (.sl (.i .u16))],[])],false,[],fun p=>match p with|(n_0,l_1)=>nH n_0 l_1⟩
theorem Ub:cV prog 48 Td:=cH mixed dK (dg:=dg) (np:=2) (an:=[(7,{j:=some {vs:=[(5,.so 0),(12,.x (.i .i64))],os:=[.ar (.i .u16)],kl:=[0]},e:=[(.exit 0,{vs:=[(5,.so 0)],os:=[.ar (.i .u16)],kl:=[0]})]})]) .nil (by kernel_rfl) (by kernel_rfl)
def dE(x_0:Int):Option Int:=
 bif(x_0==0)then(some 16)else
 ((fw (Jz .u32 (wr .u32 ((wr .u32 (JA .u16 x_0 (wr .u16 (0-x_0))))*125613361)) 27) 32).bind fun n1=>
 some (wr .i64 (gt HM.1 n1)))
def Tc:lD:=⟨[(false,.x (.i .u16))],[([.x (.i .i64)],[])],true,[],fun p=>match p with|x_0=>dE x_0⟩
theorem RQ:cV prog 50 Tc:=cH mixed dK (dg:=dg) (np:=1) (an:=[]) .nil (by kernel_rfl) (by kernel_rfl)
def kC:(Int×Sl Int)->Option ((Int×Sl Int)⊕(Sl Int)):=fun(i4,s5)=>
 bif(i4 !=0)then((dE i4).bind fun r6=>
 (jF (s5.l++[r6])).bind fun l7=>
 some (.inl (JA .u16 i4 (wr .u16 (i4-1)),(Sl.mk l7))))else
 (some (.inr s5))
def nI(set_0:Int):Option (Sl Int):=
 (bE (kC) (set_0,Sl.nil)).bind fun s8=>
 some s8
def Tb:lD:=⟨[(false,.x (.i .u16))],[([.x (.sl (.i .i64))],[])],false,[],fun p=>match p with|set_0=>nI set_0⟩
theorem Ua:cV prog 84 Tb:=cH mixed dK (dg:=dg) (np:=1) (an:=[(5,{j:=some {vs:=[(0,.x (.i .u16)),(3,.so 0)],os:=[.ar (.i .i64)]},e:=[(.exit 0,{vs:=[(3,.so 0)],os:=[.ar (.i .i64)]})]})]) (.cons RQ .nil) (by kernel_rfl) (by kernel_rfl)
def kz(to_0:Sl Int)(r1:Sl Int):(Int×Int)->Option ((Int×Int)⊕Int):=fun(i4,i5)=>
 bif decide (i5<(r1.l.length:Int))then((fw i5 r1.l.length).bind fun n6=>
 (fw (gt r1.l n6) to_0.l.length).bind fun n7=>
 some (.inl (Rq .u16 i4 (gt to_0.l n7),wr .i64 (i5+1))))else
 (some (.inr i4))
def nG(to_0:Sl Int)(set_1:Int):Option Int:=
 (nI set_1).bind fun r1=>
 (bE (kz to_0 r1) (0,0)).bind fun i8=>
 some i8
def Ta:lD:=⟨[(false,.x (.sl (.i .u16))),(false,.x (.i .u16))],[([.x (.i .u16)],[])],true,[],fun p=>match p with|(to_0,set_1)=>nG to_0 set_1⟩
theorem T_:cV prog 49 Ta:=cH mixed dK (dg:=dg) (np:=2) (an:=[(7,{j:=some {vs:=[(5,.x (.i .u16)),(11,.x (.i .i64))]},e:=[(.exit 0,{vs:=[(5,.x (.i .u16))]})]})]) (.cons Ua .nil) (by kernel_rfl) (by kernel_rfl)
def iR(r2:Sl Int):(Int×Sl Int)->Option ((Int×Sl Int)⊕(Bool⊕(Sl Int))):=fun(i7,s8)=>
 bif(i7 !=0)then((nG r2 i7).bind fun r9=>
 bif((rG .u16 i7 r9)==0)then(some (.inr (.inl false)))else
 ((dE (rG .u16 i7 r9)).bind fun r10=>
 (jF (s8.l++[r10])).bind fun l11=>
 (x9 .u16 1 r10).bind fun i12=>
 some (.inl (rG .u16 i7 i12,(Sl.mk l11)))))else
 (some (.inr (.inr s8)))
def iG(n_0:Int)(l_1:Sl aP):Option (Sl Int×Bool):=
 (k8 n_0 l_1).bind fun r1=>
 bif(!r1)then(some (Sl.nil,false))else
 ((nH n_0 l_1).bind fun r2=>
 (x9 .u16 1 n_0).bind fun i3=>
 (bE (iR r2) (wr .u16 (i3-1),Sl.nil)).bind fun
 |.inl b13=>(some (Sl.nil,b13))
 |.inr s14=>(some (s14,true)))
def S_:lD:=⟨[(false,.x (.i .i64)),(false,.x (.sl y2))],[([.x (.sl (.i .i64)),.x .b],[])],false,[],fun p=>match p with|(n_0,l_1)=>iG n_0 l_1⟩
theorem T9:cV prog 25 S_:=cH mixed dK (dg:=dg) (np:=2) (an:=[(14,{j:=some {vs:=[(7,.x (.i .u16)),(8,.so 0)],os:=[.ar (.i .i64)]},e:=[(.ret,{vs:=[(4,.nl 0),(5,.x .b)]}),(.exit 0,{vs:=[(8,.so 0)],os:=[.ar (.i .i64)]})]})]) (.cons Uc (.cons Ub (.cons T_ (.cons RQ .nil)))) (by kernel_rfl) (by kernel_rfl)
def er(x_0_t:ah)(ports_1:Sl (Sl Int))(h_3:Int)(i7:Int)(n9:Nat):(Bool×Int×Sl aP)->Option ((Bool×Int×Sl aP)⊕(Bool×Sl aP)):=fun(b13,i14,s15)=>
 bif decide (i14<(((gt ports_1.l n9).l).length:Int))then(((fw i14 ((gt ports_1.l n9).l).length).bind fun n16=>
 (nv x_0_t i7 (gt ((gt ports_1.l n9).l) n16)).bind fun(r17,r18,r19,r20)=>
 bif r20 then((jF (s15.l++[(⟨i7,r17⟩:aP)])).bind fun l21=>
 some (b13,(Sl.mk l21)))else
 ((fw h_3 ((ah.bf x_0_t).l).length).bind fun n22=>
 bif(!(decide ((gt ((ah.bf x_0_t).l) n22)=(⟨i7,gt ((gt ports_1.l n9).l) n16⟩:fK))))then(some (true,s15))else
 (some (b13,s15))):Option (Bool×Sl aP)).bind fun(b23,s24)=>
 some (.inl (b23,wr .i64 (i14+1),s24)))else
 (some (.inr (b13,s15)))
def fm(x_0_t:ah)(ports_1:Sl (Sl Int))(h_3:Int):(Bool×Int×Sl aP)->Option ((Bool×Int×Sl aP)⊕(Bool×Sl aP)):=fun(b6,i7,s8)=>
 bif decide (i7<(ports_1.l.length:Int))then((fw i7 ports_1.l.length).bind fun n9=>
 (bE (er x_0_t ports_1 h_3 i7 n9) (b6,0,s8)).bind fun(b25,s26)=>
 some (.inl (b25,wr .i64 (i7+1),s26)))else
 (some (.inr (b6,s8)))
def ia(x_0_t:ah)(x_0_old:Sl (Sl Int))(x_0_now:Sl (Sl Int))(x_0_p_Moves:Sl ae)(x_0_p_Rounds:Sl aj)(x_0_p_Miss:Int)(x_0_p_Life:Int)(x_0_p_From:Int)(x_0_p_To:Int)(x_0_out:Sl aq)(ports_1:Sl (Sl Int))(k_2:Int)(h_3:Int):Option (ah×Sl (Sl Int)×Sl (Sl Int)×Sl ae×Sl aj×Int×Int×Int×Int×Sl aq):=
 (bE (fm x_0_t ports_1 h_3) (false,0,Sl.nil)).bind fun(b27,s28)=>
 (iG (ah.bo x_0_t) s28).bind fun(r29,r30)=>
 (bG x_0_t x_0_old x_0_now x_0_p_Moves x_0_p_Rounds x_0_p_Miss x_0_p_Life x_0_p_From x_0_p_To x_0_out b27 5 k_2 h_3).bind fun(q31,q32,q33,q34,q35,q36,q37,q38,q39,s40)=>
 (bG q31 q32 q33 q34 q35 q36 q37 q38 q39 s40 (!r30) 6 k_2 h_3).bind fun(q41,q42,q43,q44,q45,q46,q47,q48,q49,s50)=>
 some (q41,q42,q43,q44,q45,q46,q47,q48,q49,s50)
def S9:lD:=⟨[(true,.pb y6 (.st (.pr (.x y0) (.pr (.x (.sl (.sl (.i .i64)))) (.pr (.x (.sl (.sl (.i .i64)))) (.pr (.st (.pr (.x (.sl y4)) (.pr (.x (.sl y5)) (.pr (.x (.i .i64)) (.pr (.x (.i .i64)) (.pr (.x (.i .i64)) (.pr (.x (.i .i64)) .ni))))))) (.pr (.os y7) .ni))))))),(false,.x (.sl (.sl (.i .i64)))),(false,.x (.i .i64)),(false,.x (.i .i64))],[([],[.pb y6 (.st (.pr (.x y0) (.pr (.x (.sl (.sl (.i .i64)))) (.pr (.x (.sl (.sl (.i .i64)))) (.pr (.st (.pr (.x (.sl y4)) (.pr (.x (.sl y5)) (.pr (.x (.i .i64)) (.pr (.x (.i .i64)) (.pr (.x (.i .i64)) (.pr (.x (.i .i64)) .ni))))))) (.pr (.os y7) .ni))))))])],false,[true,false,false,false],fun p=>match p with|(x_0_t,x_0_old,x_0_now,x_0_p_Moves,x_0_p_Rounds,x_0_p_Miss,x_0_p_Life,x_0_p_From,x_0_p_To,x_0_out,ports_1,k_2,h_3)=>ia x_0_t x_0_old x_0_now x_0_p_Moves x_0_p_Rounds x_0_p_Miss x_0_p_Life x_0_p_From x_0_p_To x_0_out ports_1 k_2 h_3⟩
theorem T8:cV prog 62 S9:=cH mixed dK (dg:=dg) (np:=4) (an:=[(7,{j:=some {vs:=[(8,.so 0),(9,.x .b),(22,.x (.i .i64))],os:=[.ar y2]},e:=[(.exit 0,{vs:=[(8,.so 0),(9,.x .b)],os:=[.ar y2]})]}),(16,{j:=some {vs:=[(8,.so 0),(9,.x .b),(29,.x (.i .i64))],os:=[.ar y2],kl:=[13]},e:=[(.exit 2,{vs:=[(8,.so 0),(9,.x .b)],os:=[.ar y2],kl:=[13]})]}),(20,{e:=[(.normal,{vs:=[(8,.so 0),(9,.x .b)],os:=[.ar y2],kl:=[14]})]})]) (.cons R0 (.cons T9 (.cons Qb .nil))) (by kernel_rfl) (by kernel_rfl)
def fz(x_0_old:Sl (Sl Int)):(Int×Sl (Sl Int))->Option ((Int×Sl (Sl Int))⊕(Sl (Sl Int))):=fun(i5,s6)=>
 bif decide (i5<(x_0_old.l.length:Int))then((fw i5 x_0_old.l.length).bind fun n7=>
 (jl (gt x_0_old.l n7)).bind fun s8=>
 (fw i5 s6.l.length).bind fun n9=>
 some (.inl (wr .i64 (i5+1),(Sl.mk (s6.l.set n9 s8)))))else
 (some (.inr s6))
def fy(i50:Int)(s60:Sl (Sl Int)):(Int×Sl (Sl Int)×Sl (Sl Int))->Option ((Int×Sl (Sl Int)×Sl (Sl Int))⊕(Sl (Sl Int)×Sl (Sl Int))):=fun(i67,s68,s69)=>
 bif decide (i67<(s60.l.length:Int))then((fw i67 s68.l.length).bind fun n70=>
 (fw i50 ((gt s68.l n70).l).length).bind fun n71=>
 (fw i67 s69.l.length).bind fun n72=>
 some (.inl (wr .i64 (i67+1),(Sl.mk (s68.l.set n70 (gt s68.l n70))),(Sl.mk (s69.l.set n72 (Sl.mk [gt ((gt s68.l n70).l) n71]))))))else
 (some (.inr (s68,s69)))
def eD(x_0_p_Rounds:Sl aj)(n36:Nat)(s52:Sl (Sl Int))(s53:Sl (Sl Int))(s61:Sl aq)(s55:Sl aj)(s54:Sl ae)(i50:Int)(x51:ah)(i56:Int)(i57:Int)(i58:Int)(i59:Int):(Int×Sl (Sl Int))->Option ((Int×Sl (Sl Int))⊕(Sl (Sl Int))):=fun(i78,s79)=>
 bif decide (i78<(s54.l.length:Int))then(((fw i78 s54.l.length).bind fun n80=>
 (bif((ae.nh (gt s54.l n80))==i50)then((fr (⟨x51,s52,s53,(⟨s54,s55,i56,i57,i58,i59⟩:dq),s61⟩:bt) (gt s54.l n80)).bind fun r81=>
 bif r81 then((kh (gt x_0_p_Rounds.l n36) (gt s54.l n80)).bind fun r82=>
 some r82)else
 (some false))else
 (some false):Option Bool).bind fun b83=>
 bif b83 then((fw (ae.Sw (gt s54.l n80)) s79.l.length).bind fun n84=>
 (jF (((gt s79.l n84).l)++[ae.ot (gt s54.l n80)])).bind fun l85=>
 (fw (ae.Sw (gt s54.l n80)) s79.l.length).bind fun n86=>
 bif Nat.beq n84 n86 then(some (Sl.mk (s79.l.set n86 (Sl.mk l85))))else(none))else
 (some s79):Option (Sl (Sl Int))).bind fun s87=>
 some (.inl (wr .i64 (i78+1),s87)))else
 (some (.inr s79))
def eC(x_0_p_Rounds:Sl aj)(n36:Nat)(i24:Int)(x25:ah):(Int×ah×Sl (Sl Int)×Sl (Sl Int)×Sl ae×Sl aj×Int×Int×Int×Int×Sl (Sl Int)×Sl aq)->Option ((Int×ah×Sl (Sl Int)×Sl (Sl Int)×Sl ae×Sl aj×Int×Int×Int×Int×Sl (Sl Int)×Sl aq)⊕(ah×Sl (Sl Int)×Sl (Sl Int)×Sl ae×Sl aj×Int×Int×Int×Int×Sl (Sl Int)×Sl aq)):=fun(i50,x51,s52,s53,s54,s55,i56,i57,i58,i59,s60,s61)=>
 bif decide (i50<(((ah.bf x25).l).length:Int))then((zE (Sl.nil:Sl Int) (s60.l.length:Int) (s60.l.length:Int)).bind fun l62=>
 (bE (fy i50 s60) (0,s60,(Sl.mk l62))).bind fun(s73,s74)=>
 (bE (eD x_0_p_Rounds n36 s52 s53 s61 s55 s54 i50 x51 i56 i57 i58 i59) (0,s74)).bind fun s88=>
 (ia x51 s52 s53 s54 s55 i56 i57 i58 i59 s61 s88 i24 i50).bind fun(q89,q90,q91,q92,q93,q94,q95,q96,q97,s98)=>
 some (.inl (wr .i64 (i50+1),q89,q90,q91,q92,q93,q94,q95,q96,q97,s73,s98)))else
 (some (.inr (x51,s52,s53,s54,s55,i56,i57,i58,i59,s60,s61)))
def eB(x_0_p_Rounds:Sl aj)(n36:Nat)(s100:Sl (Sl Int))(s102:Sl ae)(s109:Sl aq)(x99:ah)(s101:Sl (Sl Int))(s103:Sl aj)(i104:Int)(i105:Int)(i106:Int)(i107:Int):(Int×Sl (Sl Int))->Option ((Int×Sl (Sl Int))⊕(Sl (Sl Int))):=fun(i113,s114)=>
 bif decide (i113<(s102.l.length:Int))then(((fw i113 s102.l.length).bind fun n115=>
 ((fr (⟨x99,s100,s101,(⟨s102,s103,i104,i105,i106,i107⟩:dq),s109⟩:bt) (gt s102.l n115)).bind fun r116=>
 bif r116 then((kh (gt x_0_p_Rounds.l n36) (gt s102.l n115)).bind fun r117=>
 some r117)else
 (some false):Option Bool).bind fun b118=>
 bif b118 then((fw (ae.Sw (gt s102.l n115)) s114.l.length).bind fun n119=>
 (fw (ae.nh (gt s102.l n115)) ((gt s114.l n119).l).length).bind fun n120=>
 some (Sl.mk (s114.l.set n119 (Sl.mk (((gt s114.l n119).l).set n120 (ae.ot (gt s102.l n115)))))))else
 (some s114):Option (Sl (Sl Int))).bind fun s121=>
 some (.inl (wr .i64 (i113+1),s121)))else
 (some (.inr s114))
def eA(x_0_p_Rounds:Sl aj):(Int×ah×Sl (Sl Int)×Sl (Sl Int)×Sl ae×Sl aj×Int×Int×Int×Int×Sl (Sl Int)×Sl aq)->Option ((Int×ah×Sl (Sl Int)×Sl (Sl Int)×Sl ae×Sl aj×Int×Int×Int×Int×Sl (Sl Int)×Sl aq)⊕(ah×Sl (Sl Int)×Sl (Sl Int)×Sl ae×Sl aj×Int×Int×Int×Int×Sl aq)):=fun(i24,x25,s26,s27,s28,s29,i30,i31,i32,i33,s34,s35)=>
 bif decide (i24<(x_0_p_Rounds.l.length:Int))then((fw i24 x_0_p_Rounds.l.length).bind fun n36=>
 (bE (eC x_0_p_Rounds n36 i24 x25) (0,x25,s26,s27,s28,s29,i30,i31,i32,i33,s34,s35)).bind fun(x99,s100,s101,s102,s103,i104,i105,i106,i107,s108,s109)=>
 (bE (eB x_0_p_Rounds n36 s100 s102 s109 x99 s101 s103 i104 i105 i106 i107) (0,s108)).bind fun s122=>
 some (.inl (wr .i64 (i24+1),x99,s100,s101,s102,s103,i104,i105,i106,i107,s122,s109)))else
 (some (.inr (x25,s26,s27,s28,s29,i30,i31,i32,i33,s35)))
def gz(x_0_t:ah)(x_0_old:Sl (Sl Int))(x_0_now:Sl (Sl Int))(x_0_p_Moves:Sl ae)(x_0_p_Rounds:Sl aj)(x_0_p_Miss:Int)(x_0_p_Life:Int)(x_0_p_From:Int)(x_0_p_To:Int)(x_0_out:Sl aq):Option (ah×Sl (Sl Int)×Sl (Sl Int)×Sl ae×Sl aj×Int×Int×Int×Int×Sl aq):=
 (zE (Sl.nil:Sl Int) (x_0_old.l.length:Int) (x_0_old.l.length:Int)).bind fun l1=>
 (bE (fz x_0_old) (0,(Sl.mk l1))).bind fun s10=>
 (bE (eA x_0_p_Rounds) (0,x_0_t,x_0_old,x_0_now,x_0_p_Moves,x_0_p_Rounds,x_0_p_Miss,x_0_p_Life,x_0_p_From,x_0_p_To,s10,x_0_out)).bind fun(x123,s124,s125,s126,s127,i128,i129,i130,i131,s132)=>
 some (x123,s124,s125,s126,s127,i128,i129,i130,i131,s132)
def S8:lD:=⟨[(true,.pb y6 (.st (.pr (.x y0) (.pr (.x (.sl (.sl (.i .i64)))) (.pr (.x (.sl (.sl (.i .i64)))) (.pr (.st (.pr (.x (.sl y4)) (.pr (.x (.sl y5)) (.pr (.x (.i .i64)) (.pr (.x (.i .i64)) (.pr (.x (.i .i64)) (.pr (.x (.i .i64)) .ni))))))) (.pr (.os y7) .ni)))))))],[([],[.pb y6 (.st (.pr (.x y0) (.pr (.x (.sl (.sl (.i .i64)))) (.pr (.x (.sl (.sl (.i .i64)))) (.pr (.st (.pr (.x (.sl y4)) (.pr (.x (.sl y5)) (.pr (.x (.i .i64)) (.pr (.x (.i .i64)) (.pr (.x (.i .i64)) (.pr (.x (.i .i64)) .ni))))))) (.pr (.os y7) .ni))))))])],false,[true],fun p=>match p with|(x_0_t,x_0_old,x_0_now,x_0_p_Moves,x_0_p_Rounds,x_0_p_Miss,x_0_p_Life,x_0_p_From,x_0_p_To,x_0_out)=>gz x_0_t x_0_old x_0_now x_0_p_Moves x_0_p_Rounds x_0_p_Miss x_0_p_Life x_0_p_From x_0_p_To x_0_out⟩
theorem T7:cV prog 29 S8:=cH mixed dK (dg:=TF) (np:=1) (an:=[(5,{j:=some {vs:=[(2,.sr 0),(25,.x (.i .i64))],os:=[.rw (.i .i64)],kl:=[13]},e:=[(.exit 0,{vs:=[(2,.sr 0)],os:=[.rw (.i .i64)],kl:=[13]})]}),(16,{j:=some {vs:=[(0,.op 0 y6 []),(2,.sr 1),(42,.x (.i .i64))],gs:=(.co (.op 0 y6 []) .ni),os:=[.bx y6 (.rc (.co (.x y0) (.co (.x (.sl (.sl (.i .i64)))) (.co (.x (.sl (.sl (.i .i64)))) (.co (.rc (.co (.x (.sl y4)) (.co (.x (.sl y5)) (.co (.x (.i .i64)) (.co (.x (.i .i64)) (.co (.x (.i .i64)) (.co (.x (.i .i64)) .ni))))))) (.co (.so 2) .ni)))))),.rw (.i .i64),.ar y7],kl:=[0,12,14]},e:=[(.exit 2,{gs:=(.co (.op 0 y6 []) .ni),os:=[.bx y6 (.rc (.co (.x y0) (.co (.x (.sl (.sl (.i .i64)))) (.co (.x (.sl (.sl (.i .i64)))) (.co (.rc (.co (.x (.sl y4)) (.co (.x (.sl y5)) (.co (.x (.i .i64)) (.co (.x (.i .i64)) (.co (.x (.i .i64)) (.co (.x (.i .i64)) .ni))))))) (.co (.so 1) .ni)))))),.ar y7],kl:=[0,12,14]})]}),(26,{j:=some {vs:=[(0,.op 0 y6 []),(2,.sr 1),(53,.x (.i .i64))],gs:=(.co (.op 0 y6 []) .ni),os:=[.bx y6 (.rc (.co (.x y0) (.co (.x (.sl (.sl (.i .i64)))) (.co (.x (.sl (.sl (.i .i64)))) (.co (.rc (.co (.x (.sl y4)) (.co (.x (.sl y5)) (.co (.x (.i .i64)) (.co (.x (.i .i64)) (.co (.x (.i .i64)) (.co (.x (.i .i64)) .ni))))))) (.co (.so 2) .ni)))))),.rw (.i .i64),.ar y7],kl:=[15,16,17]},e:=[(.exit 4,{vs:=[(0,.op 0 y6 []),(2,.sr 1)],gs:=(.co (.op 0 y6 []) .ni),os:=[.bx y6 (.rc (.co (.x y0) (.co (.x (.sl (.sl (.i .i64)))) (.co (.x (.sl (.sl (.i .i64)))) (.co (.rc (.co (.x (.sl y4)) (.co (.x (.sl y5)) (.co (.x (.i .i64)) (.co (.x (.i .i64)) (.co (.x (.i .i64)) (.co (.x (.i .i64)) .ni))))))) (.co (.so 2) .ni)))))),.rw (.i .i64),.ar y7],kl:=[15,16,17]})]}),(38,{j:=some {vs:=[(2,.sr 0),(8,.sr 1),(61,.x (.i .i64))],os:=[.rw (.i .i64),.rw (.i .i64)],kl:=[20,22]},e:=[(.exit 6,{vs:=[(2,.sr 0),(8,.sr 1)],os:=[.rw (.i .i64),.rw (.i .i64)],kl:=[20,22]})]}),(50,{j:=some {vs:=[(8,.sr 0),(82,.x (.i .i64))],os:=[.rw (.i .i64)],kl:=[24]},e:=[(.exit 8,{vs:=[(8,.sr 0)],os:=[.rw (.i .i64)],kl:=[24]})]}),(54,{e:=[(.normal,{vs:=[(8,.sr 0)],os:=[.rw (.i .i64)],kl:=[25]})]}),(58,{j:=some {vs:=[(99,.x .b)]}}),(65,{j:=some {vs:=[(2,.sr 0),(126,.x (.i .i64))],os:=[.rw (.i .i64)],kl:=[20]},e:=[(.exit 10,{vs:=[(2,.sr 0)],os:=[.rw (.i .i64)],kl:=[20]})]}),(69,{e:=[(.normal,{vs:=[(2,.sr 0)],os:=[.rw (.i .i64)],kl:=[22]})]}),(73,{j:=some {vs:=[(137,.x .b)]}})]) (.cons Ud (.cons RW (.cons RX (.cons T8 .nil)))) (by kernel_rfl) (by kernel_rfl)
def hZ(t_0:ah)(old_1:Sl (Sl Int))(now_2:Sl (Sl Int))(p_3:bh):Option (Sl aq):=
 ((il t_0 old_1).bind fun r1=>
 bif(!r1)then(some true)else
 ((il t_0 now_2).bind fun r2=>
 some (!r2)):Option Bool).bind fun b3=>
 bif b3 then(some (Sl.mk [(⟨1,0,0⟩:aq)]))else
 ((fU t_0 old_1 now_2 (bh.qR p_3) (bh.gO p_3) (bh.MT p_3) (bh.Rf p_3) (bh.rJ p_3) (bh.To p_3) Sl.nil).bind fun(q4,q5,q6,q7,q8,q9,q10,q11,q12,s13)=>
 (fT q4 q5 q6 q7 q8 q9 q10 q11 q12 s13).bind fun(q14,q15,q16,q17,q18,q19,q20,q21,q22,s23)=>
 (gz q14 q15 q16 q17 q18 q19 q20 q21 q22 s23).bind fun(q24,q25,q26,q27,q28,q29,q30,q31,q32,s33)=>
 some s33)
def S7:lD:=⟨[(false,.x y0),(false,.x (.sl (.sl (.i .i64)))),(false,.x (.sl (.sl (.i .i64)))),(false,.x y3)],[([.x (.sl y7)],[])],false,[],fun p=>match p with|(t_0,old_1,now_2,p_3)=>hZ t_0 old_1 now_2 p_3⟩
theorem RP:cV prog 11 S7:=cH mixed dK (dg:=dg) (np:=4) (an:=[(4,{j:=some {vs:=[(19,.x .b)]}})]) (.cons RY (.cons Ui (.cons Uf (.cons T7 .nil)))) (by kernel_rfl) (by kernel_rfl)
def uD(kind_0:Int):Option ByteArray:=
 bif((decide (kind_0<1))||(decide (kind_0>6)))then(some (⟨#[63]⟩:ByteArray))else
 ((fw (wr .i64 (kind_0-1)) 6).bind fun n1=>
 some (gt ((Arr.set (Arr.set (Arr.set (Arr.set (Arr.set (Arr.set (sd (.ar 6 .s)) 0 (⟨#[119,114,111,110,103]⟩:ByteArray)) 1 (⟨#[109,105,115,115,105,110,103]⟩:ByteArray)) 2 (⟨#[101,120,116,114,97]⟩:ByteArray)) 3 (⟨#[99,108,111,115,101]⟩:ByteArray)) 4 (⟨#[104,111,108,101]⟩:ByteArray)) 5 (⟨#[108,111,111,112]⟩:ByteArray)).1) n1))
def S6:lD:=⟨[(false,.x (.i .i64))],[([.x .s],[])],true,[],fun p=>match p with|kind_0=>uD kind_0⟩
theorem T6:cV prog 14 S6:=cH mixed dK (dg:=dg) (np:=1) (an:=[]) .nil (by kernel_rfl) (by kernel_rfl)
def j9:Option Bool:=
 (hZ (⟨3,(Sl.mk [(⟨0,0,1,0,1,1⟩:bw),(⟨1,1,2,0,1,1⟩:bw),(⟨0,1,2,1,1,1⟩:bw)]),(Sl.mk [(⟨2,7⟩:fK)])⟩:ah) (Sl.mk [(Sl.mk [0]),(Sl.mk [1]),(Sl.mk [7])]) (Sl.mk [(Sl.mk [1]),(Sl.mk [1]),(Sl.mk [7])]) (⟨Sl.nil,Sl.nil,0,0,0,0⟩:bh)).bind fun r1=>
 (bif((r1.l.length:Int)==1)then((fw 0 r1.l.length).bind fun n2=>
 bif decide ((gt r1.l n2)=(⟨2,0,0⟩:aq))then((uD 6).bind fun r3=>
 bif(r3.toList==(⟨#[108,111,111,112]⟩:ByteArray).toList)then((hZ (⟨0,Sl.nil,Sl.nil⟩:ah) Sl.nil Sl.nil (⟨Sl.nil,Sl.nil,0,0,0,0⟩:bh)).bind fun r4=>
 some ((r4.l.length:Int)==1))else
 (some false))else
 (some false))else
 (some false):Option Bool).bind fun b5=>
 some b5
def S5:lD:=⟨[],[([.x .b],[])],true,[],fun p=>match p with|_=>j9⟩
theorem T5:cV prog 9 S5:=cH mixed dK (dg:=dg) (np:=0) (an:=[(7,{j:=some {vs:=[(0,.x .b)]}})]) (.cons RP (.cons T6 .nil)) (by kernel_rfl) (by kernel_rfl)
def pV(n_0:Int)(most_1:Int):Option Bool:=some ((decide (n_0>=0))&&(decide (n_0<=most_1)))
def S4:lD:=⟨[(false,.x (.i .i64)),(false,.x (.i .i64))],[([.x .b],[])],true,[],fun p=>match p with|(n_0,most_1)=>pV n_0 most_1⟩
theorem T3:cV prog 51 S4:=cH mixed dK (dg:=dg) (np:=2) (an:=[]) .nil (by kernel_rfl) (by kernel_rfl)
theorem T2:cV prog 42 (Bu y4 43 jH):=HQ
def jW(old_1:Sl (Sl Int))(now_2:Sl (Sl Int))(i7:Int)(r9:Sl Int):(Int×Sl ae)->Option ((Int×Sl ae)⊕(Sl ae)):=fun(i12,s13)=>
 bif decide (i12<(now_2.l.length:Int))then(((fw i12 now_2.l.length).bind fun n14=>
 (fw i7 ((gt now_2.l n14).l).length).bind fun n15=>
 (fw i12 old_1.l.length).bind fun n16=>
 (fw i7 ((gt old_1.l n16).l).length).bind fun n17=>
 bif((gt ((gt now_2.l n14).l) n15) !=(gt ((gt old_1.l n16).l) n17))then((fw i12 now_2.l.length).bind fun n18=>
 (fw i7 ((gt now_2.l n18).l).length).bind fun n19=>
 (fw i12 r9.l.length).bind fun n20=>
 (jF (s13.l++[(⟨i12,i7,gt ((gt now_2.l n18).l) n19,gt r9.l n20⟩:ae)])).bind fun l21=>
 some (Sl.mk l21))else
 (some s13):Option (Sl ae)).bind fun s22=>
 some (.inl (wr .i64 (i12+1),s22)))else
 (some (.inr s13))
def mO(t_0:ah)(old_1:Sl (Sl Int))(now_2:Sl (Sl Int)):(Int×Sl ae)->Option ((Int×Sl ae)⊕(Sl ae)):=fun(i7,s8)=>
 bif decide (i7<(((ah.bf t_0).l).length:Int))then((lr t_0 now_2 i7).bind fun r9=>
 (bE (jW old_1 now_2 i7 r9) (0,s8)).bind fun s23=>
 some (.inl (wr .i64 (i7+1),s23)))else
 (some (.inr s8))
def mz(t_0:ah)(old_1:Sl (Sl Int))(now_2:Sl (Sl Int)):Option (Sl ae×Int):=
 ((il t_0 old_1).bind fun r1=>
 bif(!r1)then(some true)else
 ((il t_0 now_2).bind fun r2=>
 some (!r2)):Option Bool).bind fun b3=>
 bif b3 then(some (Sl.nil,2))else
 ((bE (mO t_0 old_1 now_2) (0,Sl.nil)).bind fun s24=>
 (t6 jH s24).bind fun s25=>
 (zX s25 s24).bind fun _=>
 some (s25,0))
def SZ:lD:=⟨[(false,.x y0),(false,.x (.sl (.sl (.i .i64)))),(false,.x (.sl (.sl (.i .i64))))],[([.x (.sl y4),.x (.i .i64)],[])],false,[],fun p=>match p with|(t_0,old_1,now_2)=>mz t_0 old_1 now_2⟩
theorem T1:cV prog 22 SZ:=cH mixed dK (dg:=dg) (np:=3) (an:=[(4,{j:=some {vs:=[(21,.x .b)]}}),(12,{j:=some {vs:=[(8,.so 0),(25,.x (.i .i64))],os:=[.ar y4]},e:=[(.exit 0,{vs:=[(8,.so 0)],os:=[.ar y4]})]}),(23,{j:=some {vs:=[(8,.so 0),(34,.x (.i .i64))],os:=[.ar y4],kl:=[1]},e:=[(.exit 2,{vs:=[(8,.so 0)],os:=[.ar y4],kl:=[1]})]}),(27,{e:=[(.normal,{vs:=[(8,.so 0)],os:=[.ar y4],kl:=[3]})]})]) (.cons RY (.cons RZ (.cons T2 .nil))) (by kernel_rfl) (by kernel_rfl)
theorem T0:cV prog 45 (xY (.i .i64) rb):=J4
theorem TZ:cV prog 46 (B5 (.i .i64) rR):=Mr
def ma(l_0:Sl ae):(Int×Sl Int)->Option ((Int×Sl Int)⊕(Sl Int)):=fun(i4,s5)=>
 bif decide (i4<(l_0.l.length:Int))then((fw i4 l_0.l.length).bind fun n6=>
 (jF (s5.l++[ae.vD (gt l_0.l n6)])).bind fun l7=>
 some (.inl (wr .i64 (i4+1),(Sl.mk l7))))else
 (some (.inr s5))
def mN(l_0:Sl ae):Option (Sl Int):=
 (bE (ma l_0) (0,Sl.nil)).bind fun s8=>
 (t6 rb s8).bind fun s9=>
 (zX s9 s8).bind fun _=>
 (Ml rR s9).bind fun s10=>
 some s10
def SY:lD:=⟨[(false,.x (.sl y4))],[([.x (.sl (.i .i64))],[])],false,[],fun p=>match p with|l_0=>mN l_0⟩
theorem TY:cV prog 41 SY:=cH mixed dK (dg:=dg) (np:=1) (an:=[(7,{j:=some {vs:=[(3,.so 0),(8,.x (.i .i64))],os:=[.ar (.i .i64)]},e:=[(.exit 0,{vs:=[(3,.so 0)],os:=[.ar (.i .i64)]})]})]) (.cons T0 (.cons TZ .nil)) (by kernel_rfl) (by kernel_rfl)
def rC(a_0:bI)(c_1:Int):Option Bool:=some ((((((decide ((bI.I a_0)<0))||(decide ((bI.I a_0)>=c_1)))||(decide ((bI.J a_0)<0)))||(decide ((bI.J a_0)>=c_1)))||(decide ((bI.SI a_0)<(-1073741824))))||(decide ((bI.SI a_0)>1073741824)))
def SX:lD:=⟨[(false,.x y7),(false,.pt (.i .i64))],[([.x .b],[])],true,[],fun p=>match p with|(a_0,c_1)=>rC a_0 c_1⟩
theorem TX:cV prog 135 SX:=cH mixed dK (dg:=dg) (np:=2) (an:=[]) .nil (by kernel_rfl) (by kernel_rfl)
def bZ(s_0:Sl bI)(f_1_c0:Int):Int->Option (Int⊕(Int⊕Unit)):=fun i2=>
 bif decide (i2<(s_0.l.length:Int))then((fw i2 s_0.l.length).bind fun n3=>
 (rC (gt s_0.l n3) f_1_c0).bind fun r4=>
 bif r4 then(some (.inr (.inl i2)))else
 (some (.inl (wr .i64 (i2+1)))))else
 (some (.inr (.inr ())))
def dm(s_0:Sl bI)(f_1_c0:Int):Option Int:=
 (bE (bZ s_0 f_1_c0) 0).bind fun
 |.inl i5=>(some i5)
 |.inr _=>(some (-1))
def SW:lD:=⟨[(false,.x (.sl y7)),(false,.fn 135 (.pr (.pt (.i .i64)) .ni))],[([.x (.i .i64)],[])],true,[],fun p=>match p with|(s_0,f_1_c0)=>dm s_0 f_1_c0⟩
theorem TW:cV prog 138 SW:=cH mixed dK (dg:=dg) (np:=2) (an:=[(5,{j:=some {vs:=[(8,.x (.i .i64))]},e:=[(.ret,{vs:=[(4,.x (.i .i64))]}),(.exit 0,{})]})]) (.cons TX .nil) (by kernel_rfl) (by kernel_rfl)
def df(s_0:Sl bI)(f_1_c0:Int):Option Bool:=
 (dm s_0 f_1_c0).bind fun r1=>
 some (decide (r1>=0))
def SV:lD:=⟨[(false,.x (.sl y7)),(false,.fn 135 (.pr (.pt (.i .i64)) .ni))],[([.x .b],[])],true,[],fun p=>match p with|(s_0,f_1_c0)=>df s_0 f_1_c0⟩
theorem TU:cV prog 134 SV:=cH mixed dK (dg:=dg) (np:=2) (an:=[]) (.cons TW .nil) (by kernel_rfl) (by kernel_rfl)
def rD(n_0:Int)(l_1:Sl bI):Option Bool:=
 bif(((decide (n_0<0))||(decide (n_0>64)))||(decide ((l_1.l.length:Int)>256)))then(some false)else
 ((df l_1 n_0).bind fun r1=>
 some (!r1))
def SU:lD:=⟨[(false,.x (.i .i64)),(false,.x (.sl y7))],[([.x .b],[])],true,[],fun p=>match p with|(n_0,l_1)=>rD n_0 l_1⟩
theorem TT:cV prog 122 SU:=cH mixed dK (dg:=dg) (np:=2) (an:=[]) (.cons TU .nil) (by kernel_rfl) (by kernel_rfl)
def iC(l_1:Sl bI):(Int×Int×Sl Int×Sl Int)->Option ((Int×Int×Sl Int×Sl Int)⊕(Int×Sl Int×Sl Int)):=fun(i19,i20,s21,s22)=>
 bif decide (i20<(l_1.l.length:Int))then(((fw i20 l_1.l.length).bind fun n23=>
 (fw (bI.I (gt l_1.l n23)) s21.l.length).bind fun n24=>
 (fw (bI.J (gt l_1.l n23)) s21.l.length).bind fun n25=>
 bif decide ((wr .i64 ((gt s21.l n24)+(bI.SI (gt l_1.l n23))))>(gt s21.l n25))then((fw (bI.J (gt l_1.l n23)) s21.l.length).bind fun n26=>
 (fw (bI.J (gt l_1.l n23)) s22.l.length).bind fun n27=>
 some (bI.J (gt l_1.l n23),(Sl.mk (s21.l.set n26 (wr .i64 ((gt s21.l n24)+(bI.SI (gt l_1.l n23)))))),(Sl.mk (s22.l.set n27 i20))))else
 (some (i19,s21,s22)):Option (Int×Sl Int×Sl Int)).bind fun(i28,s29,s30)=>
 some (.inl (i28,wr .i64 (i20+1),s29,s30)))else
 (some (.inr (i19,s21,s22)))
def mZ(n_0:Int)(l_1:Sl bI):(Int×Int×Sl Int×Sl Int)->Option ((Int×Int×Sl Int×Sl Int)⊕(Int×Sl Int×Sl Int)):=fun(i9,i10,s11,s12)=>
 bif decide (i10<(wr .i64 (n_0+1)))then((bE (iC l_1) ((-1),0,s11,s12)).bind fun(i31,s32,s33)=>
 bif decide (i31<0)then(some (.inr (i31,s32,s33)))else
 (some (.inl (i31,wr .i64 (i10+1),s32,s33))))else
 (some (.inr (i9,s11,s12)))
def tK(n_0:Int)(l_1:Sl bI):Option (Sl Int×Sl Int×Int):=
 (zE 0 n_0 n_0).bind fun l1=>
 (zE 0 n_0 n_0).bind fun l2=>
 (bE (mZ n_0 l_1) ((-1),0,(Sl.mk l1),(Sl.mk l2))).bind fun(i34,s35,s36)=>
 some (s35,s36,i34)
def SS:lD:=⟨[(false,.x (.i .i64)),(false,.x (.sl y7))],[([.x (.sl (.i .i64)),.x (.sl (.i .i64)),.x (.i .i64)],[])],false,[],fun p=>match p with|(n_0,l_1)=>tK n_0 l_1⟩
theorem TS:cV prog 123 SS:=cH mixed dK (dg:=dg) (np:=2) (an:=[(10,{j:=some {vs:=[(7,.so 0),(8,.so 1),(9,.x (.i .i64)),(19,.x (.i .i64))],os:=[.ar (.i .i64),.ar (.i .i64)],kl:=[1000000,3000000]},e:=[(.exit 0,{vs:=[(7,.so 0),(8,.so 1),(9,.x (.i .i64))],os:=[.ar (.i .i64),.ar (.i .i64)],kl:=[1000000,3000000]})]}),(20,{j:=some {vs:=[(7,.so 0),(8,.so 1),(9,.x (.i .i64)),(23,.x (.i .i64))],os:=[.ar (.i .i64),.ar (.i .i64)],kl:=[6000000,6000001]},e:=[(.exit 2,{vs:=[(7,.so 0),(8,.so 1),(9,.x (.i .i64))],os:=[.ar (.i .i64),.ar (.i .i64)],kl:=[6000000,6000001]})]}),(24,{e:=[(.normal,{vs:=[(7,.so 0),(8,.so 1),(9,.x (.i .i64))],os:=[.ar (.i .i64),.ar (.i .i64)],kl:=[6000002,6000003]})]})]) .nil (by kernel_rfl) (by kernel_rfl)
def qp(n_0:Int)(l_1:Sl bI):Option (Sl Int×Bool):=
 (rD n_0 l_1).bind fun r1=>
 bif(!r1)then(some (Sl.nil,false))else
 ((tK n_0 l_1).bind fun(r2,r3,r4)=>
 bif decide (r4>=0)then(some (Sl.nil,false))else
 (some (r2,true)))
def SR:lD:=⟨[(false,.x (.i .i64)),(false,.x (.sl y7))],[([.x (.sl (.i .i64)),.x .b],[])],false,[],fun p=>match p with|(n_0,l_1)=>qp n_0 l_1⟩
theorem TR:cV prog 86 SR:=cH mixed dK (dg:=dg) (np:=2) (an:=[]) (.cons TT (.cons TS .nil)) (by kernel_rfl) (by kernel_rfl)
def lT(n_0:Int)(gap_1:Int):(Int×Sl bI)->Option ((Int×Sl bI)⊕(Sl bI)):=fun(i4,s5)=>
 bif decide (i4<n_0)then((jF (s5.l++[(⟨wr .i64 (i4-1),i4,gap_1⟩:bI)])).bind fun l6=>
 some (.inl (wr .i64 (i4+1),(Sl.mk l6))))else
 (some (.inr s5))
def pn(n_0:Int)(gap_1:Int):Option (Sl Int):=
 (bE (lT n_0 gap_1) (1,Sl.nil)).bind fun s7=>
 (qp n_0 s7).bind fun(r8,r9)=>
 some r8
def SQ:lD:=⟨[(false,.x (.i .i64)),(false,.x (.i .i64))],[([.x (.sl (.i .i64))],[])],false,[],fun p=>match p with|(n_0,gap_1)=>pn n_0 gap_1⟩
theorem TQ:cV prog 53 SQ:=cH mixed dK (dg:=dg) (np:=2) (an:=[(7,{j:=some {vs:=[(5,.so 0),(6,.x (.i .i64))],os:=[.ar y7]},e:=[(.exit 0,{vs:=[(5,.so 0)],os:=[.ar y7]})]})]) (.cons TR .nil) (by kernel_rfl) (by kernel_rfl)
def kX(l_0:Sl ae)(round_1:Int):(Int×Sl Int)->Option ((Int×Sl Int)⊕(Sl Int)):=fun(i4,s5)=>
 bif decide (i4<(l_0.l.length:Int))then(((fw i4 l_0.l.length).bind fun n6=>
 (bif((ae.vD (gt l_0.l n6))==round_1)then((cL s5 (ae.Sw (gt l_0.l n6))).bind fun r7=>
 some (!r7))else
 (some false):Option Bool).bind fun b8=>
 bif b8 then((jF (s5.l++[ae.Sw (gt l_0.l n6)])).bind fun l9=>
 some (Sl.mk l9))else
 (some s5):Option (Sl Int)).bind fun s10=>
 some (.inl (wr .i64 (i4+1),s10)))else
 (some (.inr s5))
def uZ(l_0:Sl ae)(round_1:Int):Option (Sl Int):=
 (bE (kX l_0 round_1) (0,Sl.nil)).bind fun s11=>
 some s11
def SP:lD:=⟨[(false,.x (.sl y4)),(false,.x (.i .i64))],[([.x (.sl (.i .i64))],[])],false,[],fun p=>match p with|(l_0,round_1)=>uZ l_0 round_1⟩
theorem TP:cV prog 55 SP:=cH mixed dK (dg:=dg) (np:=2) (an:=[(7,{j:=some {vs:=[(5,.so 0),(10,.x (.i .i64))],os:=[.ar (.i .i64)]},e:=[(.exit 0,{vs:=[(5,.so 0)],os:=[.ar (.i .i64)]})]}),(11,{e:=[(.normal,{vs:=[(5,.so 0)],os:=[.ar (.i .i64)],kl:=[0]})]}),(15,{j:=some {vs:=[(24,.x .b)]}})]) (.cons NR .nil) (by kernel_rfl) (by kernel_rfl)
def mM(at_3:Int)(miss_4:Int)(lead_5:Int)(r5:Sl ae)(r7:Int)(r8:Sl Int)(r10:Sl Int):(Int×Sl ae×Int×Int×Int×Int×Sl aj)->Option ((Int×Sl ae×Int×Int×Int×Int×Sl aj)⊕(Sl ae×Int×Int×Int×Int×Sl aj)):=fun(i19,s20,i21,i22,i23,i24,s25)=>
 bif decide (i19<(r10.l.length:Int))then((fw i19 r10.l.length).bind fun n26=>
 (fw i19 r8.l.length).bind fun n27=>
 (fw i19 r8.l.length).bind fun n28=>
 (uZ r5 (gt r8.l n28)).bind fun r29=>
 (jF (s25.l++[(⟨gt r8.l n27,wr .i64 ((wr .i64 ((wr .i64 ((wr .i64 ((wr .i64 (at_3+lead_5))+miss_4))+r7))+1))+(gt r10.l n26)),r29⟩:aj)])).bind fun l30=>
 some (.inl (wr .i64 (i19+1),s20,i21,i22,i23,i24,(Sl.mk l30))))else
 (some (.inr (s20,i21,i22,i23,i24,s25)))
def lu(t_0:ah)(old_1:Sl (Sl Int))(now_2:Sl (Sl Int))(at_3:Int)(miss_4:Int)(lead_5:Int):Option (bh×Int):=
 ((pV at_3 1099511627776).bind fun r1=>
 bif(!r1)then(some true)else
 ((pV miss_4 1048576).bind fun r2=>
 bif(!r2)then(some true)else
 ((pV lead_5 1048576).bind fun r3=>
 some (!r3))):Option Bool).bind fun b4=>
 bif b4 then(some ((⟨Sl.nil,Sl.nil,0,0,0,0⟩:bh),2))else
 ((mz t_0 old_1 now_2).bind fun(r5,r6)=>
 bif(r6 !=0)then(some ((⟨Sl.nil,Sl.nil,0,0,0,0⟩:bh),r6))else
 (bif((r5.l.length:Int)==0)then(some ((⟨Sl.nil,Sl.nil,0,0,0,0⟩:bh),7))else
 ((nD t_0).bind fun r7=>
 (mN r5).bind fun r8=>
 (nV t_0 miss_4).bind fun r9=>
 (pn (r8.l.length:Int) r9).bind fun r10=>
 (bE (mM at_3 miss_4 lead_5 r5 r7 r8 r10) (0,r5,miss_4,r7,0,0,Sl.nil)).bind fun(s31,i32,i33,i34,i35,s36)=>
 (fw (wr .i64 ((s36.l.length:Int)-1)) s36.l.length).bind fun n37=>
 bif decide ((wr .i64 ((aj.At (gt s36.l n37))+miss_4))>1099511627776)then(some ((⟨Sl.nil,Sl.nil,0,0,0,0⟩:bh),11))else
 (some ((⟨s31,s36,i32,i33,wr .i64 ((wr .i64 ((wr .i64 ((wr .i64 ((wr .i64 ((wr .i64 (at_3+lead_5))+miss_4))+r7))+1))-miss_4))-i33),wr .i64 ((aj.At (gt s36.l n37))+miss_4)⟩:dq),0)))))
def SO:lD:=⟨[(false,.x y0),(false,.x (.sl (.sl (.i .i64)))),(false,.x (.sl (.sl (.i .i64)))),(false,.x (.i .i64)),(false,.x (.i .i64)),(false,.x (.i .i64))],[([.x y3,.x (.i .i64)],[])],false,[],fun p=>match p with|(t_0,old_1,now_2,at_3,miss_4,lead_5)=>lu t_0 old_1 now_2 at_3 miss_4 lead_5⟩
theorem TO:cV prog 26 SO:=cH mixed dK (dg:=dg) (np:=6) (an:=[(4,{j:=some {vs:=[(33,.x .b)]}}),(27,{j:=some {vs:=[(16,.op 0 y3 []),(75,.x (.i .i64))],os:=[.bx y3 (.rc (.co (.x (.sl y4)) (.co (.so 1) (.co (.x (.i .i64)) (.co (.x (.i .i64)) (.co (.x (.i .i64)) (.co (.x (.i .i64)) .ni))))))),.ar y5],kl:=[5]},e:=[(.exit 1,{vs:=[(16,.op 0 y3 [])],os:=[.bx y3 (.rc (.co (.x (.sl y4)) (.co (.so 1) (.co (.x (.i .i64)) (.co (.x (.i .i64)) (.co (.x (.i .i64)) (.co (.x (.i .i64)) .ni))))))),.ar y5],kl:=[5]})]})]) (.cons T3 (.cons T1 (.cons RU (.cons TY (.cons RS (.cons TQ (.cons TP .nil))))))) (by kernel_rfl) (by kernel_rfl)
def nE(t_0:ah)(old_1:Sl (Sl Int))(now_2:Sl (Sl Int))(at_3:Int)(miss_4:Int)(lead_5:Int):Option Bool:=
 ((n_ t_0 old_1).bind fun r1=>
 bif(!r1)then(some true)else
 ((n_ t_0 now_2).bind fun r2=>
 some (!r2)):Option Bool).bind fun b3=>
 bif b3 then((j9).bind fun r4=>
 some r4)else
 ((lu t_0 old_1 now_2 at_3 miss_4 lead_5).bind fun(r5,r6)=>
 bif(r6 !=0)then((j9).bind fun r7=>
 some r7)else
 (((hZ t_0 old_1 now_2 r5).bind fun r8=>
 bif((r8.l.length:Int)==0)then((j9).bind fun r9=>
 some r9)else
 (some false):Option Bool).bind fun b10=>
 some b10))
def SN:lD:=⟨[(false,.x y0),(false,.x (.sl (.sl (.i .i64)))),(false,.x (.sl (.sl (.i .i64)))),(false,.x (.i .i64)),(false,.x (.i .i64)),(false,.x (.i .i64))],[([.x .b],[])],true,[],fun p=>match p with|(t_0,old_1,now_2,at_3,miss_4,lead_5)=>nE t_0 old_1 now_2 at_3 miss_4 lead_5⟩
theorem TN:cV prog 6 SN:=cH mixed dK (dg:=dg) (np:=6) (an:=[(4,{j:=some {vs:=[(24,.x .b)]}}),(15,{j:=some {vs:=[(12,.x .b)]}})]) (.cons Ur (.cons T5 (.cons TO (.cons RP .nil)))) (by kernel_rfl) (by kernel_rfl)
end Go.Proofs.YthcplpfiidlinaaDoor.J
