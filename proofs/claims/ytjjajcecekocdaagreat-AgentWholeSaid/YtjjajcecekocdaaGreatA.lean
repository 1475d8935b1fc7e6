/- What functions of the program compute, and that the model's run computes it. Conditions: as stated. -/
import Derived.Test.YtjjajcecekocdaaGreatAh
import Derived.Test.YtjjajcecekocdaaGreatChecked
import Derived.KernelRfl
open Go.Ev Go
noncomputable section
namespace Go.Proofs.YtjjajcecekocdaaGreat.A
abbrev prog:Program:=Tryz.prog
theorem mixed:prog.follows .mixedOrders=true:=by kernel_rfl
theorem bn:mJ:=R5 fun _=>rfl
def bz:ww:=fun f=>if f=3 then(true,[])else if f=4 then(true,[])else if f=5 then(true,[])else if f=6 then(true,[])else if f=7 then(true,[])else if f=9 then(true,[])else if f=10 then(true,[])else if f=11 then(false,[true])else if f=12 then(false,[true])else if f=13 then(false,[true,false])else if f=14 then(false,[true])else if f=15 then(false,[true,false])else if f=16 then(true,[])else if f=18 then(true,[])else if f=19 then(true,[])else if f=20 then(false,[true])else if f=21 then(true,[])else if f=22 then(false,[true])else if f=23 then(false,[true,false,false])else if f=24 then(false,[true])else if f=25 then(true,[])else if f=26 then(true,[])else if f=27 then(false,[true])else if f=28 then(false,[true])else if f=29 then(false,[true,false,false,false])else if f=30 then(false,[true])else if f=32 then(false,[true])else if f=34 then(true,[])else if f=36 then(false,[true,false,false,false])else if f=37 then(false,[true,false])else if f=39 then(true,[])else if f=40 then(true,[])else if f=41 then(true,[])else if f=42 then(true,[])else if f=45 then(true,[])else if f=46 then(false,[true,false,false])else if f=48 then(true,[])else if f=52 then(true,[])else if f=54 then(false,[true,false,false])else if f=55 then(false,[true,false])else if f=56 then(false,[true,false,false,false])else if f=58 then(false,[true])else if f=59 then(false,[true])else if f=60 then(false,[true,false])else if f=61 then(true,[])else if f=64 then(true,[])else if f=65 then(true,[])else if f=66 then(true,[])else if f=67 then(true,[])else if f=68 then(true,[])else if f=69 then(true,[])else if f=73 then(true,[])else if f=74 then(true,[])else if f=75 then(true,[])else if f=77 then(true,[])else if f=78 then(true,[])else if f=79 then(true,[])else if f=80 then(false,[true,false])else if f=81 then(false,[true,false,false])else if f=82 then(false,[true,false])else if f=83 then(false,[true,false])else if f=85 then(true,[])else if f=86 then(true,[])else if f=89 then(true,[])else if f=90 then(true,[])else if f=92 then(true,[])else if f=93 then(false,[true,false])else if f=94 then(true,[])else if f=95 then(true,[])else if f=96 then(true,[])else if f=98 then(true,[])else if f=99 then(true,[])else if f=101 then(true,[])else if f=102 then(true,[])else if f=103 then(true,[])else if f=104 then(true,[])else if f=108 then(true,[])else if f=109 then(true,[])else if f=110 then(true,[])else if f=111 then(false,[true,false])else if f=112 then(true,[])else if f=114 then(false,[true,false])else if f=115 then(false,[true])else if f=116 then(false,[true,false])else if f=117 then(true,[])else if f=118 then(true,[])else if f=119 then(true,[])else if f=121 then(true,[])else if f=124 then(false,[true,false])else if f=125 then(true,[])else if f=126 then(true,[])else if f=127 then(true,[])else if f=129 then(false,[true,false,false])else if f=130 then(false,[true,false])else if f=131 then(false,[true,false])else if f=132 then(true,[])else if f=133 then(true,[])else if f=134 then(true,[])else if f=135 then(true,[])else if f=136 then(true,[])else if f=137 then(true,[])else if f=144 then(true,[])else if f=149 then(true,[])else if f=150 then(true,[])else if f=151 then(true,[])else if f=152 then(true,[])else if f=153 then(true,[])else if f=154 then(true,[])else if f=155 then(true,[])else if f=156 then(true,[])else if f=157 then(false,[true,false,true])else if f=158 then(true,[])else if f=164 then(true,[])else if f=165 then(true,[])else if f=166 then(true,[])else if f=167 then(false,[false,false,false,false,false,false,false,false,false])else if f=168 then(false,[true,false])else if f=170 then(false,[true,false])else(false,[])
@[reducible] def aj:Type:=Int×Arr 4 Int×Arr 4 Int
@[reducible] def aj.dk (x:aj):Int:=x.1
@[reducible] def aj.vH (x:aj):Arr 4 Int:=x.2.1
@[reducible] def aj.nT (x:aj):Arr 4 Int:=x.2.2
@[reducible] def aT:Type:=Int×Int×Int
@[reducible] def aT.bh (x:aT):Int:=x.1
@[reducible] def aT.F (x:aT):Int:=x.2.1
@[reducible] def aT.V (x:aT):Int:=x.2.2
@[reducible] def ae:Type:=Int×aj×Sl aT
@[reducible] def ae.c9 (x:ae):Int:=x.1
@[reducible] def ae.M (x:ae):aj:=x.2.1
@[reducible] def ae.iK (x:ae):Sl aT:=x.2.2
@[reducible] def ai:Type:=Int×ae×Bool
@[reducible] def ai.bh (x:ai):Int:=x.1
@[reducible] def ai.R (x:ai):ae:=x.2.1
@[reducible] def ai.iY (x:ai):Bool:=x.2.2
@[reducible] def ad:Type:=Int×Int×Int×Int×Int×Int×Int×Int×Int×Sl ai
@[reducible] def ad.bh (x:ad):Int:=x.1
@[reducible] def ad.Sw (x:ad):Int:=x.2.1
@[reducible] def ad.U (x:ad):Int:=x.2.2.1
@[reducible] def ad.Rd (x:ad):Int:=x.2.2.2.1
@[reducible] def ad.T1 (x:ad):Int:=x.2.2.2.2.1
@[reducible] def ad.T2 (x:ad):Int:=x.2.2.2.2.2.1
@[reducible] def ad.CV (x:ad):Int:=x.2.2.2.2.2.2.1
@[reducible] def ad.Of (x:ad):Int:=x.2.2.2.2.2.2.2.1
@[reducible] def ad.Code (x:ad):Int:=x.2.2.2.2.2.2.2.2.1
@[reducible] def ad.gi (x:ad):Sl ai:=x.2.2.2.2.2.2.2.2.2
@[reducible] def y1:Ty:=.st (.pr (.i .i64) (.pr (.ar 4 (.i .i64)) (.ar 4 (.i .i64))))
@[reducible] def y2:Ty:=.st (.pr (.i .i64) (.pr (.i .i64) (.i .i64)))
@[reducible] def y0:Ty:=.st (.pr (.i .i64) (.pr y1 (.sl y2)))
@[reducible] def y3:Ty:=.st (.pr (.i .i64) (.pr y0 .b))
@[reducible] def y4:Ty:=.st (.pr (.i .i64) (.pr (.i .i64) (.pr (.i .i64) (.pr (.i .i64) (.pr (.i .i64) (.pr (.i .i64) (.pr (.i .i64) (.pr (.i .i64) (.pr (.i .i64) (.sl y3))))))))))
@[reducible] def aZ:Type:=Int×Int
@[reducible] def aZ.bh (x:aZ):Int:=x.1
@[reducible] def aZ.Rd (x:aZ):Int:=x.2
@[reducible] def y5:Ty:=.st (.pr (.i .i64) (.i .i64))
@[reducible] def jK:Type:=Int×Arr 4 Int
@[reducible] def jK.dk (x:jK):Int:=x.1
@[reducible] def jK.P (x:jK):Arr 4 Int:=x.2
@[reducible] def y6:Ty:=.st (.pr (.i .i64) (.ar 4 (.i .i64)))
@[reducible] def aE:Type:=Int×Int×Int×ad×Arr 4 Int
@[reducible] def aE.bh (x:aE):Int:=x.1
@[reducible] def aE.Kc (x:aE):Int:=x.2.1
@[reducible] def aE.dk (x:aE):Int:=x.2.2.1
@[reducible] def aE.M (x:aE):ad:=x.2.2.2.1
@[reducible] def aE.P (x:aE):Arr 4 Int:=x.2.2.2.2
@[reducible] def aB:Type:=Int×Sl ae
@[reducible] def aB.rd (x:aB):Int:=x.1
@[reducible] def aB.e9 (x:aB):Sl ae:=x.2
@[reducible] def y7:Ty:=.st (.sl (.i .i64))
@[reducible] def y9:Ty:=.st (.pr (.i .i64) (.sl y0))
@[reducible] def y8:Ty:=.st (.pr (.i .i64) (.pr (.i .i64) (.pr .b (.pr (.i .i64) (.pr (.i .i64) (.pr (.sl y0) (.pr (.mp (.i .i64) (.sl y3)) (.pr (.mp (.i .i64) (.i .i64)) (.pr (.o 1) (.pr (.sl y9) (.mp (.i .i64) (.i .i64))))))))))))
@[reducible] def Tc:Ty:=.st (.pr (.i .i64) (.pr (.i .i64) (.pr (.i .i64) (.pr y4 (.ar 4 (.i .i64))))))
@[reducible] def av:Type:=Int×Arr 16 Bool×Arr 16 ai×Int
@[reducible] def av.uX (x:av):Int:=x.1
@[reducible] def av.AB (x:av):Arr 16 Bool:=x.2.1
@[reducible] def av.l (x:av):Arr 16 ai:=x.2.2.1
@[reducible] def av.n (x:av):Int:=x.2.2.2
@[reducible] def tu:Ty:=.st (.pr (.i .i64) (.pr (.ar 16 .b) (.pr (.ar 16 y3) (.i .i64))))
def vG:Option Bool:=some false
def Zw:fJ:=⟨[(true,.nl 1)],[([.x .b],[.nl 1])],false,[true],fun p=>match p with|_=>vG⟩
def rC(kind_0:Int):Option Int:=
 bif(kind_0==1)then(some 1)else
 (bif(kind_0==2)then(some 7)else
 (bif(kind_0==3)then(some 152)else
 (bif(kind_0==4)then(some 26)else
 (bif(kind_0==5)then(some 24)else
 (bif(kind_0==6)then(some 72)else
 (bif(kind_0==7)then(some 60)else
 (bif(kind_0==8)then(some 124)else
 (some 0))))))))
def Zv:fJ:=⟨[(false,.x (.i .i64))],[([.x (.i .i64)],[])],true,[],fun p=>match p with|kind_0=>rC kind_0⟩
theorem ZB:bf prog 73 Zv:=aV mixed bn (bz:=bz) (np:=1) (an:=[]) .nil (by kernel_rfl) (by kernel_rfl)
def kY(n_0:Int)(from_1:Int)(to_2:Int):Option Bool:=some ((decide (n_0>=from_1))&&(decide (n_0<=to_2)))
def Zu:fJ:=⟨[(false,.x (.i .i64)),(false,.x (.i .i64)),(false,.x (.i .i64))],[([.x .b],[])],true,[],fun p=>match p with|(n_0,from_1,to_2)=>kY n_0 from_1 to_2⟩
theorem Ze:bf prog 74 Zu:=aV mixed bn (bz:=bz) (np:=3) (an:=[]) .nil (by kernel_rfl) (by kernel_rfl)
theorem ZA:bf prog 76 (EO):=MQ
def tK(a_0:ae)(b_1:ae):Option Bool:=some (((ae.c9 a_0)==(ae.c9 b_1))&&(decide ((ae.M a_0)=(ae.M b_1))))
def Zt:fJ:=⟨[(false,.x y0),(false,.x y0)],[([.x .b],[])],true,[],fun p=>match p with|(a_0,b_1)=>tK a_0 b_1⟩
theorem Zd:bf prog 69 Zt:=aV mixed bn (bz:=bz) (np:=2) (an:=[]) .nil (by kernel_rfl) (by kernel_rfl)
def cU(s1_0:Sl aT)(s2_1:Sl aT):Int->Option (Int⊕(Bool⊕Unit)):=fun i2=>
 bif decide (i2<(s1_0.l.length:Int))then((eX i2 s1_0.l.length).bind fun n3=>
 (eX i2 s2_1.l.length).bind fun n4=>
 bif(!(decide ((gt s1_0.l n3)=(gt s2_1.l n4))))then(some (.inr (.inl false)))else
 (some (.inl (wr .i64 (i2+1)))))else
 (some (.inr (.inr ())))
def d_(s1_0:Sl aT)(s2_1:Sl aT):Option Bool:=
 bif((s1_0.l.length:Int) !=(s2_1.l.length:Int))then(some false)else
 ((bw (cU s1_0 s2_1) 0).bind fun
 |.inl b5=>(some b5)
 |.inr _=>(some true))
def Zs:fJ:=⟨[(false,.x (.sl y2)),(false,.x (.sl y2))],[([.x .b],[])],true,[],fun p=>match p with|(s1_0,s2_1)=>d_ s1_0 s2_1⟩
theorem Zz:bf prog 166 Zs:=aV mixed bn (bz:=bz) (np:=2) (an:=[(10,{j:=some {vs:=[(13,.x (.i .i64))]},e:=[(.ret,{vs:=[(4,.x .b)]}),(.exit 0,{})]})]) .nil (by kernel_rfl) (by kernel_rfl)
def wu(a_0:Sl aT)(b_1:Sl aT):Option Bool:=
 (d_ a_0 b_1).bind fun r1=>
 some r1
def Zr:fJ:=⟨[(false,.x (.sl y2)),(false,.x (.sl y2))],[([.x .b],[])],true,[],fun p=>match p with|(a_0,b_1)=>wu a_0 b_1⟩
theorem Zy:bf prog 152 Zr:=aV mixed bn (bz:=bz) (np:=2) (an:=[]) (.cons Zz .nil) (by kernel_rfl) (by kernel_rfl)
def ou(a_0:ae)(b_1:ae):Option Bool:=
 ((tK a_0 b_1).bind fun r1=>
 bif r1 then((wu (ae.iK a_0) (ae.iK b_1)).bind fun r2=>
 some r2)else
 (some false):Option Bool).bind fun b3=>
 some b3
def Zq:fJ:=⟨[(false,.x y0),(false,.x y0)],[([.x .b],[])],true,[],fun p=>match p with|(a_0,b_1)=>ou a_0 b_1⟩
theorem Zc:bf prog 121 Zq:=aV mixed bn (bz:=bz) (np:=2) (an:=[(3,{j:=some {vs:=[(4,.x .b)]}})]) (.cons Zd (.cons Zy .nil)) (by kernel_rfl) (by kernel_rfl)
def pS(a_0:ai)(b_1:ai):Option Bool:=
 (bif(((ai.bh a_0)==(ai.bh b_1))&&((ai.iY a_0)==(ai.iY b_1)))then((ou (ai.R a_0) (ai.R b_1)).bind fun r1=>
 some r1)else
 (some false):Option Bool).bind fun b2=>
 some b2
def Xy:fJ:=⟨[(false,.x y3),(false,.x y3)],[([.x .b],[])],true,[],fun p=>match p with|(a_0,b_1)=>pS a_0 b_1⟩
theorem Yx:bf prog 109 Xy:=aV mixed bn (bz:=bz) (np:=2) (an:=[(3,{j:=some {vs:=[(4,.x .b)]}})]) (.cons Zc .nil) (by kernel_rfl) (by kernel_rfl)
def bO(s1_0:Sl ai)(s2_1:Sl ai):Int->Option (Int⊕(Bool⊕Unit)):=fun i2=>
 bif decide (i2<(s1_0.l.length:Int))then((eX i2 s1_0.l.length).bind fun n3=>
 (eX i2 s2_1.l.length).bind fun n4=>
 (pS (gt s1_0.l n3) (gt s2_1.l n4)).bind fun r5=>
 bif(!r5)then(some (.inr (.inl false)))else
 (some (.inl (wr .i64 (i2+1)))))else
 (some (.inr (.inr ())))
def bR(s1_0:Sl ai)(s2_1:Sl ai):Option Bool:=
 bif((s1_0.l.length:Int) !=(s2_1.l.length:Int))then(some false)else
 ((bw (bO s1_0 s2_1) 0).bind fun
 |.inl b6=>(some b6)
 |.inr _=>(some true))
def Xx:fJ:=⟨[(false,.x (.sl y3)),(false,.x (.sl y3)),(false,.fn 109 .ni)],[([.x .b],[])],true,[],fun p=>match p with|(s1_0,s2_1)=>bR s1_0 s2_1⟩
theorem Yw:bf prog 108 Xx:=aV mixed bn (bz:=bz) (np:=3) (an:=[(10,{j:=some {vs:=[(17,.x (.i .i64))]},e:=[(.ret,{vs:=[(6,.x .b)]}),(.exit 0,{})]})]) (.cons Yx .nil) (by kernel_rfl) (by kernel_rfl)
def pT(a_0:ad)(b_1:ad):Option Bool:=
 (bif((((((((((ad.bh a_0)==(ad.bh b_1))&&((ad.Sw a_0)==(ad.Sw b_1)))&&((ad.U a_0)==(ad.U b_1)))&&((ad.Rd a_0)==(ad.Rd b_1)))&&((ad.T1 a_0)==(ad.T1 b_1)))&&((ad.T2 a_0)==(ad.T2 b_1)))&&((ad.CV a_0)==(ad.CV b_1)))&&((ad.Of a_0)==(ad.Of b_1)))&&((ad.Code a_0)==(ad.Code b_1)))then((bR (ad.gi a_0) (ad.gi b_1)).bind fun r1=>
 some r1)else
 (some false):Option Bool).bind fun b2=>
 some b2
def Xw:fJ:=⟨[(false,.x y4),(false,.x y4)],[([.x .b],[])],true,[],fun p=>match p with|(a_0,b_1)=>pT a_0 b_1⟩
theorem U3:bf prog 75 Xw:=aV mixed bn (bz:=bz) (np:=2) (an:=[(3,{j:=some {vs:=[(4,.x .b)]}})]) (.cons Yw .nil) (by kernel_rfl) (by kernel_rfl)
def xD(f_0:Int):Option Int:=
 (bif(f_0==0)then(some (f_0==0))else
 (bif(f_0==1)then(some (f_0==1))else
 (some (f_0==3))):Option Bool).bind fun b1=>
 bif b1 then(some 8)else
 (bif(f_0==2)then(some 4)else
 (some 0))
def Xv:fJ:=⟨[(false,.x (.i .i64))],[([.x (.i .i64)],[])],true,[],fun p=>match p with|f_0=>xD f_0⟩
theorem Yv:bf prog 136 Xv:=aV mixed bn (bz:=bz) (np:=1) (an:=[(5,{e:=[(.normal,{vs:=[(4,.x .b)]})]})]) .nil (by kernel_rfl) (by kernel_rfl)
def pU(f_0:Int):Option Int:=
 (xD f_0).bind fun r1=>
 (NZ .i64 1 r1).bind fun i2=>
 some (wr .i64 (i2-1))
def Xu:fJ:=⟨[(false,.x (.i .i64))],[([.x (.i .i64)],[])],true,[],fun p=>match p with|f_0=>pU f_0⟩
theorem Rs:bf prog 101 Xu:=aV mixed bn (bz:=bz) (np:=1) (an:=[]) (.cons Yv .nil) (by kernel_rfl) (by kernel_rfl)
def pZ(m_0:aj):Int->Option (Int⊕(Bool⊕Unit)):=fun i2=>
 bif decide (i2<4)then((eX i2 4).bind fun n3=>
 (bif decide ((gt ((aj.nT m_0).1) n3)<0)then(some true)else
 ((pU i2).bind fun r4=>
 bif decide ((gt ((aj.nT m_0).1) n3)>r4)then(some true)else
 ((eX i2 4).bind fun n5=>
 bif decide ((gt ((aj.vH m_0).1) n5)<0)then(some true)else
 ((eX i2 4).bind fun n6=>
 some ((qT .i64 (gt ((aj.vH m_0).1) n6) (gt ((aj.nT m_0).1) n3)) !=0)))):Option Bool).bind fun b7=>
 bif b7 then(some (.inr (.inl false)))else
 (some (.inl (wr .i64 (i2+1)))))else
 (some (.inr (.inr ())))
def qL(m_0:aj):Option Bool:=
 bif((decide ((aj.dk m_0)<(-1)))||(decide ((aj.dk m_0)>=8)))then(some false)else
 ((bw (pZ m_0) 0).bind fun
 |.inl b8=>(some b8)
 |.inr _=>(some true))
def Xt:fJ:=⟨[(false,.x y1)],[([.x .b],[])],true,[],fun p=>match p with|m_0=>qL m_0⟩
theorem Yu:bf prog 65 Xt:=aV mixed bn (bz:=bz) (np:=1) (an:=[(10,{j:=some {vs:=[(15,.x (.i .i64))]},e:=[(.ret,{vs:=[(2,.x .b)]}),(.exit 0,{})]}),(18,{j:=some {vs:=[(42,.x .b)]}})]) (.cons Rs .nil) (by kernel_rfl) (by kernel_rfl)
def uK(a_0:aT)(ports_1:Int):Option Bool:=
 bif((aT.bh a_0)==1)then((bif(((decide ((aT.F a_0)>=0))&&(decide ((aT.F a_0)<4)))&&(decide ((aT.V a_0)>=0)))then((pU (aT.F a_0)).bind fun r1=>
 some (decide ((aT.V a_0)<=r1)))else
 (some false):Option Bool).bind fun b2=>
 some b2)else
 (bif((aT.bh a_0)==2)then(some ((((aT.F a_0)==0)&&(decide ((aT.V a_0)>=0)))&&(decide ((aT.V a_0)<ports_1))))else
 (some (decide (a_0=(⟨3,0,0⟩:aT)))))
def Xs:fJ:=⟨[(false,.x y2),(false,.x (.i .i64))],[([.x .b],[])],true,[],fun p=>match p with|(a_0,ports_1)=>uK a_0 ports_1⟩
theorem Yt:bf prog 104 Xs:=aV mixed bn (bz:=bz) (np:=2) (an:=[(8,{j:=some {vs:=[(4,.x .b)]}})]) (.cons Rs .nil) (by kernel_rfl) (by kernel_rfl)
def qW(a_0:aT)(c_1:Int):Option Bool:=
 (uK a_0 c_1).bind fun r1=>
 some (!r1)
def Xr:fJ:=⟨[(false,.x y2),(false,.pt (.i .i64))],[([.x .b],[])],true,[],fun p=>match p with|(a_0,c_1)=>qW a_0 c_1⟩
theorem Ys:bf prog 103 Xr:=aV mixed bn (bz:=bz) (np:=2) (an:=[]) (.cons Yt .nil) (by kernel_rfl) (by kernel_rfl)
def cY(s_0:Sl aT)(f_1_c0:Int):Int->Option (Int⊕(Int⊕Unit)):=fun i2=>
 bif decide (i2<(s_0.l.length:Int))then((eX i2 s_0.l.length).bind fun n3=>
 (qW (gt s_0.l n3) f_1_c0).bind fun r4=>
 bif r4 then(some (.inr (.inl i2)))else
 (some (.inl (wr .i64 (i2+1)))))else
 (some (.inr (.inr ())))
def dq(s_0:Sl aT)(f_1_c0:Int):Option Int:=
 (bw (cY s_0 f_1_c0) 0).bind fun
 |.inl i5=>(some i5)
 |.inr _=>(some (-1))
def Xq:fJ:=⟨[(false,.x (.sl y2)),(false,.fn 103 (.pr (.pt (.i .i64)) .ni))],[([.x (.i .i64)],[])],true,[],fun p=>match p with|(s_0,f_1_c0)=>dq s_0 f_1_c0⟩
theorem Yr:bf prog 137 Xq:=aV mixed bn (bz:=bz) (np:=2) (an:=[(5,{j:=some {vs:=[(8,.x (.i .i64))]},e:=[(.ret,{vs:=[(4,.x (.i .i64))]}),(.exit 0,{})]})]) (.cons Ys .nil) (by kernel_rfl) (by kernel_rfl)
def ew(s_0:Sl aT)(f_1_c0:Int):Option Bool:=
 (dq s_0 f_1_c0).bind fun r1=>
 some (decide (r1>=0))
def Xp:fJ:=⟨[(false,.x (.sl y2)),(false,.fn 103 (.pr (.pt (.i .i64)) .ni))],[([.x .b],[])],true,[],fun p=>match p with|(s_0,f_1_c0)=>ew s_0 f_1_c0⟩
theorem Yq:bf prog 102 Xp:=aV mixed bn (bz:=bz) (np:=2) (an:=[]) (.cons Yr .nil) (by kernel_rfl) (by kernel_rfl)
def uL(l_0:Sl aT)(ports_1:Int):Option Bool:=
 (bif decide ((l_0.l.length:Int)<=16)then((ew l_0 ports_1).bind fun r1=>
 some (!r1))else
 (some false):Option Bool).bind fun b2=>
 some b2
def Xo:fJ:=⟨[(false,.x (.sl y2)),(false,.x (.i .i64))],[([.x .b],[])],true,[],fun p=>match p with|(l_0,ports_1)=>uL l_0 ports_1⟩
theorem Yp:bf prog 66 Xo:=aV mixed bn (bz:=bz) (np:=2) (an:=[(3,{j:=some {vs:=[(4,.x .b)]}})]) (.cons Yq .nil) (by kernel_rfl) (by kernel_rfl)
def ov(x_0:ae)(ports_1:Int):Option Bool:=
 (bif((decide ((ae.c9 x_0)>=0))&&(decide ((ae.c9 x_0)<65536)))then((qL (ae.M x_0)).bind fun r1=>
 bif r1 then((uL (ae.iK x_0) ports_1).bind fun r2=>
 some r2)else
 (some false))else
 (some false):Option Bool).bind fun b3=>
 some b3
def Xn:fJ:=⟨[(false,.x y0),(false,.x (.i .i64))],[([.x .b],[])],true,[],fun p=>match p with|(x_0,ports_1)=>ov x_0 ports_1⟩
theorem Rr:bf prog 40 Xn:=aV mixed bn (bz:=bz) (np:=2) (an:=[(3,{j:=some {vs:=[(4,.x .b)]}})]) (.cons Yu (.cons Yp .nil)) (by kernel_rfl) (by kernel_rfl)
def lU(m_0:ai):Option Bool:=
 ((kY (ai.bh m_0) 1 5).bind fun r1=>
 bif r1 then((ov (ai.R m_0) 8).bind fun r2=>
 some r2)else
 (some false):Option Bool).bind fun b3=>
 some b3
def Xm:fJ:=⟨[(false,.x y3)],[([.x .b],[])],true,[],fun p=>match p with|m_0=>lU m_0⟩
theorem Yo:bf prog 79 Xm:=aV mixed bn (bz:=bz) (np:=1) (an:=[(3,{j:=some {vs:=[(2,.x .b)]}})]) (.cons Ze (.cons Rr .nil)) (by kernel_rfl) (by kernel_rfl)
def rh(x_0:ai):Option Bool:=
 (lU x_0).bind fun r1=>
 some (!r1)
def Xl:fJ:=⟨[(false,.x y3)],[([.x .b],[])],true,[],fun p=>match p with|x_0=>rh x_0⟩
theorem Yn:bf prog 78 Xl:=aV mixed bn (bz:=bz) (np:=1) (an:=[]) (.cons Yo .nil) (by kernel_rfl) (by kernel_rfl)
def cQ(s_0:Sl ai):Int->Option (Int⊕(Int⊕Unit)):=fun i2=>
 bif decide (i2<(s_0.l.length:Int))then((eX i2 s_0.l.length).bind fun n3=>
 (rh (gt s_0.l n3)).bind fun r4=>
 bif r4 then(some (.inr (.inl i2)))else
 (some (.inl (wr .i64 (i2+1)))))else
 (some (.inr (.inr ())))
def eE(s_0:Sl ai):Option Int:=
 (bw (cQ s_0) 0).bind fun
 |.inl i5=>(some i5)
 |.inr _=>(some (-1))
def Xk:fJ:=⟨[(false,.x (.sl y3)),(false,.fn 78 .ni)],[([.x (.i .i64)],[])],true,[],fun p=>match p with|s_0=>eE s_0⟩
theorem Ym:bf prog 110 Xk:=aV mixed bn (bz:=bz) (np:=2) (an:=[(5,{j:=some {vs:=[(8,.x (.i .i64))]},e:=[(.ret,{vs:=[(4,.x (.i .i64))]}),(.exit 0,{})]})]) (.cons Yn .nil) (by kernel_rfl) (by kernel_rfl)
def cT(s_0:Sl ai):Option Bool:=
 (eE s_0).bind fun r1=>
 some (decide (r1>=0))
def Xj:fJ:=⟨[(false,.x (.sl y3)),(false,.fn 78 .ni)],[([.x .b],[])],true,[],fun p=>match p with|s_0=>cT s_0⟩
theorem Yl:bf prog 77 Xj:=aV mixed bn (bz:=bz) (np:=2) (an:=[]) (.cons Ym .nil) (by kernel_rfl) (by kernel_rfl)
def jD(m_0:ad):Option Bool:=
 (rC (ad.bh m_0)).bind fun r1=>
 (bif(r1==0)then(some true)else
 ((kY (ad.Sw m_0) 0 7).bind fun r2=>
 bif(!r2)then(some true)else
 ((mW m_0).bind fun r3=>
 (pT r3 m_0).bind fun r4=>
 some (!r4))):Option Bool).bind fun b5=>
 bif b5 then(some false)else
 ((bif((((ad.bh m_0)==5)||((ad.bh m_0)==7))||((ad.bh m_0)==8))then(some (-1))else
 (some 0):Option Int).bind fun i6=>
 ((kY (ad.T1 m_0) 0 1125899906842624).bind fun r7=>
 bif(!r7)then(some true)else
 ((kY (ad.T2 m_0) (-1125899906842624) 1125899906842624).bind fun r8=>
 bif(!r8)then(some true)else
 ((kY (ad.CV m_0) 0 65535).bind fun r9=>
 some (!r9))):Option Bool).bind fun b10=>
 bif b10 then(some false)else
 (((bif((oe .i64 r1 8) !=0)then((kY (ad.U m_0) 1 65535).bind fun r11=>
 some (!r11))else
 (some false):Option Bool).bind fun b12=>
 bif b12 then(some b12)else
 ((bif((oe .i64 r1 16) !=0)then((kY (ad.Rd m_0) i6 7).bind fun r13=>
 some (!r13))else
 (some false):Option Bool).bind fun b14=>
 bif b14 then(some b14)else
 ((bif((oe .i64 r1 32) !=0)then((kY (ad.Of m_0) 3 6).bind fun r15=>
 some (!r15))else
 (some false):Option Bool).bind fun b16=>
 some b16)):Option Bool).bind fun b17=>
 bif b17 then(some false)else
 ((kY (ad.Code m_0) 0 255).bind fun r18=>
 bif((!r18)||(decide ((((ad.gi m_0).l).length:Int)>16)))then(some false)else
 ((cT (ad.gi m_0)).bind fun r19=>
 some (!r19)))))
def Xi:fJ:=⟨[(false,.x y4)],[([.x .b],[])],true,[],fun p=>match p with|m_0=>jD m_0⟩
theorem Yk:bf prog 45 Xi:=aV mixed bn (bz:=bz) (np:=1) (an:=[(6,{j:=some {vs:=[(22,.x .b)]}}),(11,{e:=[(.normal,{vs:=[(4,.x (.i .i64))]})]}),(17,{j:=some {vs:=[(36,.x .b)]}}),(20,{e:=[(.normal,{vs:=[(53,.x .b)]})]}),(22,{j:=some {vs:=[(53,.x .b)]}}),(24,{j:=some {vs:=[(53,.x .b)]}}),(25,{j:=some {vs:=[(53,.x .b)]}})]) (.cons ZB (.cons Ze (.cons ZA (.cons U3 (.cons Yl .nil))))) (by kernel_rfl) (by kernel_rfl)
def og:Option (Sl ae):=some Sl.nil
def Xh:fJ:=⟨[(true,.nl 1)],[([.x (.sl y0)],[.nl 1])],false,[true],fun p=>match p with|_=>og⟩
theorem Yj:bf prog 11 Xh:=aV mixed bn (bz:=bz) (np:=1) (an:=[]) .nil (by kernel_rfl) (by kernel_rfl)
def qU:Option Int:=some 0
def Xg:fJ:=⟨[(true,.nl 1)],[([.x (.i .i64)],[.nl 1])],false,[true],fun p=>match p with|_=>qU⟩
theorem Yi:bf prog 12 Xg:=aV mixed bn (bz:=bz) (np:=1) (an:=[]) .nil (by kernel_rfl) (by kernel_rfl)
def Xz:ww:=fun f=>([10,19,34,40,41,42,45,52,65,66,67,69,73,74,75,77,78,79,88,89,90,92,101,102,108,109,110,112,120,121,126,127,136,137,144,149,152,153,158,164,165,166].contains f,(cm [(11,[true]),(13,[true]),(20,[true]),(23,[true]),(32,[true]),(36,[true]),(37,[true]),(46,[true]),(54,[true]),(55,[true]),(56,[true]),(58,[true]),(59,[true]),(60,[true]),(80,[true]),(81,[true]),(82,[true]),(83,[true]),(93,[true]),(111,[true]),(114,[true]),(115,[true]),(116,[true]),(124,[true]),(129,[true]),(130,[true]),(131,[true]),(157,[true,false,true]),(168,[true]),(170,[true]),(171,[true])] f).getD [])
def qM:Option Bool:=some true
theorem oD:qM=some true:=rfl
def Xf:fJ:=⟨[],[([.x .b],[])],true,[],fun _=>some true⟩
theorem Yh:bf prog 10 Xf:=KK (bz:=Xz) (ex:=YM) (d:=200) mixed Sc (by kernel_rfl)
def pO(a_0:ae)(b_1:ae):Option Bool:=some (decide ((ae.c9 a_0)>(ae.c9 b_1)))
def Xe:fJ:=⟨[(false,.x y0),(false,.x y0)],[([.x .b],[])],true,[],fun p=>match p with|(a_0,b_1)=>pO a_0 b_1⟩
theorem UE:bf prog 41 Xe:=aV mixed bn (bz:=bz) (np:=2) (an:=[]) .nil (by kernel_rfl) (by kernel_rfl)
def qu(y_0:ae)(c_1:ae):Option Bool:=
 (tK c_1 y_0).bind fun r1=>
 some r1
def Xd:fJ:=⟨[(false,.x y0),(false,.pt y0)],[([.x .b],[])],true,[],fun p=>match p with|(y_0,c_1)=>qu y_0 c_1⟩
theorem Yg:bf prog 68 Xd:=aV mixed bn (bz:=bz) (np:=2) (an:=[]) (.cons Zd .nil) (by kernel_rfl) (by kernel_rfl)
def cN(s_0:Sl ae)(f_1_c0:ae):Int->Option (Int⊕(Int⊕Unit)):=fun i2=>
 bif decide (i2<(s_0.l.length:Int))then((eX i2 s_0.l.length).bind fun n3=>
 (qu (gt s_0.l n3) f_1_c0).bind fun r4=>
 bif r4 then(some (.inr (.inl i2)))else
 (some (.inl (wr .i64 (i2+1)))))else
 (some (.inr (.inr ())))
def df(s_0:Sl ae)(f_1_c0:ae):Option Int:=
 (bw (cN s_0 f_1_c0) 0).bind fun
 |.inl i5=>(some i5)
 |.inr _=>(some (-1))
def Xc:fJ:=⟨[(false,.x (.sl y0)),(false,.fn 68 (.pr (.pt y0) .ni))],[([.x (.i .i64)],[])],true,[],fun p=>match p with|(s_0,f_1_c0)=>df s_0 f_1_c0⟩
theorem Yf:bf prog 67 Xc:=aV mixed bn (bz:=bz) (np:=2) (an:=[(5,{j:=some {vs:=[(8,.x (.i .i64))]},e:=[(.ret,{vs:=[(4,.x (.i .i64))]}),(.exit 0,{})]})]) (.cons Yg .nil) (by kernel_rfl) (by kernel_rfl)
def pG(t_0:Sl ae)(x_1:ae):Option Int:=
 (df t_0 x_1).bind fun r1=>
 some r1
def Xb:fJ:=⟨[(false,.x (.sl y0)),(false,.x y0)],[([.x (.i .i64)],[])],true,[],fun p=>match p with|(t_0,x_1)=>pG t_0 x_1⟩
theorem Rq:bf prog 42 Xb:=aV mixed bn (bz:=bz) (np:=2) (an:=[]) (.cons Yf .nil) (by kernel_rfl) (by kernel_rfl)
def nz(t_0:Sl ae)(ports_1:Int):Int->Option (Int⊕(Bool⊕Unit)):=fun i2=>
 bif decide (i2<(t_0.l.length:Int))then((eX i2 t_0.l.length).bind fun n3=>
 ((ov (gt t_0.l n3) ports_1).bind fun r4=>
 bif(!r4)then(some true)else
 (bif decide (i2>0)then((eX (wr .i64 (i2-1)) t_0.l.length).bind fun n5=>
 (pO (gt t_0.l n3) (gt t_0.l n5)).bind fun r6=>
 some r6)else
 (some false)):Option Bool).bind fun b7=>
 bif b7 then(some (.inr (.inl false)))else
 ((oX t_0.l 0 i2).bind fun l8=>
 (pG (t_0.to l8) (gt t_0.l n3)).bind fun r9=>
 bif decide (r9>=0)then(some (.inr (.inl false)))else
 (some (.inl (wr .i64 (i2+1))))))else
 (some (.inr (.inr ())))
def oN(t_0:Sl ae)(ports_1:Int)(room_2:Int):Option Bool:=
 bif decide ((t_0.l.length:Int)>room_2)then(some false)else
 ((bw (nz t_0 ports_1) 0).bind fun
 |.inl b10=>(some b10)
 |.inr _=>(some true))
def Xa:fJ:=⟨[(false,.x (.sl y0)),(false,.x (.i .i64)),(false,.x (.i .i64))],[([.x .b],[])],true,[],fun p=>match p with|(t_0,ports_1,room_2)=>oN t_0 ports_1 room_2⟩
theorem UD:bf prog 19 Xa:=aV mixed bn (bz:=bz) (np:=3) (an:=[(10,{j:=some {vs:=[(15,.x (.i .i64))]},e:=[(.ret,{vs:=[(6,.x .b)]}),(.exit 0,{})]}),(19,{j:=some {vs:=[(36,.x .b)]}})]) (.cons Rr (.cons UE (.cons Rq .nil))) (by kernel_rfl) (by kernel_rfl)
def eO(s_0:Sl ae):Option (Sl ae):=
 bif s_0.fF then(some Sl.nil)else
 ((ld ([]++s_0.l)).bind fun l1=>
 some (sP (Sl.mk []) s_0.l l1))
def W_:fJ:=⟨[(false,.x (.sl y0))],[([.x (.sl y0)],[])],false,[],fun p=>match p with|s_0=>eO s_0⟩
theorem UC:bf prog 31 W_:=aV mixed bn (bz:=bz) (np:=1) (an:=[]) .nil (by kernel_rfl) (by kernel_rfl)
def nL:Option (Sl Int):=some Sl.nil
def W9:fJ:=⟨[],[([.pb y7 (.st (.pr (.os (.i .i64)) .ni))],[])],false,[],fun p=>match p with|_=>nL⟩
theorem UB:bf prog 50 W9:=aV mixed bn (bz:=bz) (np:=0) (an:=[]) .nil (by kernel_rfl) (by kernel_rfl)
def qh(a_0_sw:Int)(a_0_room:Int)(a_0_up:Bool)(a_0_life:Int)(a_0_u:Int)(a_0_table:Sl ae)(a_0_done:Sl aB):Option (Int×Int×Bool×Int×Int×Sl ae×Mp Int (Sl ai)×Mp Int Int×Sl Int×Sl aB):=
 (nL).bind fun s1=>
 some (a_0_sw,a_0_room,a_0_up,a_0_life,a_0_u,a_0_table,(Mp.none:Mp Int (Sl ai)),(Mp.none:Mp Int Int),s1,a_0_done)
def W8:fJ:=⟨[(true,.pb y8 (.st (.pr (.x (.i .i64)) (.pr (.x (.i .i64)) (.pr (.x .b) (.pr (.x (.i .i64)) (.pr (.x (.i .i64)) (.pr (.x (.sl y0)) (.pr (.nl 3) (.pr (.nl 3) (.pr (.nl 1) (.pr (.os y9) (.pr (.nl 3) .ni)))))))))))))],[([],[.pb y8 (.st (.pr (.x (.i .i64)) (.pr (.x (.i .i64)) (.pr (.x .b) (.pr (.x (.i .i64)) (.pr (.x (.i .i64)) (.pr (.x (.sl y0)) (.pr (.mp (.i .i64) (.sl y3)) (.pr (.mp (.i .i64) (.i .i64)) (.pr (.pb y7 (.st (.pr (.os (.i .i64)) .ni))) (.pr (.os y9) (.pr (.nl 3) .ni))))))))))))])],false,[true],fun p=>match p with|(a_0_sw,a_0_room,a_0_up,a_0_life,a_0_u,a_0_table,a_0_done)=>qh a_0_sw a_0_room a_0_up a_0_life a_0_u a_0_table a_0_done⟩
theorem Ye:bf prog 32 W8:=aV mixed bn (bz:=bz) (np:=1) (an:=[]) (.cons UB .nil) (by kernel_rfl) (by kernel_rfl)
def rV(sw_0:Int)(t_1:Sl ae)(room_2:Int):Option (Int⊕(Int×Int×Bool×Int×Int×Sl ae×Mp Int (Sl ai)×Mp Int Int×Sl Int×Sl aB×Mp Int Int×Int)):=
 (bif((((decide (sw_0<0))||(decide (sw_0>=8)))||(decide (room_2<0)))||(decide (room_2>64)))then(some true)else
 ((oN t_1 8 room_2).bind fun r1=>
 some (!r1)):Option Bool).bind fun b2=>
 bif b2 then(some (.inl 2))else
 ((eO t_1).bind fun r3=>
 (qh sw_0 room_2 true 0 0 r3 Sl.nil).bind fun(q4,q5,q6,q7,q8,q9,q10,q11,s12,s13)=>
 some (.inr (q4,q5,q6,q7,q8,q9,q10,q11,s12,s13,(Mp.none:Mp Int Int),0)))
def W7:fJ:=⟨[(false,.x (.i .i64)),(false,.x (.sl y0)),(false,.x (.i .i64))],[([.nl 1,.x (.i .i64)],[]),([.pb y8 (.st (.pr (.x (.i .i64)) (.pr (.x (.i .i64)) (.pr (.x .b) (.pr (.x (.i .i64)) (.pr (.x (.i .i64)) (.pr (.x (.sl y0)) (.pr (.mp (.i .i64) (.sl y3)) (.pr (.mp (.i .i64) (.i .i64)) (.pr (.pb y7 (.st (.pr (.os (.i .i64)) .ni))) (.pr (.os y9) (.pr (.mp (.i .i64) (.i .i64)) .ni)))))))))))),.x (.i .i64)],[])],false,[],fun p=>match p with|(sw_0,t_1,room_2)=>rV sw_0 t_1 room_2⟩
theorem Yd:bf prog 8 W7:=aV mixed bn (bz:=bz) (np:=3) (an:=[(4,{j:=some {vs:=[(28,.x .b)]}})]) (.cons UD (.cons UC (.cons Ye .nil))) (by kernel_rfl) (by kernel_rfl)
def lG(t_0:Sl ae):Int->Option (Int⊕(Bool⊕Unit)):=fun i2=>
 bif decide (i2<(t_0.l.length:Int))then((eX i2 t_0.l.length).bind fun n3=>
 bif decide ((((ae.iK (gt t_0.l n3)).l).length:Int)>16)then(some (.inr (.inl false)))else
 (some (.inl (wr .i64 (i2+1)))))else
 (some (.inr (.inr ())))
def lF(l_1:Sl aE)(i6:Int):Int->Option (Int⊕(Bool⊕Unit)):=fun i9=>
 (eX i6 l_1.l.length).bind fun n10=>
 bif decide (i9<(((ad.gi (aE.M (gt l_1.l n10))).l).length:Int))then((eX i6 l_1.l.length).bind fun n11=>
 (eX i9 ((ad.gi (aE.M (gt l_1.l n11))).l).length).bind fun n12=>
 bif decide ((((ae.iK (ai.R (gt ((ad.gi (aE.M (gt l_1.l n11))).l) n12))).l).length:Int)>16)then(some (.inr (.inl false)))else
 (some (.inl (wr .i64 (i9+1)))))else
 (some (.inr (.inr ())))
def lE(l_1:Sl aE):Int->Option (Int⊕(Bool⊕Unit)):=fun i6=>
 bif((decide (i6<(l_1.l.length:Int)))&&(decide (i6<60)))then((eX i6 l_1.l.length).bind fun n7=>
 bif decide ((((ad.gi (aE.M (gt l_1.l n7))).l).length:Int)>20)then(some (.inr (.inl false)))else
 ((bw (lF l_1 i6) 0).bind fun
 |.inl b13=>(some (.inr (.inl b13)))
 |.inr _=>(some (.inl (wr .i64 (i6+1))))))else
 (some (.inr (.inr ())))
def oT(t_0:Sl ae)(l_1:Sl aE):Option Bool:=
 (bw (lG t_0) 0).bind fun
 |.inl b4=>(some b4)
 |.inr _=>((bw (lE l_1) 0).bind fun
 |.inl b14=>(some b14)
 |.inr _=>(some (decide ((t_0.l.length:Int)<=20))))
def W6:fJ:=⟨[(false,.x (.sl y0)),(false,.x (.sl Tc))],[([.x .b],[])],true,[],fun p=>match p with|(t_0,l_1)=>oT t_0 l_1⟩
theorem Yc:bf prog 9 W6:=aV mixed bn (bz:=bz) (np:=2) (an:=[(5,{j:=some {vs:=[(5,.x (.i .i64))]},e:=[(.ret,{vs:=[(4,.x .b)]}),(.exit 0,{})]}),(18,{j:=some {vs:=[(6,.x (.i .i64))]},e:=[(.ret,{vs:=[(4,.x .b)]}),(.exit 2,{})]}),(30,{j:=some {vs:=[(7,.x (.i .i64))]},e:=[(.ret,{vs:=[(4,.x .b)]}),(.exit 4,{})]})]) .nil (by kernel_rfl) (by kernel_rfl)
def gf(a_0_sw:Int)(a_0_room:Int)(a_0_up:Bool)(a_0_life:Int)(a_0_u:Int)(a_0_table:Sl ae)(a_0_staged:Mp Int (Sl ai))(a_0_armed:Mp Int Int)(a_0_wait_l:Sl Int)(a_0_done:Sl aB)(a_0_dead:Mp Int Int):Option (Sl ae×Int×Int×Bool×Int×Int×Sl ae×Mp Int (Sl ai)×Mp Int Int×Sl Int×Sl aB×Mp Int Int):=
 (eO a_0_table).bind fun r1=>
 some (r1,a_0_sw,a_0_room,a_0_up,a_0_life,a_0_u,a_0_table,a_0_staged,a_0_armed,a_0_wait_l,a_0_done,a_0_dead)
def W5:fJ:=⟨[(true,.pb y8 (.st (.pr (.x (.i .i64)) (.pr (.x (.i .i64)) (.pr (.x .b) (.pr (.x (.i .i64)) (.pr (.x (.i .i64)) (.pr (.x (.sl y0)) (.pr (.mp (.i .i64) (.sl y3)) (.pr (.mp (.i .i64) (.i .i64)) (.pr (.pb y7 (.st (.pr (.os (.i .i64)) .ni))) (.pr (.os y9) (.pr (.mp (.i .i64) (.i .i64)) .ni)))))))))))))],[([.x (.sl y0)],[.pb y8 (.st (.pr (.x (.i .i64)) (.pr (.x (.i .i64)) (.pr (.x .b) (.pr (.x (.i .i64)) (.pr (.x (.i .i64)) (.pr (.x (.sl y0)) (.pr (.mp (.i .i64) (.sl y3)) (.pr (.mp (.i .i64) (.i .i64)) (.pr (.pb y7 (.st (.pr (.os (.i .i64)) .ni))) (.pr (.os y9) (.pr (.mp (.i .i64) (.i .i64)) .ni))))))))))))])],false,[true],fun p=>match p with|(a_0_sw,a_0_room,a_0_up,a_0_life,a_0_u,a_0_table,a_0_staged,a_0_armed,a_0_wait_l,a_0_done,a_0_dead)=>gf a_0_sw a_0_room a_0_up a_0_life a_0_u a_0_table a_0_staged a_0_armed a_0_wait_l a_0_done a_0_dead⟩
theorem Yb:bf prog 11 W5:=aV mixed bn (bz:=bz) (np:=1) (an:=[]) (.cons UC .nil) (by kernel_rfl) (by kernel_rfl)
def jZ(a_0_sw:Int)(a_0_room:Int)(a_0_up:Bool)(a_0_life:Int)(a_0_u:Int)(a_0_table:Sl ae)(a_0_staged:Mp Int (Sl ai))(a_0_armed:Mp Int Int)(a_0_wait_l:Sl Int)(a_0_done:Sl aB)(a_0_dead:Mp Int Int):Option (Int×Int×Int×Bool×Int×Int×Sl ae×Mp Int (Sl ai)×Mp Int Int×Sl Int×Sl aB×Mp Int Int):=some (a_0_u,a_0_sw,a_0_room,a_0_up,a_0_life,a_0_u,a_0_table,a_0_staged,a_0_armed,a_0_wait_l,a_0_done,a_0_dead)
def W4:fJ:=⟨[(true,.pb y8 (.st (.pr (.x (.i .i64)) (.pr (.x (.i .i64)) (.pr (.x .b) (.pr (.x (.i .i64)) (.pr (.x (.i .i64)) (.pr (.x (.sl y0)) (.pr (.mp (.i .i64) (.sl y3)) (.pr (.mp (.i .i64) (.i .i64)) (.pr (.pb y7 (.st (.pr (.os (.i .i64)) .ni))) (.pr (.os y9) (.pr (.mp (.i .i64) (.i .i64)) .ni)))))))))))))],[([.x (.i .i64)],[.pb y8 (.st (.pr (.x (.i .i64)) (.pr (.x (.i .i64)) (.pr (.x .b) (.pr (.x (.i .i64)) (.pr (.x (.i .i64)) (.pr (.x (.sl y0)) (.pr (.mp (.i .i64) (.sl y3)) (.pr (.mp (.i .i64) (.i .i64)) (.pr (.pb y7 (.st (.pr (.os (.i .i64)) .ni))) (.pr (.os y9) (.pr (.mp (.i .i64) (.i .i64)) .ni))))))))))))])],false,[true],fun p=>match p with|(a_0_sw,a_0_room,a_0_up,a_0_life,a_0_u,a_0_table,a_0_staged,a_0_armed,a_0_wait_l,a_0_done,a_0_dead)=>jZ a_0_sw a_0_room a_0_up a_0_life a_0_u a_0_table a_0_staged a_0_armed a_0_wait_l a_0_done a_0_dead⟩
theorem Ya:bf prog 12 W4:=aV mixed bn (bz:=bz) (np:=1) (an:=[]) .nil (by kernel_rfl) (by kernel_rfl)
def fL(a_0_sw:Int)(a_0_room:Int)(a_0_up:Bool)(a_0_life:Int)(a_0_u:Int)(a_0_table:Sl ae)(a_0_staged:Mp Int (Sl ai))(a_0_armed:Mp Int Int)(a_0_wait_l:Sl Int)(a_0_done:Sl aB)(a_0_dead:Mp Int Int):Option (Bool×Int×Int×Bool×Int×Int×Sl ae×Mp Int (Sl ai)×Mp Int Int×Sl Int×Sl aB×Mp Int Int):=some (a_0_up,a_0_sw,a_0_room,a_0_up,a_0_life,a_0_u,a_0_table,a_0_staged,a_0_armed,a_0_wait_l,a_0_done,a_0_dead)
def W3:fJ:=⟨[(true,.pb y8 (.st (.pr (.x (.i .i64)) (.pr (.x (.i .i64)) (.pr (.x .b) (.pr (.x (.i .i64)) (.pr (.x (.i .i64)) (.pr (.x (.sl y0)) (.pr (.mp (.i .i64) (.sl y3)) (.pr (.mp (.i .i64) (.i .i64)) (.pr (.pb y7 (.st (.pr (.os (.i .i64)) .ni))) (.pr (.os y9) (.pr (.mp (.i .i64) (.i .i64)) .ni)))))))))))))],[([.x .b],[.pb y8 (.st (.pr (.x (.i .i64)) (.pr (.x (.i .i64)) (.pr (.x .b) (.pr (.x (.i .i64)) (.pr (.x (.i .i64)) (.pr (.x (.sl y0)) (.pr (.mp (.i .i64) (.sl y3)) (.pr (.mp (.i .i64) (.i .i64)) (.pr (.pb y7 (.st (.pr (.os (.i .i64)) .ni))) (.pr (.os y9) (.pr (.mp (.i .i64) (.i .i64)) .ni))))))))))))])],false,[true],fun p=>match p with|(a_0_sw,a_0_room,a_0_up,a_0_life,a_0_u,a_0_table,a_0_staged,a_0_armed,a_0_wait_l,a_0_done,a_0_dead)=>fL a_0_sw a_0_room a_0_up a_0_life a_0_u a_0_table a_0_staged a_0_armed a_0_wait_l a_0_done a_0_dead⟩
theorem OD:bf prog 20 W3:=aV mixed bn (bz:=bz) (np:=1) (an:=[]) .nil (by kernel_rfl) (by kernel_rfl)
def kO(q_0:Sl Int):Option Int:=some (q_0.l.length:Int)
def W0:fJ:=⟨[(false,.pt y7)],[([.x (.i .i64)],[])],true,[],fun p=>match p with|q_0=>kO q_0⟩
theorem X_:bf prog 52 W0:=aV mixed bn (bz:=bz) (np:=1) (an:=[]) .nil (by kernel_rfl) (by kernel_rfl)
def gS(q_0:Sl Int):Option (Int×Bool):=
 (kO q_0).bind fun r1=>
 bif(r1==0)then(some (0,false))else
 ((eX 0 q_0.l.length).bind fun n2=>
 some (gt q_0.l n2,true))
def WZ:fJ:=⟨[(false,.pt y7)],[([.x (.i .i64),.x .b],[])],true,[],fun p=>match p with|q_0=>gS q_0⟩
theorem X9:bf prog 34 WZ:=aV mixed bn (bz:=bz) (np:=1) (an:=[]) (.cons X_ .nil) (by kernel_rfl) (by kernel_rfl)
def vE:Option av:=some (⟨0,(mx (.ar 16 .b)),(mx (.ar 16 y3)),0⟩:av)
def WY:fJ:=⟨[],[([.pb tu (.x tu)],[])],false,[],fun p=>match p with|_=>vE⟩
theorem X8:bf prog 53 WY:=aV mixed bn (bz:=bz) (np:=0) (an:=[]) .nil (by kernel_rfl) (by kernel_rfl)
def eK(b_0:av):Option Int:=some (av.uX b_0)
def WX:fJ:=⟨[(false,.pt tu)],[([.x (.i .i64)],[])],true,[],fun p=>match p with|b_0=>eK b_0⟩
theorem OC:bf prog 89 WX:=aV mixed bn (bz:=bz) (np:=1) (an:=[]) .nil (by kernel_rfl) (by kernel_rfl)
def nk(a_0:ai)(b_1:ai):Option Bool:=
 (bif(((ai.bh a_0)==(ai.bh b_1))&&((ai.iY a_0)==(ai.iY b_1)))then((ou (ai.R a_0) (ai.R b_1)).bind fun r1=>
 some r1)else
 (some false):Option Bool).bind fun b2=>
 some b2
def WW:fJ:=⟨[(false,.x y3),(false,.x y3)],[([.x .b],[])],true,[],fun p=>match p with|(a_0,b_1)=>nk a_0 b_1⟩
theorem X7:bf prog 90 WW:=aV mixed bn (bz:=bz) (np:=2) (an:=[(3,{j:=some {vs:=[(4,.x .b)]}})]) (.cons Zc .nil) (by kernel_rfl) (by kernel_rfl)
def lm(b_0:av)(i_1:Int)(m_2:ai):Option (Int×av):=
 (eK b_0).bind fun r1=>
 bif(r1 !=0)then(some (16,b_0))else
 (bif((decide (i_1<0))||(decide (i_1>=16)))then(some (2,b_0))else
 (((eX i_1 16).bind fun n2=>
 bif gt ((av.AB b_0).1) n2 then((eX i_1 16).bind fun n3=>
 (nk (gt ((av.l b_0).1) n3) m_2).bind fun r4=>
 some (!r4))else
 (some false):Option Bool).bind fun b5=>
 bif b5 then(some (8,b_0))else
 ((eX i_1 16).bind fun n6=>
 (eX i_1 16).bind fun n7=>
 some (0,(⟨av.uX b_0,Arr.set (av.AB b_0) n6 true,Arr.set (av.l b_0) n7 m_2,av.n b_0⟩:av)))))
def WV:fJ:=⟨[(true,.pb tu (.x tu)),(false,.x (.i .i64)),(false,.x y3)],[([.x (.i .i64)],[.pb tu (.x tu)])],false,[true,false,false],fun p=>match p with|(b_0,i_1,m_2)=>lm b_0 i_1 m_2⟩
theorem X6:bf prog 54 WV:=aV mixed bn (bz:=bz) (np:=3) (an:=[(12,{j:=some {vs:=[(18,.x .b)]}})]) (.cons OC (.cons X7 .nil)) (by kernel_rfl) (by kernel_rfl)
def gM(b_0:av):Int->Option (Int⊕(Int⊕Unit)):=fun i3=>
 bif decide (i3<16)then((eX i3 16).bind fun n4=>
 bif gt ((av.AB b_0).1) n4 then(some (.inr (.inl 8)))else
 (some (.inl (wr .i64 (i3+1)))))else
 (some (.inr (.inr ())))
def gL(b_0:av)(n_1:Int):Int->Option (Int⊕(Int⊕Unit)):=fun i7=>
 bif decide (i7<n_1)then((eX i7 16).bind fun n8=>
 bif(!(gt ((av.AB b_0).1) n8))then(some (.inr (.inl 7)))else
 (some (.inl (wr .i64 (i7+1)))))else
 (some (.inr (.inr ())))
def ki(b_0:av)(n_1:Int):Option (Int×av):=
 (eK b_0).bind fun r1=>
 bif(r1==2)then(some (16,b_0))else
 (bif(((av.uX b_0)==1)&&(n_1==(av.n b_0)))then(some (0,b_0))else
 (bif((((av.uX b_0)==1)||(decide (n_1<0)))||(decide (n_1>16)))then(some (2,b_0))else
 ((bw (gM b_0) n_1).bind fun
 |.inl i5=>(some (i5,b_0))
 |.inr _=>((bw (gL b_0 n_1) 0).bind fun
 |.inl i9=>(some (i9,b_0))
 |.inr _=>(some (0,(⟨1,av.AB b_0,av.l b_0,n_1⟩:av)))))))
def WU:fJ:=⟨[(true,.pb tu (.x tu)),(false,.x (.i .i64))],[([.x (.i .i64)],[.pb tu (.x tu)])],false,[true,false],fun p=>match p with|(b_0,n_1)=>ki b_0 n_1⟩
theorem X5:bf prog 55 WU:=aV mixed bn (bz:=bz) (np:=2) (an:=[(18,{j:=some {vs:=[(5,.x (.i .i64))]},e:=[(.ret,{vs:=[(4,.x (.i .i64))]}),(.exit 1,{})]}),(31,{j:=some {vs:=[(51,.x (.i .i64))]},e:=[(.ret,{vs:=[(4,.x (.i .i64))]}),(.exit 3,{})]})]) (.cons OC .nil) (by kernel_rfl) (by kernel_rfl)
def o3(l_0:Sl ai):(Int×av)->Option ((Int×av)⊕av):=fun(i5,x6)=>
 bif decide (i5<(l_0.l.length:Int))then((eX i5 l_0.l.length).bind fun n7=>
 (lm x6 i5 (gt l_0.l n7)).bind fun(r8,q9)=>
 some (.inl (wr .i64 (i5+1),q9)))else
 (some (.inr x6))
def ue(l_0:Sl ai):Option (Unit⊕av):=
 (vE).bind fun r1=>
 (bw (o3 l_0) (0,r1)).bind fun x10=>
 (ki x10 (l_0.l.length:Int)).bind fun(r11,q12)=>
 bif(r11 !=0)then(some (.inl ()))else
 (some (.inr q12))
def WT:fJ:=⟨[(false,.x (.sl y3))],[([.nl 1],[]),([.pb tu (.x tu)],[])],false,[],fun p=>match p with|l_0=>ue l_0⟩
theorem UA:bf prog 35 WT:=aV mixed bn (bz:=bz) (np:=1) (an:=[(7,{j:=some {vs:=[(3,.op 0 tu []),(9,.x (.i .i64))],os:=[.bx tu (.x tu)],kl:=[0]},e:=[(.exit 0,{vs:=[(3,.op 0 tu [])],os:=[.bx tu (.x tu)],kl:=[0]})]})]) (.cons X8 (.cons X6 (.cons X5 .nil))) (by kernel_rfl) (by kernel_rfl)
def ky:Option Int:=some 2
def WS:fJ:=⟨[(false,.nl 1)],[([.x (.i .i64)],[])],true,[],fun p=>match p with|_=>ky⟩
theorem Uz:bf prog 89 WS:=aV mixed bn (bz:=bz) (np:=1) (an:=[]) .nil (by kernel_rfl) (by kernel_rfl)
def kR:Option (Sl ai):=
 (ky).bind fun r1=>
 bif(r1 !=1)then(some Sl.nil)else
 (none)
def WR:fJ:=⟨[(true,.nl 1)],[([.x (.sl y3)],[.nl 1])],false,[true],fun p=>match p with|_=>kR⟩
theorem Uy:bf prog 58 WR:=aV mixed bn (bz:=bz) (np:=1) (an:=[]) (.cons Uz .nil) (by kernel_rfl) (by kernel_rfl)
def iq(a_0:aj)(b_1:aj):(Int×aj×aj)->Option ((Int×aj×aj)⊕((Bool×aj)⊕(aj×aj))):=fun(i5,x6,x7)=>
 bif decide (i5<4)then((eX i5 4).bind fun n8=>
 (eX i5 4).bind fun n9=>
 (eX i5 4).bind fun n10=>
 (eX i5 4).bind fun n11=>
 bif((oe .i64 (oe .i64 (CI .i64 (gt ((aj.vH a_0).1) n8) (gt ((aj.vH b_1).1) n9)) (gt ((aj.nT a_0).1) n10)) (gt ((aj.nT b_1).1) n11)) !=0)then(some (.inr (.inl (false,(⟨0,(mx (.ar 4 (.i .i64))),(mx (.ar 4 (.i .i64)))⟩:aj)))))else
 ((eX i5 4).bind fun n12=>
 (eX i5 4).bind fun n13=>
 (eX i5 4).bind fun n14=>
 (eX i5 4).bind fun n15=>
 (eX i5 4).bind fun n16=>
 (eX i5 4).bind fun n17=>
 some (.inl (wr .i64 (i5+1),x6,(⟨aj.dk x7,Arr.set (aj.vH x7) n16 (H_ .i64 (gt ((aj.vH a_0).1) n12) (gt ((aj.vH b_1).1) n13)),Arr.set (aj.nT x7) n17 (H_ .i64 (gt ((aj.nT a_0).1) n14) (gt ((aj.nT b_1).1) n15))⟩:aj)))))else
 (some (.inr (.inr (x6,x7))))
def p6(a_0:aj)(b_1:aj):Option (aj×Bool):=
 bif((((aj.dk a_0) !=(aj.dk b_1))&&((aj.dk a_0) !=(-1)))&&((aj.dk b_1) !=(-1)))then(some ((⟨0,(mx (.ar 4 (.i .i64))),(mx (.ar 4 (.i .i64)))⟩:aj),false))else
 ((bw (iq a_0 b_1) (0,(⟨0,(mx (.ar 4 (.i .i64))),(mx (.ar 4 (.i .i64)))⟩:aj),(⟨(if(aj.dk b_1)>(aj.dk a_0)then(aj.dk b_1)else(aj.dk a_0)),(mx (.ar 4 (.i .i64))),(mx (.ar 4 (.i .i64)))⟩:aj))).bind fun
 |.inl (b18,x19)=>(some (x19,b18))
 |.inr (x20,x21)=>(some (x21,true)))
def WQ:fJ:=⟨[(false,.x y1),(false,.x y1)],[([.x y1,.x .b],[])],true,[],fun p=>match p with|(a_0,b_1)=>p6 a_0 b_1⟩
theorem Ux:bf prog 158 WQ:=aV mixed bn (bz:=bz) (np:=2) (an:=[(12,{j:=some {vs:=[(4,.op 0 y1 []),(6,.op 1 y1 []),(30,.x (.i .i64))],os:=[.bx y1 (.x y1),.bx y1 (.x y1)],kl:=[2,3]},e:=[(.ret,{vs:=[(4,.op 0 y1 []),(5,.x .b)],os:=[.bx y1 (.x y1)],kl:=[2,3]}),(.exit 0,{vs:=[(4,.op 0 y1 []),(6,.op 1 y1 [])],os:=[.bx y1 (.x y1),.bx y1 (.x y1)],kl:=[2,3]})]})]) .nil (by kernel_rfl) (by kernel_rfl)
def oI(a_0:ae)(b_1:ae):Option Bool:=
 (p6 (ae.M a_0) (ae.M b_1)).bind fun(r1,r2)=>
 some ((((ae.c9 a_0)==(ae.c9 b_1))&&(!(decide ((ae.M a_0)=(ae.M b_1)))))&&r2)
def WP:fJ:=⟨[(false,.x y0),(false,.x y0)],[([.x .b],[])],true,[],fun p=>match p with|(a_0,b_1)=>oI a_0 b_1⟩
theorem X4:bf prog 155 WP:=aV mixed bn (bz:=bz) (np:=2) (an:=[]) (.cons Ux .nil) (by kernel_rfl) (by kernel_rfl)
def qv(y_0:ae)(c_1:ae):Option Bool:=
 (oI c_1 y_0).bind fun r1=>
 some r1
def WN:fJ:=⟨[(false,.x y0),(false,.pt y0)],[([.x .b],[])],true,[],fun p=>match p with|(y_0,c_1)=>qv y_0 c_1⟩
theorem X3:bf prog 154 WN:=aV mixed bn (bz:=bz) (np:=2) (an:=[]) (.cons X4 .nil) (by kernel_rfl) (by kernel_rfl)
def cP(s_0:Sl ae)(f_1_c0:ae):Int->Option (Int⊕(Int⊕Unit)):=fun i2=>
 bif decide (i2<(s_0.l.length:Int))then((eX i2 s_0.l.length).bind fun n3=>
 (qv (gt s_0.l n3) f_1_c0).bind fun r4=>
 bif r4 then(some (.inr (.inl i2)))else
 (some (.inl (wr .i64 (i2+1)))))else
 (some (.inr (.inr ())))
def dh(s_0:Sl ae)(f_1_c0:ae):Option Int:=
 (bw (cP s_0 f_1_c0) 0).bind fun
 |.inl i5=>(some i5)
 |.inr _=>(some (-1))
def WM:fJ:=⟨[(false,.x (.sl y0)),(false,.fn 154 (.pr (.pt y0) .ni))],[([.x (.i .i64)],[])],true,[],fun p=>match p with|(s_0,f_1_c0)=>dh s_0 f_1_c0⟩
theorem X2:bf prog 67 WM:=aV mixed bn (bz:=bz) (np:=2) (an:=[(5,{j:=some {vs:=[(8,.x (.i .i64))]},e:=[(.ret,{vs:=[(4,.x (.i .i64))]}),(.exit 0,{})]})]) (.cons X3 .nil) (by kernel_rfl) (by kernel_rfl)
def cS(s_0:Sl ae)(f_1_c0:ae):Option Bool:=
 (dh s_0 f_1_c0).bind fun r1=>
 some (decide (r1>=0))
def WL:fJ:=⟨[(false,.x (.sl y0)),(false,.fn 154 (.pr (.pt y0) .ni))],[([.x .b],[])],true,[],fun p=>match p with|(s_0,f_1_c0)=>cS s_0 f_1_c0⟩
theorem X1:bf prog 153 WL:=aV mixed bn (bz:=bz) (np:=2) (an:=[]) (.cons X2 .nil) (by kernel_rfl) (by kernel_rfl)
def ck(s_0:Sl ae):Option (Sl ae):=
 bif s_0.fF then(some Sl.nil)else
 ((ld ([]++s_0.l)).bind fun l1=>
 some (sP (Sl.mk []) s_0.l l1))
def WK:fJ:=⟨[(false,.x (.sl y0))],[([.os y0],[])],false,[],fun p=>match p with|s_0=>ck s_0⟩
theorem OB:bf prog 31 WK:=aV mixed bn (bz:=bz) (np:=1) (an:=[]) .nil (by kernel_rfl) (by kernel_rfl)
def lC(t_0:Sl ae)(at_1:Int)(l_2:Sl aT):Option (Sl ae):=
 (ck t_0).bind fun s1=>
 (eX at_1 s1.l.length).bind fun n2=>
 some (Sl.mk (s1.l.set n2 (⟨ae.c9 (gt s1.l n2),ae.M (gt s1.l n2),l_2⟩:ae)))
def WJ:fJ:=⟨[(false,.x (.sl y0)),(false,.x (.i .i64)),(false,.x (.sl y2))],[([.x (.sl y0)],[])],false,[],fun p=>match p with|(t_0,at_1,l_2)=>lC t_0 at_1 l_2⟩
theorem Uw:bf prog 128 WJ:=aV mixed bn (bz:=bz) (np:=3) (an:=[]) (.cons OB .nil) (by kernel_rfl) (by kernel_rfl)
def tF(y_0:ae)(c_1:ae):Option Bool:=
 (pO c_1 y_0).bind fun r1=>
 some r1
def WI:fJ:=⟨[(false,.x y0),(false,.pt y0)],[([.x .b],[])],true,[],fun p=>match p with|(y_0,c_1)=>tF y_0 c_1⟩
theorem X0:bf prog 156 WI:=aV mixed bn (bz:=bz) (np:=2) (an:=[]) (.cons UE .nil) (by kernel_rfl) (by kernel_rfl)
def cO(s_0:Sl ae)(f_1_c0:ae):Int->Option (Int⊕(Int⊕Unit)):=fun i2=>
 bif decide (i2<(s_0.l.length:Int))then((eX i2 s_0.l.length).bind fun n3=>
 (tF (gt s_0.l n3) f_1_c0).bind fun r4=>
 bif r4 then(some (.inr (.inl i2)))else
 (some (.inl (wr .i64 (i2+1)))))else
 (some (.inr (.inr ())))
def dg(s_0:Sl ae)(f_1_c0:ae):Option Int:=
 (bw (cO s_0 f_1_c0) 0).bind fun
 |.inl i5=>(some i5)
 |.inr _=>(some (-1))
def WH:fJ:=⟨[(false,.x (.sl y0)),(false,.fn 156 (.pr (.pt y0) .ni))],[([.x (.i .i64)],[])],true,[],fun p=>match p with|(s_0,f_1_c0)=>dg s_0 f_1_c0⟩
theorem XZ:bf prog 67 WH:=aV mixed bn (bz:=bz) (np:=2) (an:=[(5,{j:=some {vs:=[(8,.x (.i .i64))]},e:=[(.ret,{vs:=[(4,.x (.i .i64))]}),(.exit 0,{})]})]) (.cons X0 .nil) (by kernel_rfl) (by kernel_rfl)
theorem XY:bf prog 157 (L0 y0):=RW mixed (bz:=bz) (nt:=95) (tl:=Vt (ce y0) 168 false [true,false]) (z:=oc y0) (by kernel_rfl) (by kernel_rfl)
def uj(t_0:Sl ae)(m_1:ai)(room_2:Int):Option (Sl ae×Int):=
 (bif ai.iY m_1 then((cS t_0 (ai.R m_1)).bind fun r1=>
 some r1)else
 (some false):Option Bool).bind fun b2=>
 bif b2 then(some (t_0,14))else
 ((pG t_0 (ai.R m_1)).bind fun r3=>
 bif decide (r3>=0)then((lC t_0 r3 (ae.iK (ai.R m_1))).bind fun r4=>
 some (r4,0))else
 (bif decide ((t_0.l.length:Int)>=room_2)then(some (t_0,6))else
 ((dg t_0 (ai.R m_1)).bind fun r5=>
 (bif decide (r5<0)then(some (t_0.l.length:Int))else
 (some r5):Option Int).bind fun i6=>
 (ck t_0).bind fun s7=>
 (Eg s7 i6 (Sl.mk [ai.R m_1])).bind fun s8=>
 some (s8,0))))
def WG:fJ:=⟨[(false,.x (.sl y0)),(false,.x y3),(false,.x (.i .i64))],[([.x (.sl y0),.x (.i .i64)],[])],false,[],fun p=>match p with|(t_0,m_1,room_2)=>uj t_0 m_1 room_2⟩
theorem XX:bf prog 122 WG:=aV mixed bn (bz:=bz) (np:=3) (an:=[(6,{j:=some {vs:=[(19,.x .b)]}}),(23,{e:=[(.normal,{vs:=[(10,.x (.i .i64))]})]})]) (.cons X1 (.cons Rq (.cons Uw (.cons XZ (.cons OB (.cons XY .nil)))))) (by kernel_rfl) (by kernel_rfl)
def nG(a_0:aj)(b_1:aj):Option Bool:=
 (p6 a_0 b_1).bind fun(r1,r2)=>
 some (r2&&(decide (r1=a_0)))
def WF:fJ:=⟨[(false,.x y1),(false,.x y1)],[([.x .b],[])],true,[],fun p=>match p with|(a_0,b_1)=>nG a_0 b_1⟩
theorem Uv:bf prog 126 WF:=aV mixed bn (bz:=bz) (np:=2) (an:=[]) (.cons Ux .nil) (by kernel_rfl) (by kernel_rfl)
def kX(x_1:ae)(s1:Sl ae):(Int×Sl ae)->Option ((Int×Sl ae)⊕(Sl ae)):=fun(i5,s6)=>
 bif decide (i5<(s1.l.length:Int))then(((eX i5 s6.l.length).bind fun n7=>
 (nG (ae.M (gt s6.l n7)) (ae.M x_1)).bind fun r8=>
 bif r8 then((eX i5 s6.l.length).bind fun n9=>
 some (Sl.mk (s6.l.set n9 (⟨ae.c9 (gt s6.l n9),ae.M (gt s6.l n9),ae.iK x_1⟩:ae))))else
 (some s6):Option (Sl ae)).bind fun s10=>
 some (.inl (wr .i64 (i5+1),s10)))else
 (some (.inr s6))
def px(t_0:Sl ae)(x_1:ae):Option (Sl ae):=
 (ck t_0).bind fun s1=>
 (bw (kX x_1 s1) (0,s1)).bind fun s11=>
 some s11
def WE:fJ:=⟨[(false,.x (.sl y0)),(false,.x y0)],[([.x (.sl y0)],[])],false,[],fun p=>match p with|(t_0,x_1)=>px t_0 x_1⟩
theorem XW:bf prog 123 WE:=aV mixed bn (bz:=bz) (np:=2) (an:=[(7,{j:=some {vs:=[(0,.so 0),(9,.so 0),(11,.x (.i .i64))],os:=[.ar y0],kl:=[1]},e:=[(.exit 0,{vs:=[(0,.so 0)],os:=[.ar y0],kl:=[1]})]}),(11,{e:=[(.normal,{vs:=[(0,.so 0),(9,.so 0)],os:=[.ar y0],kl:=[2]})]})]) (.cons OB (.cons Uv .nil)) (by kernel_rfl) (by kernel_rfl)
def k_(y_0:ae)(c_1:ai):Option Bool:=
 (nG (ae.M y_0) (ae.M (ai.R c_1))).bind fun r1=>
 some r1
def WC:fJ:=⟨[(false,.x y0),(false,.pt y3)],[([.x .b],[])],true,[],fun p=>match p with|(y_0,c_1)=>k_ y_0 c_1⟩
theorem Uu:bf prog 125 WC:=aV mixed bn (bz:=bz) (np:=2) (an:=[]) (.cons Uv .nil) (by kernel_rfl) (by kernel_rfl)
def cI(s_0:Sl ae)(f_1_c0:ai):Int->Option (Int⊕(Int⊕Unit)):=fun i2=>
 bif decide (i2<(s_0.l.length:Int))then((eX i2 s_0.l.length).bind fun n3=>
 (k_ (gt s_0.l n3) f_1_c0).bind fun r4=>
 bif r4 then(some (.inr (.inl i2)))else
 (some (.inl (wr .i64 (i2+1)))))else
 (some (.inr (.inr ())))
def cV(s_0:Sl ae)(f_1_c0:ai):Option Int:=
 (bw (cI s_0 f_1_c0) 0).bind fun
 |.inl i5=>(some i5)
 |.inr _=>(some (-1))
def WB:fJ:=⟨[(false,.x (.sl y0)),(false,.fn 125 (.pr (.pt y3) .ni))],[([.x (.i .i64)],[])],true,[],fun p=>match p with|(s_0,f_1_c0)=>cV s_0 f_1_c0⟩
theorem XV:bf prog 67 WB:=aV mixed bn (bz:=bz) (np:=2) (an:=[(5,{j:=some {vs:=[(8,.x (.i .i64))]},e:=[(.ret,{vs:=[(4,.x (.i .i64))]}),(.exit 0,{})]})]) (.cons Uu .nil) (by kernel_rfl) (by kernel_rfl)
def cH(del_1_c0:ai):(Int×Int×Sl ae)->Option ((Int×Int×Sl ae)⊕(Int×Sl ae)):=fun(i7,i8,s9)=>
 bif decide (i8<(s9.l.length:Int))then(((eX i8 s9.l.length).bind fun n10=>
 (k_ (gt s9.l n10) del_1_c0).bind fun r11=>
 bif(!r11)then((eX i7 s9.l.length).bind fun n12=>
 some (wr .i64 (i7+1),(Sl.mk (s9.l.set n12 (gt s9.l n10)))))else
 (some (i7,s9)):Option (Int×Sl ae)).bind fun(i13,s14)=>
 some (.inl (i13,wr .i64 (i8+1),s14)))else
 (some (.inr (i7,s9)))
def cR(s_0:Sl ae)(del_1_c0:ai):Option (Sl ae):=
 (cV s_0 del_1_c0).bind fun r1=>
 bif(r1==(-1))then(some s_0)else
 ((bw (cH del_1_c0) (r1,wr .i64 (r1+1),s_0)).bind fun(i15,s16)=>
 (oX s16.l i15 s16.l.length).bind fun l17=>
 (JU s16 i15.toNat ((s16.to l17).l).length (⟨0,(⟨0,(mx (.ar 4 (.i .i64))),(mx (.ar 4 (.i .i64)))⟩:aj),Sl.nil⟩:ae)).bind fun s18=>
 (oX s18.l 0 i15).bind fun l19=>
 some (s18.to l19))
def WA:fJ:=⟨[(true,.os y0),(false,.fn 125 (.pr (.pt y3) .ni))],[([.x (.sl y0)],[.gn])],false,[true,false],fun p=>match p with|(s_0,del_1_c0)=>cR s_0 del_1_c0⟩
theorem XU:bf prog 124 WA:=aV mixed bn (bz:=bz) (np:=2) (an:=[(12,{j:=some {vs:=[(0,.so 0),(5,.x (.i .i64)),(6,.x (.i .i64))],gs:=(.co (.so 0) .ni),os:=[.ar y0],kl:=[0]},e:=[(.exit 0,{vs:=[(0,.so 0),(5,.x (.i .i64))],gs:=(.co (.so 0) .ni),os:=[.ar y0],kl:=[0]})]}),(16,{e:=[(.normal,{vs:=[(0,.so 0),(5,.x (.i .i64))],gs:=(.co (.so 0) .ni),os:=[.ar y0],kl:=[2]})]})]) (.cons XV (.cons Uu .nil)) (by kernel_rfl) (by kernel_rfl)
def sh(t_0:Sl ae)(x_1:ae):Option (Int×Int):=
 (pG t_0 x_1).bind fun r1=>
 bif decide (r1<0)then(some (r1,7))else
 (some (r1,0))
def Wz:fJ:=⟨[(false,.x (.sl y0)),(false,.x y0)],[([.x (.i .i64),.x (.i .i64)],[])],true,[],fun p=>match p with|(t_0,x_1)=>sh t_0 x_1⟩
theorem XT:bf prog 127 Wz:=aV mixed bn (bz:=bz) (np:=2) (an:=[]) (.cons Rq .nil) (by kernel_rfl) (by kernel_rfl)
theorem XS:bf prog 129 (MC y0):=Sz mixed (bz:=bz) (nt:=33) (z:=oc y0) (by kernel_rfl) (by kernel_rfl)
def qw(t_0:Sl ae)(m_1:ai)(ports_2:Int)(room_3:Int):Option (Sl ae×Int):=
 (ov (ai.R m_1) ports_2).bind fun r1=>
 bif(!r1)then(some (t_0,2))else
 (bif((ai.bh m_1)==1)then((uj t_0 m_1 room_3).bind fun(r2,r3)=>
 some (r2,r3))else
 (bif((ai.bh m_1)==2)then((px t_0 (ai.R m_1)).bind fun r4=>
 some (r4,0))else
 (bif((ai.bh m_1)==4)then((ck t_0).bind fun s5=>
 (cR s5 m_1).bind fun r6=>
 some (r6,0))else
 ((bif((ai.bh m_1)==3)then(some ((ai.bh m_1)==3))else
 (some ((ai.bh m_1)==5)):Option Bool).bind fun b7=>
 bif b7 then((sh t_0 (ai.R m_1)).bind fun(r8,r9)=>
 bif(r9 !=0)then(some (t_0,r9))else
 (bif((ai.bh m_1)==3)then((lC t_0 r8 (ae.iK (ai.R m_1))).bind fun r10=>
 some (r10,0))else
 ((ck t_0).bind fun s11=>
 (Gx s11 r8 (wr .i64 (r8+1))).bind fun s12=>
 some (s12,0))))else
 (some (t_0,2))))))
def Wx:fJ:=⟨[(false,.x (.sl y0)),(false,.x y3),(false,.x (.i .i64)),(false,.x (.i .i64))],[([.x (.sl y0),.x (.i .i64)],[])],false,[],fun p=>match p with|(t_0,m_1,ports_2,room_3)=>qw t_0 m_1 ports_2 room_3⟩
theorem XR:bf prog 91 Wx:=aV mixed bn (bz:=bz) (np:=4) (an:=[(22,{e:=[(.normal,{vs:=[(40,.x .b)]})]})]) (.cons Rr (.cons XX (.cons XW (.cons OB (.cons XU (.cons XT (.cons Uw (.cons XS .nil)))))))) (by kernel_rfl) (by kernel_rfl)
def my(t_0:Sl ae)(l_1:Sl ai)(ports_2:Int)(room_3:Int):(Sl ae×Int)->Option ((Sl ae×Int)⊕((Sl ae×Int×Int)⊕(Sl ae))):=fun(s3,i4)=>
 bif decide (i4<(l_1.l.length:Int))then((eX i4 l_1.l.length).bind fun n5=>
 (qw s3 (gt l_1.l n5) ports_2 room_3).bind fun(r6,r7)=>
 bif(r7 !=0)then(some (.inr (.inl (t_0,i4,r7))))else
 (some (.inl (r6,wr .i64 (i4+1)))))else
 (some (.inr (.inr s3)))
def oq(t_0:Sl ae)(l_1:Sl ai)(ports_2:Int)(room_3:Int):Option (Sl ae×Int×Int):=
 (bw (my t_0 l_1 ports_2 room_3) (t_0,0)).bind fun
 |.inl (s8,i9,i10)=>(some (s8,i9,i10))
 |.inr s11=>(some (s11,(-1),0))
def Ww:fJ:=⟨[(false,.x (.sl y0)),(false,.x (.sl y3)),(false,.x (.i .i64)),(false,.x (.i .i64))],[([.x (.sl y0),.x (.i .i64),.x (.i .i64)],[])],false,[],fun p=>match p with|(t_0,l_1,ports_2,room_3)=>oq t_0 l_1 ports_2 room_3⟩
theorem OA:bf prog 57 Ww:=aV mixed bn (bz:=bz) (np:=4) (an:=[(7,{j:=some {vs:=[(11,.x (.sl y0)),(18,.x (.i .i64))]},e:=[(.ret,{vs:=[(8,.x (.sl y0)),(9,.x (.i .i64)),(10,.x (.i .i64))]}),(.exit 0,{vs:=[(11,.x (.sl y0))]})]})]) (.cons XR .nil) (by kernel_rfl) (by kernel_rfl)
def kz(t_1:Sl ae)(ports_2:Int)(room_3:Int):Option Int:=
 (ky).bind fun r1=>
 bif(r1 !=1)then(some 16)else
 ((kR).bind fun r2=>
 (oq t_1 r2 ports_2 room_3).bind fun(r3,r4,r5)=>
 some r5)
def Wv:fJ:=⟨[(true,.nl 1),(false,.x (.sl y0)),(false,.x (.i .i64)),(false,.x (.i .i64))],[([.x (.i .i64)],[.nl 1])],false,[true,false,false,false],fun p=>match p with|(t_1,ports_2,room_3)=>kz t_1 ports_2 room_3⟩
theorem Ut:bf prog 56 Wv:=aV mixed bn (bz:=bz) (np:=4) (an:=[]) (.cons Uz (.cons Uy (.cons OA .nil))) (by kernel_rfl) (by kernel_rfl)
def ml:Option Unit:=some ()
def Wu:fJ:=⟨[(true,.nl 1)],[([],[.nl 1])],false,[true],fun p=>match p with|_=>ml⟩
theorem XQ:bf prog 59 Wu:=aV mixed bn (bz:=bz) (np:=1) (an:=[]) .nil (by kernel_rfl) (by kernel_rfl)
def mG(t_1:Sl ae)(ports_2:Int)(room_3:Int):Option (Sl ae×Int):=
 (kz t_1 ports_2 room_3).bind fun r1=>
 bif(r1 !=0)then(some (t_1,r1))else
 ((kR).bind fun r2=>
 (oq t_1 r2 ports_2 room_3).bind fun(r3,r4,r5)=>
 (ml).bind fun _=>
 some (r3,0))
def Wt:fJ:=⟨[(true,.nl 1),(false,.x (.sl y0)),(false,.x (.i .i64)),(false,.x (.i .i64))],[([.x (.sl y0),.x (.i .i64)],[.nl 1])],false,[true,false,false,false],fun p=>match p with|(t_1,ports_2,room_3)=>mG t_1 ports_2 room_3⟩
theorem XP:bf prog 36 Wt:=aV mixed bn (bz:=bz) (np:=4) (an:=[]) (.cons Ut (.cons Uy (.cons OA (.cons XQ .nil)))) (by kernel_rfl) (by kernel_rfl)
def hZ(b_0:av):(Int×Sl ai)->Option ((Int×Sl ai)⊕(Sl ai)):=fun(i5,s6)=>
 bif decide (i5<(av.n b_0))then((eX i5 16).bind fun n7=>
 (ld (s6.l++[gt ((av.l b_0).1) n7])).bind fun l8=>
 some (.inl (wr .i64 (i5+1),(Sl.mk l8))))else
 (some (.inr s6))
def ii(b_0:av):Option (Sl ai×av):=
 (eK b_0).bind fun r1=>
 bif(r1 !=1)then(some (Sl.nil,b_0))else
 ((bw (hZ b_0) (0,Sl.nil)).bind fun s9=>
 some (s9,b_0))
def Ws:fJ:=⟨[(true,.pb tu (.x tu))],[([.x (.sl y3)],[.pb tu (.x tu)])],false,[true],fun p=>match p with|b_0=>ii b_0⟩
theorem Us:bf prog 58 Ws:=aV mixed bn (bz:=bz) (np:=1) (an:=[(12,{j:=some {vs:=[(3,.so 0),(12,.x (.i .i64))],os:=[.ar y3]},e:=[(.exit 0,{vs:=[(3,.so 0)],os:=[.ar y3]})]})]) (.cons OC .nil) (by kernel_rfl) (by kernel_rfl)
def iT(b_0:av)(t_1:Sl ae)(ports_2:Int)(room_3:Int):Option (Int×av):=
 (eK b_0).bind fun r1=>
 bif(r1 !=1)then(some (16,b_0))else
 ((ii b_0).bind fun(r2,q3)=>
 (oq t_1 r2 ports_2 room_3).bind fun(r4,r5,r6)=>
 some (r6,q3))
def Wr:fJ:=⟨[(true,.pb tu (.x tu)),(false,.x (.sl y0)),(false,.x (.i .i64)),(false,.x (.i .i64))],[([.x (.i .i64)],[.pb tu (.x tu)])],false,[true,false,false,false],fun p=>match p with|(b_0,t_1,ports_2,room_3)=>iT b_0 t_1 ports_2 room_3⟩
theorem Ur:bf prog 56 Wr:=aV mixed bn (bz:=bz) (np:=4) (an:=[]) (.cons OC (.cons Us (.cons OA .nil))) (by kernel_rfl) (by kernel_rfl)
def lg(b_0:av):Option av:=some (⟨2,(mx (.ar 16 .b)),(mx (.ar 16 y3)),0⟩:av)
def Wq:fJ:=⟨[(true,.pb tu (.x tu))],[([],[.pb tu (.x tu)])],false,[true],fun p=>match p with|b_0=>lg b_0⟩
theorem XO:bf prog 59 Wq:=aV mixed bn (bz:=bz) (np:=1) (an:=[]) .nil (by kernel_rfl) (by kernel_rfl)
def jJ(b_0:av)(t_1:Sl ae)(ports_2:Int)(room_3:Int):Option (Sl ae×Int×av):=
 (iT b_0 t_1 ports_2 room_3).bind fun(r1,q2)=>
 bif(r1 !=0)then(some (t_1,r1,q2))else
 ((ii q2).bind fun(r3,q4)=>
 (oq t_1 r3 ports_2 room_3).bind fun(r5,r6,r7)=>
 (lg q4).bind fun q8=>
 some (r5,0,q8))
def Wp:fJ:=⟨[(true,.pb tu (.x tu)),(false,.x (.sl y0)),(false,.x (.i .i64)),(false,.x (.i .i64))],[([.x (.sl y0),.x (.i .i64)],[.pb tu (.x tu)])],false,[true,false,false,false],fun p=>match p with|(b_0,t_1,ports_2,room_3)=>jJ b_0 t_1 ports_2 room_3⟩
theorem XN:bf prog 36 Wp:=aV mixed bn (bz:=bz) (np:=4) (an:=[]) (.cons Ur (.cons Us (.cons OA (.cons XO .nil)))) (by kernel_rfl) (by kernel_rfl)
def iD(s_0:Sl Int)(v_1:Int):Int->Option (Int⊕(Int⊕Unit)):=fun i2=>
 bif decide (i2<(s_0.l.length:Int))then((eX i2 s_0.l.length).bind fun n3=>
 bif(v_1==(gt s_0.l n3))then(some (.inr (.inl i2)))else
 (some (.inl (wr .i64 (i2+1)))))else
 (some (.inr (.inr ())))
def jC(s_0:Sl Int)(v_1:Int):Option Int:=
 (bw (iD s_0 v_1) 0).bind fun
 |.inl i4=>(some i4)
 |.inr _=>(some (-1))
def Wo:fJ:=⟨[(false,.x (.sl (.i .i64))),(false,.x (.i .i64))],[([.x (.i .i64)],[])],true,[],fun p=>match p with|(s_0,v_1)=>jC s_0 v_1⟩
theorem XM:bf prog 92 Wo:=aV mixed bn (bz:=bz) (np:=2) (an:=[(5,{j:=some {vs:=[(8,.x (.i .i64))]},e:=[(.ret,{vs:=[(4,.x (.i .i64))]}),(.exit 0,{})]})]) .nil (by kernel_rfl) (by kernel_rfl)
def oK(x_0:Int):Option Bool:=some (x_0 !=x_0)
def Wn:fJ:=⟨[(false,.x (.i .i64))],[([.x .b],[])],true,[],fun p=>match p with|x_0=>oK x_0⟩
theorem XL:bf prog 164 Wn:=aV mixed bn (bz:=bz) (np:=1) (an:=[]) .nil (by kernel_rfl) (by kernel_rfl)
def eJ(x_0:Int)(y_1:Int):Option Bool:=
 ((oK x_0).bind fun r1=>
 bif r1 then((oK y_1).bind fun r2=>
 some ((!r2)||(decide (x_0<y_1))))else
 (some (decide (x_0<y_1))):Option Bool).bind fun b3=>
 some b3
def Wm:fJ:=⟨[(false,.x (.i .i64)),(false,.x (.i .i64))],[([.x .b],[])],true,[],fun p=>match p with|(x_0,y_1)=>eJ x_0 y_1⟩
theorem Uq:bf prog 144 Wm:=aV mixed bn (bz:=bz) (np:=2) (an:=[(3,{j:=some {vs:=[(4,.x .b)]}})]) (.cons XL .nil) (by kernel_rfl) (by kernel_rfl)
def lH:(Int×Sl Int)->Option ((Int×Sl Int)⊕(Sl Int)):=fun(i4,s5)=>
 (bif decide (i4>0)then((eX i4 s5.l.length).bind fun n6=>
 (eX (wr .i64 ((wr .i64 (i4-1)).tdiv 2)) s5.l.length).bind fun n7=>
 (eJ (gt s5.l n6) (gt s5.l n7)).bind fun r8=>
 some r8)else
 (some false):Option Bool).bind fun b9=>
 bif b9 then((eX (wr .i64 ((wr .i64 (i4-1)).tdiv 2)) s5.l.length).bind fun n10=>
 (eX i4 s5.l.length).bind fun n11=>
 (eX i4 s5.l.length).bind fun n12=>
 (eX (wr .i64 ((wr .i64 (i4-1)).tdiv 2)) (s5.l.set n12 (gt s5.l n10)).length).bind fun n13=>
 some (.inl (wr .i64 ((wr .i64 (i4-1)).tdiv 2),(Sl.mk ((s5.l.set n12 (gt s5.l n10)).set n13 (gt s5.l n11))))))else
 (some (.inr s5))
def jG(q_0_l:Sl Int)(i_1:Int):Option (Sl Int):=
 (bw (lH) (i_1,q_0_l)).bind fun s14=>
 some s14
def Wl:fJ:=⟨[(true,.pb y7 (.st (.pr (.os (.i .i64)) .ni))),(false,.x (.i .i64))],[([],[.pb y7 (.st (.pr (.os (.i .i64)) .ni))])],false,[true,false],fun p=>match p with|(q_0_l,i_1)=>jG q_0_l i_1⟩
theorem Up:bf prog 130 Wl:=aV mixed bn (bz:=bz) (np:=2) (an:=[(0,{j:=some {vs:=[(0,.op 0 y7 []),(1,.x (.i .i64))],gs:=(.co (.op 0 y7 []) .ni),os:=[.bx y7 (.rc (.co (.so 1) .ni)),.ar (.i .i64)],kl:=[0,1]},e:=[(.exit 0,{gs:=(.co (.op 0 y7 []) .ni),os:=[.bx y7 (.rc (.co (.so 1) .ni)),.ar (.i .i64)],kl:=[0,1]})]}),(3,{j:=some {vs:=[(24,.x .b)]}})]) (.cons Uq .nil) (by kernel_rfl) (by kernel_rfl)
def nJ(i4:Int)(s5:Sl Int):(Int×Int)->Option ((Int×Int)⊕Int):=fun(i8,i9)=>
 bif((decide (i9<=(wr .i64 ((wr .i64 (2*i4))+2))))&&(decide (i9<(s5.l.length:Int))))then(((eX i9 s5.l.length).bind fun n10=>
 (eX i8 s5.l.length).bind fun n11=>
 (eJ (gt s5.l n10) (gt s5.l n11)).bind fun r12=>
 bif r12 then(some i9)else
 (some i8):Option Int).bind fun i13=>
 some (.inl (i13,wr .i64 (i9+1))))else
 (some (.inr i8))
def kN:(Int×Sl Int)->Option ((Int×Sl Int)⊕(Sl Int)):=fun(i4,s5)=>
 (bw (nJ i4 s5) (i4,wr .i64 ((wr .i64 (2*i4))+1))).bind fun i14=>
 bif(i14==i4)then(some (.inr s5))else
 ((eX i14 s5.l.length).bind fun n15=>
 (eX i4 s5.l.length).bind fun n16=>
 (eX i4 s5.l.length).bind fun n17=>
 (eX i14 (s5.l.set n17 (gt s5.l n15)).length).bind fun n18=>
 some (.inl (i14,(Sl.mk ((s5.l.set n17 (gt s5.l n15)).set n18 (gt s5.l n16))))))
def kg(q_0_l:Sl Int)(i_1:Int):Option (Sl Int):=
 (bw (kN) (i_1,q_0_l)).bind fun s19=>
 some s19
def Wj:fJ:=⟨[(true,.pb y7 (.st (.pr (.os (.i .i64)) .ni))),(false,.x (.i .i64))],[([],[.pb y7 (.st (.pr (.os (.i .i64)) .ni))])],false,[true,false],fun p=>match p with|(q_0_l,i_1)=>kg q_0_l i_1⟩
theorem XK:bf prog 131 Wj:=aV mixed bn (bz:=bz) (np:=2) (an:=[(0,{j:=some {vs:=[(0,.op 0 y7 []),(1,.x (.i .i64))],gs:=(.co (.op 0 y7 []) .ni),os:=[.bx y7 (.rc (.co (.so 1) .ni)),.ar (.i .i64)],kl:=[0,1]},e:=[(.ret,{gs:=(.co (.op 0 y7 []) .ni),os:=[.bx y7 (.rc (.co (.so 1) .ni)),.ar (.i .i64)],kl:=[0,1]})]}),(6,{j:=some {vs:=[(4,.x (.i .i64)),(5,.x (.i .i64))]},e:=[(.exit 2,{vs:=[(4,.x (.i .i64))]})]}),(10,{e:=[(.normal,{vs:=[(4,.x (.i .i64))]})]})]) (.cons Uq .nil) (by kernel_rfl) (by kernel_rfl)
def kf(q_0_l:Sl Int)(i_1:Int):Option (Sl Int):=
 (eX (wr .i64 ((q_0_l.l.length:Int)-1)) q_0_l.l.length).bind fun n1=>
 (eX i_1 q_0_l.l.length).bind fun n2=>
 (oX (q_0_l.l.set n2 (gt q_0_l.l n1)) 0 (wr .i64 ((q_0_l.l.length:Int)-1))).bind fun l3=>
 bif decide (i_1<(wr .i64 ((q_0_l.l.length:Int)-1)))then((jG (Sl.mk l3) i_1).bind fun s4=>
 (kg s4 i_1).bind fun s5=>
 some s5)else
 (some (Sl.mk l3))
def Wi:fJ:=⟨[(true,.pb y7 (.st (.pr (.os (.i .i64)) .ni))),(false,.x (.i .i64))],[([],[.pb y7 (.st (.pr (.os (.i .i64)) .ni))])],false,[true,false],fun p=>match p with|(q_0_l,i_1)=>kf q_0_l i_1⟩
theorem XJ:bf prog 93 Wi:=aV mixed bn (bz:=bz) (np:=2) (an:=[]) (.cons Up (.cons XK .nil)) (by kernel_rfl) (by kernel_rfl)
def kh(q_0_l:Sl Int)(x_1:Int):Option (Bool×Sl Int):=
 (jC q_0_l x_1).bind fun r1=>
 bif decide (r1<0)then(some (false,q_0_l))else
 ((kf q_0_l r1).bind fun s2=>
 some (true,s2))
def Wh:fJ:=⟨[(true,.pb y7 (.st (.pr (.os (.i .i64)) .ni))),(false,.x (.i .i64))],[([.x .b],[.pb y7 (.st (.pr (.os (.i .i64)) .ni))])],false,[true,false],fun p=>match p with|(q_0_l,x_1)=>kh q_0_l x_1⟩
theorem XI:bf prog 60 Wh:=aV mixed bn (bz:=bz) (np:=2) (an:=[]) (.cons XM (.cons XJ .nil)) (by kernel_rfl) (by kernel_rfl)
def fV(a_0_sw:Int)(a_0_room:Int)(a_0_up:Bool)(a_0_life:Int)(a_0_u:Int)(a_0_table:Sl ae)(a_0_staged:Mp Int (Sl ai))(a_0_armed:Mp Int Int)(a_0_wait_l:Sl Int)(a_0_done:Sl aB)(a_0_dead:Mp Int Int)(rd_1:Int):Option (Int×Int×Bool×Int×Int×Sl ae×Mp Int (Sl ai)×Mp Int Int×Sl Int×Sl aB×Mp Int Int):=
 (bif tQ a_0_armed rd_1 then((kh a_0_wait_l (wr .i64 ((wr .i64 ((rH a_0_armed 0 rd_1)*8))+rd_1))).bind fun(r1,s2)=>
 some (a_0_sw,a_0_room,a_0_up,a_0_life,a_0_u,a_0_table,a_0_staged,a_0_armed,a_0_done,a_0_dead,s2))else
 (some (a_0_sw,a_0_room,a_0_up,a_0_life,a_0_u,a_0_table,a_0_staged,a_0_armed,a_0_done,a_0_dead,a_0_wait_l)):Option (Int×Int×Bool×Int×Int×Sl ae×Mp Int (Sl ai)×Mp Int Int×Sl aB×Mp Int Int×Sl Int)).bind fun(i3,i4,b5,i6,i7,s8,m9,m10,s11,m12,s13)=>
 some (i3,i4,b5,i6,i7,s8,(jF m9 rd_1),(jF m10 rd_1),s13,s11,m12)
def Wg:fJ:=⟨[(true,.pb y8 (.st (.pr (.x (.i .i64)) (.pr (.x (.i .i64)) (.pr (.x .b) (.pr (.x (.i .i64)) (.pr (.x (.i .i64)) (.pr (.x (.sl y0)) (.pr (.mp (.i .i64) (.sl y3)) (.pr (.mp (.i .i64) (.i .i64)) (.pr (.pb y7 (.st (.pr (.os (.i .i64)) .ni))) (.pr (.os y9) (.pr (.mp (.i .i64) (.i .i64)) .ni))))))))))))),(false,.x (.i .i64))],[([],[.pb y8 (.st (.pr (.x (.i .i64)) (.pr (.x (.i .i64)) (.pr (.x .b) (.pr (.x (.i .i64)) (.pr (.x (.i .i64)) (.pr (.x (.sl y0)) (.pr (.mp (.i .i64) (.sl y3)) (.pr (.mp (.i .i64) (.i .i64)) (.pr (.pb y7 (.st (.pr (.os (.i .i64)) .ni))) (.pr (.os y9) (.pr (.mp (.i .i64) (.i .i64)) .ni))))))))))))])],false,[true,false],fun p=>match p with|(a_0_sw,a_0_room,a_0_up,a_0_life,a_0_u,a_0_table,a_0_staged,a_0_armed,a_0_wait_l,a_0_done,a_0_dead,rd_1)=>fV a_0_sw a_0_room a_0_up a_0_life a_0_u a_0_table a_0_staged a_0_armed a_0_wait_l a_0_done a_0_dead rd_1⟩
theorem Uo:bf prog 37 Wg:=aV mixed bn (bz:=bz) (np:=2) (an:=[(0,{e:=[(.normal,{vs:=[(0,.op 0 y8 [])],gs:=(.co (.op 0 y8 []) .ni),os:=[.bx y8 (.rc (.co (.x (.i .i64)) (.co (.x (.i .i64)) (.co (.x .b) (.co (.x (.i .i64)) (.co (.x (.i .i64)) (.co (.x (.sl y0)) (.co (.om 1) (.co (.om 2) (.co (.op 3 y7 []) (.co (.so 4) (.co (.om 5) .ni)))))))))))),.mp (.i .i64) (.sl y3),.mp (.i .i64) (.i .i64),.bx y7 (.rc (.co (.so 6) .ni)),.ar y9,.mp (.i .i64) (.i .i64),.ar (.i .i64)],kl:=[0,7,8,9,10,11,12]})]})]) (.cons XI .nil) (by kernel_rfl) (by kernel_rfl)
def gz(now_1:Int):(Int×Int×Bool×Int×Int×Sl ae×Sl aZ×Mp Int (Sl ai)×Mp Int Int×Sl aB×Mp Int Int×Sl Int)->Option ((Int×Int×Bool×Int×Int×Sl ae×Sl aZ×Mp Int (Sl ai)×Mp Int Int×Sl aB×Mp Int Int×Sl Int)⊕(Sl aZ×Int×Int×Bool×Int×Int×Sl ae×Mp Int (Sl ai)×Mp Int Int×Sl aB×Mp Int Int×Sl Int)):=fun(i25,i26,b27,i28,i29,s30,s31,m32,m33,s34,m35,s36)=>
 (gS s36).bind fun(r37,r38)=>
 bif((!r38)||(decide ((rH m33 0 (oe .i64 r37 7))>now_1)))then(some (.inr (s31,i25,i26,b27,i28,i29,s30,m32,m33,s34,m35,s36)))else
 (((ue (rH m32 Sl.nil (oe .i64 r37 7))).bind fun
 |.inl _=>((mG s30 8 i26).bind fun(r39,r40)=>
 some (r39,r40))
 |.inr r41=>((jJ r41 s30 8 i26).bind fun(r42,r43,q44)=>
 some (r42,r43)):Option (Sl ae×Int)).bind fun(s45,i46)=>
 (fV i25 i26 b27 i28 i29 s30 m32 m33 s36 s34 m35 (oe .i64 r37 7)).bind fun(q47,q48,q49,q50,q51,q52,q53,q54,s55,s56,q57)=>
 bif(i46 !=0)then((ld (s31.l++[(⟨3,oe .i64 r37 7⟩:aZ)])).bind fun l58=>
 some (.inl (q47,q48,q49,q50,q51,q52,(Sl.mk l58),q53,q54,s56,q57,s55)))else
 ((ld (s56.l++[(⟨oe .i64 r37 7,q52⟩:aB)])).bind fun l59=>
 (ld (s31.l++[(⟨1,oe .i64 r37 7⟩:aZ)])).bind fun l60=>
 some (.inl (q47,q48,q49,q50,q51,s45,(Sl.mk l60),q53,q54,(Sl.mk l59),q57,s55))))
def fg(a_0_sw:Int)(a_0_room:Int)(a_0_up:Bool)(a_0_life:Int)(a_0_u:Int)(a_0_table:Sl ae)(a_0_staged:Mp Int (Sl ai))(a_0_armed:Mp Int Int)(a_0_wait_l:Sl Int)(a_0_done:Sl aB)(a_0_dead:Mp Int Int)(now_1:Int):Option (Sl aZ×Int×Int×Bool×Int×Int×Sl ae×Mp Int (Sl ai)×Mp Int Int×Sl Int×Sl aB×Mp Int Int):=
 (fL a_0_sw a_0_room a_0_up a_0_life a_0_u a_0_table a_0_staged a_0_armed a_0_wait_l a_0_done a_0_dead).bind fun(r1,q2,q3,q4,q5,q6,q7,q8,q9,s10,s11,q12)=>
 bif(!r1)then(some (Sl.nil,q2,q3,q4,q5,q6,q7,q8,q9,s10,s11,q12))else
 ((bw (gz now_1) (q2,q3,q4,q5,q6,q7,Sl.nil,q8,q9,s11,q12,s10)).bind fun(s61,i62,i63,b64,i65,i66,s67,m68,m69,s70,m71,s72)=>
 some (s61,i62,i63,b64,i65,i66,s67,m68,m69,s72,s70,m71))
def Wf:fJ:=⟨[(true,.pb y8 (.st (.pr (.x (.i .i64)) (.pr (.x (.i .i64)) (.pr (.x .b) (.pr (.x (.i .i64)) (.pr (.x (.i .i64)) (.pr (.x (.sl y0)) (.pr (.mp (.i .i64) (.sl y3)) (.pr (.mp (.i .i64) (.i .i64)) (.pr (.pb y7 (.st (.pr (.os (.i .i64)) .ni))) (.pr (.os y9) (.pr (.mp (.i .i64) (.i .i64)) .ni))))))))))))),(false,.x (.i .i64))],[([.os y5],[.pb y8 (.st (.pr (.x (.i .i64)) (.pr (.x (.i .i64)) (.pr (.x .b) (.pr (.x (.i .i64)) (.pr (.x (.i .i64)) (.pr (.x (.sl y0)) (.pr (.mp (.i .i64) (.sl y3)) (.pr (.mp (.i .i64) (.i .i64)) (.pr (.pb y7 (.st (.pr (.os (.i .i64)) .ni))) (.pr (.os y9) (.pr (.mp (.i .i64) (.i .i64)) .ni))))))))))))])],false,[true,false],fun p=>match p with|(a_0_sw,a_0_room,a_0_up,a_0_life,a_0_u,a_0_table,a_0_staged,a_0_armed,a_0_wait_l,a_0_done,a_0_dead,now_1)=>fg a_0_sw a_0_room a_0_up a_0_life a_0_u a_0_table a_0_staged a_0_armed a_0_wait_l a_0_done a_0_dead now_1⟩
theorem Oz:bf prog 13 Wf:=aV mixed bn (bz:=bz) (np:=2) (an:=[(9,{j:=some {vs:=[(0,.op 0 y8 []),(5,.so 1)],gs:=(.co (.op 0 y8 []) .ni),os:=[.bx y8 (.rc (.co (.x (.i .i64)) (.co (.x (.i .i64)) (.co (.x .b) (.co (.x (.i .i64)) (.co (.x (.i .i64)) (.co (.x (.sl y0)) (.co (.om 2) (.co (.om 3) (.co (.op 4 y7 []) (.co (.so 5) (.co (.om 6) .ni)))))))))))),.ar y5,.mp (.i .i64) (.sl y3),.mp (.i .i64) (.i .i64),.bx y7 (.rc (.co (.so 7) .ni)),.ar y9,.mp (.i .i64) (.i .i64),.ar (.i .i64)],kl:=[0,19,20,21,22,23,24]},e:=[(.ret,{vs:=[(4,.so 0)],gs:=(.co (.op 1 y8 []) .ni),os:=[.ar y5,.bx y8 (.rc (.co (.x (.i .i64)) (.co (.x (.i .i64)) (.co (.x .b) (.co (.x (.i .i64)) (.co (.x (.i .i64)) (.co (.x (.sl y0)) (.co (.om 2) (.co (.om 3) (.co (.op 4 y7 []) (.co (.so 5) (.co (.om 6) .ni)))))))))))),.mp (.i .i64) (.sl y3),.mp (.i .i64) (.i .i64),.bx y7 (.rc (.co (.so 7) .ni)),.ar y9,.mp (.i .i64) (.i .i64),.ar (.i .i64)],kl:=[0,19,20,21,22,23,24]})]}),(20,{j:=some {vs:=[(9,.x (.sl y0)),(10,.x (.i .i64))]}})]) (.cons OD (.cons X9 (.cons UA (.cons XP (.cons XN (.cons Uo .nil)))))) (by kernel_rfl) (by kernel_rfl)
def iX(a_0_done:Sl aB):(Int×Sl Int)->Option ((Int×Sl Int)⊕(Sl Int)):=fun(i4,s5)=>
 bif decide (i4<(a_0_done.l.length:Int))then((eX i4 a_0_done.l.length).bind fun n6=>
 (ld (s5.l++[aB.rd (gt a_0_done.l n6)])).bind fun l7=>
 some (.inl (wr .i64 (i4+1),(Sl.mk l7))))else
 (some (.inr s5))
def kD(a_0_sw:Int)(a_0_room:Int)(a_0_up:Bool)(a_0_life:Int)(a_0_u:Int)(a_0_table:Sl ae)(a_0_staged:Mp Int (Sl ai))(a_0_armed:Mp Int Int)(a_0_wait_l:Sl Int)(a_0_done:Sl aB)(a_0_dead:Mp Int Int):Option (Sl Int×Int×Int×Bool×Int×Int×Sl ae×Mp Int (Sl ai)×Mp Int Int×Sl Int×Sl aB×Mp Int Int):=
 (bw (iX a_0_done) (0,Sl.nil)).bind fun s8=>
 some (s8,a_0_sw,a_0_room,a_0_up,a_0_life,a_0_u,a_0_table,a_0_staged,a_0_armed,a_0_wait_l,a_0_done,a_0_dead)
def We:fJ:=⟨[(true,.pb y8 (.st (.pr (.x (.i .i64)) (.pr (.x (.i .i64)) (.pr (.x .b) (.pr (.x (.i .i64)) (.pr (.x (.i .i64)) (.pr (.x (.sl y0)) (.pr (.mp (.i .i64) (.sl y3)) (.pr (.mp (.i .i64) (.i .i64)) (.pr (.pb y7 (.st (.pr (.os (.i .i64)) .ni))) (.pr (.os y9) (.pr (.mp (.i .i64) (.i .i64)) .ni)))))))))))))],[([.x (.sl (.i .i64))],[.pb y8 (.st (.pr (.x (.i .i64)) (.pr (.x (.i .i64)) (.pr (.x .b) (.pr (.x (.i .i64)) (.pr (.x (.i .i64)) (.pr (.x (.sl y0)) (.pr (.mp (.i .i64) (.sl y3)) (.pr (.mp (.i .i64) (.i .i64)) (.pr (.pb y7 (.st (.pr (.os (.i .i64)) .ni))) (.pr (.os y9) (.pr (.mp (.i .i64) (.i .i64)) .ni))))))))))))])],false,[true],fun p=>match p with|(a_0_sw,a_0_room,a_0_up,a_0_life,a_0_u,a_0_table,a_0_staged,a_0_armed,a_0_wait_l,a_0_done,a_0_dead)=>kD a_0_sw a_0_room a_0_up a_0_life a_0_u a_0_table a_0_staged a_0_armed a_0_wait_l a_0_done a_0_dead⟩
theorem XH:bf prog 14 We:=aV mixed bn (bz:=bz) (np:=1) (an:=[(12,{j:=some {vs:=[(3,.so 0),(13,.x (.i .i64))],os:=[.ar (.i .i64)]},e:=[(.exit 0,{vs:=[(3,.so 0)],os:=[.ar (.i .i64)]})]})]) .nil (by kernel_rfl) (by kernel_rfl)
def fA(a_0_sw:Int)(a_0_room:Int)(a_0_up:Bool)(a_0_life:Int)(a_0_u:Int)(a_0_table:Sl ae)(a_0_staged:Mp Int (Sl ai))(a_0_armed:Mp Int Int)(a_0_wait_l:Sl Int)(a_0_done:Sl aB)(a_0_dead:Mp Int Int):Option (Int×Int×Bool×Int×Int×Sl ae×Mp Int (Sl ai)×Mp Int Int×Sl Int×Sl aB×Mp Int Int):=
 (nL).bind fun s1=>
 some (a_0_sw,a_0_room,a_0_up,a_0_life,a_0_u,a_0_table,(Mp.none:Mp Int (Sl ai)),(Mp.none:Mp Int Int),s1,a_0_done,a_0_dead)
def Wd:fJ:=⟨[(true,.pb y8 (.st (.pr (.x (.i .i64)) (.pr (.x (.i .i64)) (.pr (.x .b) (.pr (.x (.i .i64)) (.pr (.x (.i .i64)) (.pr (.x (.sl y0)) (.pr (.mp (.i .i64) (.sl y3)) (.pr (.mp (.i .i64) (.i .i64)) (.pr (.pb y7 (.st (.pr (.os (.i .i64)) .ni))) (.pr (.os y9) (.pr (.mp (.i .i64) (.i .i64)) .ni)))))))))))))],[([],[.pb y8 (.st (.pr (.x (.i .i64)) (.pr (.x (.i .i64)) (.pr (.x .b) (.pr (.x (.i .i64)) (.pr (.x (.i .i64)) (.pr (.x (.sl y0)) (.pr (.mp (.i .i64) (.sl y3)) (.pr (.mp (.i .i64) (.i .i64)) (.pr (.pb y7 (.st (.pr (.os (.i .i64)) .ni))) (.pr (.os y9) (.pr (.mp (.i .i64) (.i .i64)) .ni))))))))))))])],false,[true],fun p=>match p with|(a_0_sw,a_0_room,a_0_up,a_0_life,a_0_u,a_0_table,a_0_staged,a_0_armed,a_0_wait_l,a_0_done,a_0_dead)=>fA a_0_sw a_0_room a_0_up a_0_life a_0_u a_0_table a_0_staged a_0_armed a_0_wait_l a_0_done a_0_dead⟩
theorem Rp:bf prog 32 Wd:=aV mixed bn (bz:=bz) (np:=1) (an:=[]) (.cons UB .nil) (by kernel_rfl) (by kernel_rfl)
def oH(d_0:aB)(c_1:Int):Option Bool:=some ((aB.rd d_0)==c_1)
def Wc:fJ:=⟨[(false,.x y9),(false,.pt (.i .i64))],[([.x .b],[])],true,[],fun p=>match p with|(d_0,c_1)=>oH d_0 c_1⟩
theorem XG:bf prog 150 Wc:=aV mixed bn (bz:=bz) (np:=2) (an:=[]) .nil (by kernel_rfl) (by kernel_rfl)
def ci(s_0:Sl aB)(f_1_c0:Int):Int->Option (Int⊕(Int⊕Unit)):=fun i2=>
 bif decide (i2<(s_0.l.length:Int))then((eX i2 s_0.l.length).bind fun n3=>
 (oH (gt s_0.l n3) f_1_c0).bind fun r4=>
 bif r4 then(some (.inr (.inl i2)))else
 (some (.inl (wr .i64 (i2+1)))))else
 (some (.inr (.inr ())))
def dp(s_0:Sl aB)(f_1_c0:Int):Option Int:=
 (bw (ci s_0 f_1_c0) 0).bind fun
 |.inl i5=>(some i5)
 |.inr _=>(some (-1))
def Ue:fJ:=⟨[(false,.x (.sl y9)),(false,.fn 150 (.pr (.pt (.i .i64)) .ni))],[([.x (.i .i64)],[])],true,[],fun p=>match p with|(s_0,f_1_c0)=>dp s_0 f_1_c0⟩
theorem Vk:bf prog 165 Ue:=aV mixed bn (bz:=bz) (np:=2) (an:=[(5,{j:=some {vs:=[(8,.x (.i .i64))]},e:=[(.ret,{vs:=[(4,.x (.i .i64))]}),(.exit 0,{})]})]) (.cons XG .nil) (by kernel_rfl) (by kernel_rfl)
def c8(s_0:Sl aB)(f_1_c0:Int):Option Bool:=
 (dp s_0 f_1_c0).bind fun r1=>
 some (decide (r1>=0))
def Ud:fJ:=⟨[(false,.x (.sl y9)),(false,.fn 150 (.pr (.pt (.i .i64)) .ni))],[([.x .b],[])],true,[],fun p=>match p with|(s_0,f_1_c0)=>c8 s_0 f_1_c0⟩
theorem Vj:bf prog 149 Ud:=aV mixed bn (bz:=bz) (np:=2) (an:=[]) (.cons Vk .nil) (by kernel_rfl) (by kernel_rfl)
def kA(a_0_sw:Int)(a_0_room:Int)(a_0_up:Bool)(a_0_life:Int)(a_0_u:Int)(a_0_table:Sl ae)(a_0_staged:Mp Int (Sl ai))(a_0_armed:Mp Int Int)(a_0_wait_l:Sl Int)(a_0_done:Sl aB)(a_0_dead:Mp Int Int)(rd_1:Int):Option (Bool×Int×Int×Bool×Int×Int×Sl ae×Mp Int (Sl ai)×Mp Int Int×Sl Int×Sl aB×Mp Int Int):=
 (c8 a_0_done rd_1).bind fun r1=>
 some (r1,a_0_sw,a_0_room,a_0_up,a_0_life,a_0_u,a_0_table,a_0_staged,a_0_armed,a_0_wait_l,a_0_done,a_0_dead)
def Uc:fJ:=⟨[(true,.pb y8 (.st (.pr (.x (.i .i64)) (.pr (.x (.i .i64)) (.pr (.x .b) (.pr (.x (.i .i64)) (.pr (.x (.i .i64)) (.pr (.x (.sl y0)) (.pr (.mp (.i .i64) (.sl y3)) (.pr (.mp (.i .i64) (.i .i64)) (.pr (.pb y7 (.st (.pr (.os (.i .i64)) .ni))) (.pr (.os y9) (.pr (.mp (.i .i64) (.i .i64)) .ni))))))))))))),(false,.x (.i .i64))],[([.x .b],[.pb y8 (.st (.pr (.x (.i .i64)) (.pr (.x (.i .i64)) (.pr (.x .b) (.pr (.x (.i .i64)) (.pr (.x (.i .i64)) (.pr (.x (.sl y0)) (.pr (.mp (.i .i64) (.sl y3)) (.pr (.mp (.i .i64) (.i .i64)) (.pr (.pb y7 (.st (.pr (.os (.i .i64)) .ni))) (.pr (.os y9) (.pr (.mp (.i .i64) (.i .i64)) .ni))))))))))))])],false,[true,false],fun p=>match p with|(a_0_sw,a_0_room,a_0_up,a_0_life,a_0_u,a_0_table,a_0_staged,a_0_armed,a_0_wait_l,a_0_done,a_0_dead,rd_1)=>kA a_0_sw a_0_room a_0_up a_0_life a_0_u a_0_table a_0_staged a_0_armed a_0_wait_l a_0_done a_0_dead rd_1⟩
theorem Li:bf prog 116 Uc:=aV mixed bn (bz:=bz) (np:=2) (an:=[]) (.cons Vj .nil) (by kernel_rfl) (by kernel_rfl)
def jL(a_0_sw:Int)(a_0_room:Int)(a_0_up:Bool)(a_0_life:Int)(a_0_u:Int)(a_0_table:Sl ae)(a_0_staged:Mp Int (Sl ai))(a_0_armed:Mp Int Int)(a_0_wait_l:Sl Int)(a_0_done:Sl aB)(a_0_dead:Mp Int Int)(rd_1:Int):Option (Int×Bool×Int×Int×Bool×Int×Int×Sl ae×Mp Int (Sl ai)×Mp Int Int×Sl Int×Sl aB×Mp Int Int):=
 bif tQ a_0_dead rd_1 then(some (16,true,a_0_sw,a_0_room,a_0_up,a_0_life,a_0_u,a_0_table,a_0_staged,a_0_armed,a_0_wait_l,a_0_done,a_0_dead))else
 ((kA a_0_sw a_0_room a_0_up a_0_life a_0_u a_0_table a_0_staged a_0_armed a_0_wait_l a_0_done a_0_dead rd_1).bind fun(r1,q2,q3,q4,q5,q6,q7,q8,q9,s10,s11,q12)=>
 some (0,r1,q2,q3,q4,q5,q6,q7,q8,q9,s10,s11,q12))
def Ub:fJ:=⟨[(true,.pb y8 (.st (.pr (.x (.i .i64)) (.pr (.x (.i .i64)) (.pr (.x .b) (.pr (.x (.i .i64)) (.pr (.x (.i .i64)) (.pr (.x (.sl y0)) (.pr (.mp (.i .i64) (.sl y3)) (.pr (.mp (.i .i64) (.i .i64)) (.pr (.pb y7 (.st (.pr (.os (.i .i64)) .ni))) (.pr (.os y9) (.pr (.mp (.i .i64) (.i .i64)) .ni))))))))))))),(false,.x (.i .i64))],[([.x (.i .i64),.x .b],[.pb y8 (.st (.pr (.x (.i .i64)) (.pr (.x (.i .i64)) (.pr (.x .b) (.pr (.x (.i .i64)) (.pr (.x (.i .i64)) (.pr (.x (.sl y0)) (.pr (.mp (.i .i64) (.sl y3)) (.pr (.mp (.i .i64) (.i .i64)) (.pr (.pb y7 (.st (.pr (.os (.i .i64)) .ni))) (.pr (.os y9) (.pr (.mp (.i .i64) (.i .i64)) .ni))))))))))))])],false,[true,false],fun p=>match p with|(a_0_sw,a_0_room,a_0_up,a_0_life,a_0_u,a_0_table,a_0_staged,a_0_armed,a_0_wait_l,a_0_done,a_0_dead,rd_1)=>jL a_0_sw a_0_room a_0_up a_0_life a_0_u a_0_table a_0_staged a_0_armed a_0_wait_l a_0_done a_0_dead rd_1⟩
theorem Qg:bf prog 111 Ub:=aV mixed bn (bz:=bz) (np:=2) (an:=[]) (.cons Li .nil) (by kernel_rfl) (by kernel_rfl)
def sQ(a_0:Sl ai)(b_1:Sl ai):Option Bool:=
 (pT (⟨0,0,0,0,0,0,0,0,0,a_0⟩:ad) (⟨0,0,0,0,0,0,0,0,0,b_1⟩:ad)).bind fun r1=>
 some r1
def Ua:fJ:=⟨[(false,.x (.sl y3)),(false,.x (.sl y3))],[([.x .b],[])],true,[],fun p=>match p with|(a_0,b_1)=>sQ a_0 b_1⟩
theorem Vi:bf prog 112 Ua:=aV mixed bn (bz:=bz) (np:=2) (an:=[]) (.cons U3 .nil) (by kernel_rfl) (by kernel_rfl)
def gq(s_0:Sl ai):Option (Sl ai):=
 bif s_0.fF then(some Sl.nil)else
 ((ld ([]++s_0.l)).bind fun l1=>
 some (sP (Sl.mk []) s_0.l l1))
def T_:fJ:=⟨[(false,.x (.sl y3))],[([.x (.sl y3)],[])],false,[],fun p=>match p with|s_0=>gq s_0⟩
theorem Vh:bf prog 113 T_:=aV mixed bn (bz:=bz) (np:=1) (an:=[]) .nil (by kernel_rfl) (by kernel_rfl)
def lq(a_0_sw:Int)(a_0_room:Int)(a_0_up:Bool)(a_0_life:Int)(a_0_u:Int)(a_0_table:Sl ae)(a_0_staged:Mp Int (Sl ai))(a_0_armed:Mp Int Int)(a_0_wait_l:Sl Int)(a_0_done:Sl aB)(a_0_dead:Mp Int Int)(m_1:ad):Option (Int×Int×Int×Bool×Int×Int×Sl ae×Mp Int (Sl ai)×Mp Int Int×Sl Int×Sl aB×Mp Int Int):=
 (jL a_0_sw a_0_room a_0_up a_0_life a_0_u a_0_table a_0_staged a_0_armed a_0_wait_l a_0_done a_0_dead (ad.Rd m_1)).bind fun(r1,r2,q3,q4,q5,q6,q7,q8,q9,q10,s11,s12,q13)=>
 bif r2 then(some (r1,q3,q4,q5,q6,q7,q8,q9,q10,s11,s12,q13))else
 (bif tQ q9 (ad.Rd m_1)then((sQ (rH q9 Sl.nil (ad.Rd m_1)) (ad.gi m_1)).bind fun r14=>
 bif(!r14)then(some (8,q3,q4,q5,q6,q7,q8,q9,q10,s11,s12,q13))else
 (some (0,q3,q4,q5,q6,q7,q8,q9,q10,s11,s12,q13)))else
 (((ue (ad.gi m_1)).bind fun
 |.inl _=>((kz q8 8 q4).bind fun r15=>
 some r15)
 |.inr r16=>((iT r16 q8 8 q4).bind fun(r17,q18)=>
 some r17):Option Int).bind fun i19=>
 bif(i19 !=0)then(some (i19,q3,q4,q5,q6,q7,q8,q9,q10,s11,s12,q13))else
 ((gq (ad.gi m_1)).bind fun r20=>
 some (0,q3,q4,q5,q6,q7,q8,(gW q9 (ad.Rd m_1) r20),q10,s11,s12,q13))))
def T9:fJ:=⟨[(true,.pb y8 (.st (.pr (.x (.i .i64)) (.pr (.x (.i .i64)) (.pr (.x .b) (.pr (.x (.i .i64)) (.pr (.x (.i .i64)) (.pr (.x (.sl y0)) (.pr (.mp (.i .i64) (.sl y3)) (.pr (.mp (.i .i64) (.i .i64)) (.pr (.pb y7 (.st (.pr (.os (.i .i64)) .ni))) (.pr (.os y9) (.pr (.mp (.i .i64) (.i .i64)) .ni))))))))))))),(false,.x y4)],[([.x (.i .i64)],[.pb y8 (.st (.pr (.x (.i .i64)) (.pr (.x (.i .i64)) (.pr (.x .b) (.pr (.x (.i .i64)) (.pr (.x (.i .i64)) (.pr (.x (.sl y0)) (.pr (.mp (.i .i64) (.sl y3)) (.pr (.mp (.i .i64) (.i .i64)) (.pr (.pb y7 (.st (.pr (.os (.i .i64)) .ni))) (.pr (.os y9) (.pr (.mp (.i .i64) (.i .i64)) .ni))))))))))))])],false,[true,false],fun p=>match p with|(a_0_sw,a_0_room,a_0_up,a_0_life,a_0_u,a_0_table,a_0_staged,a_0_armed,a_0_wait_l,a_0_done,a_0_dead,m_1)=>lq a_0_sw a_0_room a_0_up a_0_life a_0_u a_0_table a_0_staged a_0_armed a_0_wait_l a_0_done a_0_dead m_1⟩
theorem Vg:bf prog 80 T9:=aV mixed bn (bz:=bz) (np:=2) (an:=[(23,{j:=some {vs:=[(9,.x (.i .i64))]}})]) (.cons Qg (.cons Vi (.cons UA (.cons Ut (.cons Ur (.cons Vh .nil)))))) (by kernel_rfl) (by kernel_rfl)
def iP(q_0_l:Sl Int)(x_1:Int):Option (Sl Int):=
 (ld (q_0_l.l++[x_1])).bind fun l1=>
 (jG (Sl.mk l1) (wr .i64 ((l1.length:Int)-1))).bind fun s2=>
 some s2
def T8:fJ:=⟨[(true,.pb y7 (.st (.pr (.os (.i .i64)) .ni))),(false,.x (.i .i64))],[([],[.pb y7 (.st (.pr (.os (.i .i64)) .ni))])],false,[true,false],fun p=>match p with|(q_0_l,x_1)=>iP q_0_l x_1⟩
theorem Vf:bf prog 114 T8:=aV mixed bn (bz:=bz) (np:=2) (an:=[]) (.cons Up .nil) (by kernel_rfl) (by kernel_rfl)
def mN(a_0_sw:Int)(a_0_room:Int)(a_0_up:Bool)(a_0_life:Int)(a_0_u:Int)(a_0_table:Sl ae)(a_0_staged:Mp Int (Sl ai))(a_0_armed:Mp Int Int)(a_0_wait_l:Sl Int)(a_0_done:Sl aB)(a_0_dead:Mp Int Int)(now_1:Int)(m_2:ad):Option (Int×Int×Int×Bool×Int×Int×Sl ae×Mp Int (Sl ai)×Mp Int Int×Sl Int×Sl aB×Mp Int Int):=
 (jL a_0_sw a_0_room a_0_up a_0_life a_0_u a_0_table a_0_staged a_0_armed a_0_wait_l a_0_done a_0_dead (ad.Rd m_2)).bind fun(r1,r2,q3,q4,q5,q6,q7,q8,q9,q10,s11,s12,q13)=>
 bif r2 then(some (r1,q3,q4,q5,q6,q7,q8,q9,q10,s11,s12,q13))else
 (bif(!(tQ q9 (ad.Rd m_2)))then(some (7,q3,q4,q5,q6,q7,q8,q9,q10,s11,s12,q13))else
 (bif((tQ q10 (ad.Rd m_2))&&((rH q10 0 (ad.Rd m_2)) !=(ad.T2 m_2)))then(some (8,q3,q4,q5,q6,q7,q8,q9,q10,s11,s12,q13))else
 (bif tQ q10 (ad.Rd m_2)then(some (0,q3,q4,q5,q6,q7,q8,q9,q10,s11,s12,q13))else
 (bif decide (now_1>=(ad.T2 m_2))then(some (15,q3,q4,q5,q6,q7,q8,q9,q10,s11,s12,q13))else
 ((iP s11 (wr .i64 ((wr .i64 ((ad.T2 m_2)*8))+(ad.Rd m_2)))).bind fun s14=>
 some (0,q3,q4,q5,q6,q7,q8,q9,(gW q10 (ad.Rd m_2) (ad.T2 m_2)),s14,s12,q13))))))
def T7:fJ:=⟨[(true,.pb y8 (.st (.pr (.x (.i .i64)) (.pr (.x (.i .i64)) (.pr (.x .b) (.pr (.x (.i .i64)) (.pr (.x (.i .i64)) (.pr (.x (.sl y0)) (.pr (.mp (.i .i64) (.sl y3)) (.pr (.mp (.i .i64) (.i .i64)) (.pr (.pb y7 (.st (.pr (.os (.i .i64)) .ni))) (.pr (.os y9) (.pr (.mp (.i .i64) (.i .i64)) .ni))))))))))))),(false,.x (.i .i64)),(false,.x y4)],[([.x (.i .i64)],[.pb y8 (.st (.pr (.x (.i .i64)) (.pr (.x (.i .i64)) (.pr (.x .b) (.pr (.x (.i .i64)) (.pr (.x (.i .i64)) (.pr (.x (.sl y0)) (.pr (.mp (.i .i64) (.sl y3)) (.pr (.mp (.i .i64) (.i .i64)) (.pr (.pb y7 (.st (.pr (.os (.i .i64)) .ni))) (.pr (.os y9) (.pr (.mp (.i .i64) (.i .i64)) .ni))))))))))))])],false,[true,false,false],fun p=>match p with|(a_0_sw,a_0_room,a_0_up,a_0_life,a_0_u,a_0_table,a_0_staged,a_0_armed,a_0_wait_l,a_0_done,a_0_dead,now_1,m_2)=>mN a_0_sw a_0_room a_0_up a_0_life a_0_u a_0_table a_0_staged a_0_armed a_0_wait_l a_0_done a_0_dead now_1 m_2⟩
theorem Ve:bf prog 81 T7:=aV mixed bn (bz:=bz) (np:=3) (an:=[]) (.cons Qg (.cons Vf .nil)) (by kernel_rfl) (by kernel_rfl)
def kC(a_0_sw:Int)(a_0_room:Int)(a_0_up:Bool)(a_0_life:Int)(a_0_u:Int)(a_0_table:Sl ae)(a_0_staged:Mp Int (Sl ai))(a_0_armed:Mp Int Int)(a_0_wait_l:Sl Int)(a_0_done:Sl aB)(a_0_dead:Mp Int Int):Option (aZ×Int×Int×Bool×Int×Int×Sl ae×Mp Int (Sl ai)×Mp Int Int×Sl Int×Sl aB×Mp Int Int):=
 (eX (wr .i64 ((a_0_done.l.length:Int)-1)) a_0_done.l.length).bind fun n1=>
 (oX a_0_done.l 0 (wr .i64 ((a_0_done.l.length:Int)-1))).bind fun l2=>
 some ((⟨2,aB.rd (gt a_0_done.l n1)⟩:aZ),a_0_sw,a_0_room,a_0_up,a_0_life,a_0_u,aB.e9 (gt a_0_done.l n1),a_0_staged,a_0_armed,a_0_wait_l,(a_0_done.to l2),a_0_dead)
def T6:fJ:=⟨[(true,.pb y8 (.st (.pr (.x (.i .i64)) (.pr (.x (.i .i64)) (.pr (.x .b) (.pr (.x (.i .i64)) (.pr (.x (.i .i64)) (.pr (.x (.sl y0)) (.pr (.mp (.i .i64) (.sl y3)) (.pr (.mp (.i .i64) (.i .i64)) (.pr (.pb y7 (.st (.pr (.os (.i .i64)) .ni))) (.pr (.os y9) (.pr (.mp (.i .i64) (.i .i64)) .ni)))))))))))))],[([.x y5],[.pb y8 (.st (.pr (.x (.i .i64)) (.pr (.x (.i .i64)) (.pr (.x .b) (.pr (.x (.i .i64)) (.pr (.x (.i .i64)) (.pr (.x (.sl y0)) (.pr (.mp (.i .i64) (.sl y3)) (.pr (.mp (.i .i64) (.i .i64)) (.pr (.pb y7 (.st (.pr (.os (.i .i64)) .ni))) (.pr (.os y9) (.pr (.mp (.i .i64) (.i .i64)) .ni))))))))))))])],false,[true],fun p=>match p with|(a_0_sw,a_0_room,a_0_up,a_0_life,a_0_u,a_0_table,a_0_staged,a_0_armed,a_0_wait_l,a_0_done,a_0_dead)=>kC a_0_sw a_0_room a_0_up a_0_life a_0_u a_0_table a_0_staged a_0_armed a_0_wait_l a_0_done a_0_dead⟩
theorem Vd:bf prog 115 T6:=aV mixed bn (bz:=bz) (np:=1) (an:=[]) .nil (by kernel_rfl) (by kernel_rfl)
def iW:(Int×Int×Bool×Int×Int×Sl ae×Sl aZ×Mp Int (Sl ai)×Mp Int Int×Sl aB×Mp Int Int×Sl Int)->Option ((Int×Int×Bool×Int×Int×Sl ae×Sl aZ×Mp Int (Sl ai)×Mp Int Int×Sl aB×Mp Int Int×Sl Int)⊕(Int×Int×Bool×Int×Int×Sl ae×Sl aZ×Mp Int (Sl ai)×Mp Int Int×Sl aB×Mp Int Int×Sl Int)):=fun(i13,i14,b15,i16,i17,s18,s19,m20,m21,s22,m23,s24)=>
 bif decide ((s22.l.length:Int)>0)then((kC i13 i14 b15 i16 i17 s18 m20 m21 s24 s22 m23).bind fun(r25,q26,q27,q28,q29,q30,q31,q32,q33,s34,s35,q36)=>
 (ld (s19.l++[r25])).bind fun l37=>
 some (.inl (q26,q27,q28,q29,q30,q31,(Sl.mk l37),q32,q33,s35,q36,s34)))else
 (some (.inr (i13,i14,b15,i16,i17,s18,s19,m20,m21,s22,m23,s24)))
def gT:(Int×Int×Int×Bool×Int×Int×Sl ae×Mp Int (Sl ai)×Mp Int Int×Sl aB×Mp Int Int×Sl Int)->Option ((Int×Int×Int×Bool×Int×Int×Sl ae×Mp Int (Sl ai)×Mp Int Int×Sl aB×Mp Int Int×Sl Int)⊕(Int×Int×Bool×Int×Int×Sl ae×Mp Int (Sl ai)×Mp Int Int×Sl aB×Mp Int Int×Sl Int)):=fun(i74,i75,i76,b77,i78,i79,s80,m81,m82,s83,m84,s85)=>
 bif decide (i74<8)then(some (.inl (wr .i64 (i74+1),i75,i76,b77,i78,i79,s80,m81,m82,s83,(gW m84 i74 i79),s85)))else
 (some (.inr (i75,i76,b77,i78,i79,s80,m81,m82,s83,m84,s85)))
def l_(a_0_sw:Int)(a_0_room:Int)(a_0_up:Bool)(a_0_life:Int)(a_0_u:Int)(a_0_table:Sl ae)(a_0_staged:Mp Int (Sl ai))(a_0_armed:Mp Int Int)(a_0_wait_l:Sl Int)(a_0_done:Sl aB)(a_0_dead:Mp Int Int)(rd_1:Int):Option (Sl aZ×Int×Int×Int×Bool×Int×Int×Sl ae×Mp Int (Sl ai)×Mp Int Int×Sl Int×Sl aB×Mp Int Int):=
 bif decide (rd_1<0)then((bw (iW) (a_0_sw,a_0_room,a_0_up,a_0_life,a_0_u,a_0_table,Sl.nil,a_0_staged,a_0_armed,a_0_done,a_0_dead,a_0_wait_l)).bind fun(i38,i39,b40,i41,i42,s43,s44,m45,m46,s47,m48,s49)=>
 (fA i38 i39 b40 i41 i42 s43 m45 m46 s49 s47 m48).bind fun(q50,q51,q52,q53,q54,q55,q56,q57,s58,s59,q60)=>
 (bw (gT) (0,q50,q51,q52,q53,q54,q55,q56,q57,s59,q60,s58)).bind fun(i86,i87,b88,i89,i90,s91,m92,m93,s94,m95,s96)=>
 some (s44,0,i86,i87,b88,i89,i90,s91,m92,m93,s96,s94,m95))else
 (((kA a_0_sw a_0_room a_0_up a_0_life a_0_u a_0_table a_0_staged a_0_armed a_0_wait_l a_0_done a_0_dead rd_1).bind fun(r97,q98,q99,q100,q101,q102,q103,q104,q105,s106,s107,q108)=>
 bif r97 then((eX (wr .i64 ((s107.l.length:Int)-1)) s107.l.length).bind fun n109=>
 bif((aB.rd (gt s107.l n109)) !=rd_1)then(some (.inr (16,q98,q99,q100,q101,q102,q103,q104,q105,s107,q108,s106)))else
 ((kC q98 q99 q100 q101 q102 q103 q104 q105 s106 s107 q108).bind fun(r110,q111,q112,q113,q114,q115,q116,q117,q118,s119,s120,q121)=>
 (ld ([]++[r110])).bind fun l122=>
 some (.inl (q111,q112,q113,q114,q115,q116,(Sl.mk l122),q117,q118,s120,q121,s119))))else
 (some (.inl (q98,q99,q100,q101,q102,q103,Sl.nil,q104,q105,s107,q108,s106))):Option ((Int×Int×Bool×Int×Int×Sl ae×Sl aZ×Mp Int (Sl ai)×Mp Int Int×Sl aB×Mp Int Int×Sl Int)⊕(Int×Int×Int×Bool×Int×Int×Sl ae×Mp Int (Sl ai)×Mp Int Int×Sl aB×Mp Int Int×Sl Int))).bind fun
 |.inl (i123,i124,b125,i126,i127,s128,s129,m130,m131,s132,m133,s134)=>((fV i123 i124 b125 i126 i127 s128 m130 m131 s134 s132 m133 rd_1).bind fun(q135,q136,q137,q138,q139,q140,q141,q142,s143,s144,q145)=>
 some (s129,0,q135,q136,q137,q138,q139,q140,q141,q142,s143,s144,(gW q145 rd_1 q139)))
 |.inr (i146,i147,i148,b149,i150,i151,s152,m153,m154,s155,m156,s157)=>(some (Sl.nil,i146,i147,i148,b149,i150,i151,s152,m153,m154,s157,s155,m156)))
def T5:fJ:=⟨[(true,.pb y8 (.st (.pr (.x (.i .i64)) (.pr (.x (.i .i64)) (.pr (.x .b) (.pr (.x (.i .i64)) (.pr (.x (.i .i64)) (.pr (.x (.sl y0)) (.pr (.mp (.i .i64) (.sl y3)) (.pr (.mp (.i .i64) (.i .i64)) (.pr (.pb y7 (.st (.pr (.os (.i .i64)) .ni))) (.pr (.os y9) (.pr (.mp (.i .i64) (.i .i64)) .ni))))))))))))),(false,.x (.i .i64))],[([.x (.sl y5),.x (.i .i64)],[.pb y8 (.st (.pr (.x (.i .i64)) (.pr (.x (.i .i64)) (.pr (.x .b) (.pr (.x (.i .i64)) (.pr (.x (.i .i64)) (.pr (.x (.sl y0)) (.pr (.mp (.i .i64) (.sl y3)) (.pr (.mp (.i .i64) (.i .i64)) (.pr (.pb y7 (.st (.pr (.os (.i .i64)) .ni))) (.pr (.os y9) (.pr (.mp (.i .i64) (.i .i64)) .ni))))))))))))])],false,[true,false],fun p=>match p with|(a_0_sw,a_0_room,a_0_up,a_0_life,a_0_u,a_0_table,a_0_staged,a_0_armed,a_0_wait_l,a_0_done,a_0_dead,rd_1)=>l_ a_0_sw a_0_room a_0_up a_0_life a_0_u a_0_table a_0_staged a_0_armed a_0_wait_l a_0_done a_0_dead rd_1⟩
theorem Vc:bf prog 82 T5:=aV mixed bn (bz:=bz) (np:=2) (an:=[(8,{j:=some {vs:=[(0,.op 0 y8 []),(6,.so 1)],gs:=(.co (.op 0 y8 []) .ni),os:=[.bx y8 (.rc (.co (.x (.i .i64)) (.co (.x (.i .i64)) (.co (.x .b) (.co (.x (.i .i64)) (.co (.x (.i .i64)) (.co (.x (.sl y0)) (.co (.om 2) (.co (.om 3) (.co (.op 4 y7 []) (.co (.so 5) (.co (.om 6) .ni)))))))))))),.ar y5,.mp (.i .i64) (.sl y3),.mp (.i .i64) (.i .i64),.bx y7 (.rc (.co (.so 7) .ni)),.ar y9,.mp (.i .i64) (.i .i64),.ar (.i .i64)],kl:=[0,7,8,9,10,11,12]},e:=[(.exit 0,{vs:=[(0,.op 0 y8 []),(6,.so 1)],gs:=(.co (.op 0 y8 []) .ni),os:=[.bx y8 (.rc (.co (.x (.i .i64)) (.co (.x (.i .i64)) (.co (.x .b) (.co (.x (.i .i64)) (.co (.x (.i .i64)) (.co (.x (.sl y0)) (.co (.om 2) (.co (.om 3) (.co (.op 4 y7 []) (.co (.so 5) (.co (.om 6) .ni)))))))))))),.ar y5,.mp (.i .i64) (.sl y3),.mp (.i .i64) (.i .i64),.bx y7 (.rc (.co (.so 7) .ni)),.ar y9,.mp (.i .i64) (.i .i64),.ar (.i .i64)],kl:=[0,7,8,9,10,11,12]})]}),(18,{j:=some {vs:=[(0,.op 0 y8 []),(23,.x (.i .i64))],gs:=(.co (.op 0 y8 []) .ni),os:=[.bx y8 (.rc (.co (.x (.i .i64)) (.co (.x (.i .i64)) (.co (.x .b) (.co (.x (.i .i64)) (.co (.x (.i .i64)) (.co (.x (.sl y0)) (.co (.om 1) (.co (.om 2) (.co (.op 3 y7 []) (.co (.so 4) (.co (.om 5) .ni)))))))))))),.mp (.i .i64) (.sl y3),.mp (.i .i64) (.i .i64),.bx y7 (.rc (.co (.so 6) .ni)),.ar y9,.mp (.i .i64) (.i .i64),.ar (.i .i64)],kl:=[13,27,28,29,30,31,32]},e:=[(.exit 2,{gs:=(.co (.op 0 y8 []) .ni),os:=[.bx y8 (.rc (.co (.x (.i .i64)) (.co (.x (.i .i64)) (.co (.x .b) (.co (.x (.i .i64)) (.co (.x (.i .i64)) (.co (.x (.sl y0)) (.co (.om 1) (.co (.om 2) (.co (.op 3 y7 []) (.co (.so 4) (.co (.om 5) .ni)))))))))))),.mp (.i .i64) (.sl y3),.mp (.i .i64) (.i .i64),.bx y7 (.rc (.co (.so 6) .ni)),.ar y9,.mp (.i .i64) (.i .i64),.ar (.i .i64)],kl:=[13,27,28,29,30,31,32]})]}),(29,{e:=[(.normal,{vs:=[(0,.op 0 y8 []),(6,.so 1)],gs:=(.co (.op 0 y8 []) .ni),os:=[.bx y8 (.rc (.co (.x (.i .i64)) (.co (.x (.i .i64)) (.co (.x .b) (.co (.x (.i .i64)) (.co (.x (.i .i64)) (.co (.x (.sl y0)) (.co (.om 2) (.co (.om 3) (.co (.op 4 y7 []) (.co (.so 5) (.co (.om 6) .ni)))))))))))),.ar y5,.mp (.i .i64) (.sl y3),.mp (.i .i64) (.i .i64),.bx y7 (.rc (.co (.so 7) .ni)),.ar y9,.mp (.i .i64) (.i .i64),.ar (.i .i64)],kl:=[0,7,8,9,10,11,12]}),(.ret,{vs:=[(4,.nl 0),(5,.x (.i .i64))],gs:=(.co (.op 0 y8 []) .ni),os:=[.bx y8 (.rc (.co (.x (.i .i64)) (.co (.x (.i .i64)) (.co (.x .b) (.co (.x (.i .i64)) (.co (.x (.i .i64)) (.co (.x (.sl y0)) (.co (.om 1) (.co (.om 2) (.co (.op 3 y7 []) (.co (.so 4) (.co (.om 5) .ni)))))))))))),.mp (.i .i64) (.sl y3),.mp (.i .i64) (.i .i64),.bx y7 (.rc (.co (.so 6) .ni)),.ar y9,.mp (.i .i64) (.i .i64),.ar (.i .i64)],kl:=[0,7,8,9,10,11,12]})]})]) (.cons Vd (.cons Rp (.cons Li (.cons Uo .nil)))) (by kernel_rfl) (by kernel_rfl)
def jM(bits_1:Int):(Int×Int×Int×Bool×Int×Int×Sl ae×Mp Int (Sl ai)×Mp Int Int×Sl aB×Mp Int Int×Sl Int)->Option ((Int×Int×Int×Bool×Int×Int×Sl ae×Mp Int (Sl ai)×Mp Int Int×Sl aB×Mp Int Int×Sl Int)⊕((Int×Int×Int×Bool×Int×Int×Sl ae×Mp Int (Sl ai)×Mp Int Int×Sl aB×Mp Int Int×Sl Int)⊕(Int×Int×Bool×Int×Int×Sl ae×Mp Int (Sl ai)×Mp Int Int×Sl aB×Mp Int Int×Sl Int))):=fun(i14,i15,i16,b17,i18,i19,s20,m21,m22,s23,m24,s25)=>
 bif decide (i14<8)then(((Ix .i64 bits_1 i14).bind fun i26=>
 bif((oe .i64 i26 1)==1)then((kA i15 i16 b17 i18 i19 s20 m21 m22 s25 s23 m24 i14).bind fun(r27,q28,q29,q30,q31,q32,q33,q34,q35,s36,s37,q38)=>
 some ((!r27),q28,q29,q30,q31,q32,q33,q34,q35,s37,q38,s36))else
 (some (false,i15,i16,b17,i18,i19,s20,m21,m22,s23,m24,s25)):Option (Bool×Int×Int×Bool×Int×Int×Sl ae×Mp Int (Sl ai)×Mp Int Int×Sl aB×Mp Int Int×Sl Int)).bind fun(b39,i40,i41,b42,i43,i44,s45,m46,m47,s48,m49,s50)=>
 bif b39 then(some (.inr (.inl (7,i40,i41,b42,i43,i44,s45,m46,m47,s48,m49,s50))))else
 (some (.inl (wr .i64 (i14+1),i40,i41,b42,i43,i44,s45,m46,m47,s48,m49,s50))))else
 (some (.inr (.inr (i15,i16,b17,i18,i19,s20,m21,m22,s23,m24,s25))))
def jN(a_0_sw:Int)(a_0_room:Int)(a_0_up:Bool)(a_0_life:Int)(a_0_u:Int)(a_0_table:Sl ae)(a_0_staged:Mp Int (Sl ai))(a_0_armed:Mp Int Int)(a_0_wait_l:Sl Int)(a_0_done:Sl aB)(a_0_dead:Mp Int Int)(bits_1:Int):Option (Int×Int×Int×Bool×Int×Int×Sl ae×Mp Int (Sl ai)×Mp Int Int×Sl Int×Sl aB×Mp Int Int):=
 (bw (jM bits_1) (0,a_0_sw,a_0_room,a_0_up,a_0_life,a_0_u,a_0_table,a_0_staged,a_0_armed,a_0_done,a_0_dead,a_0_wait_l)).bind fun
 |.inl (i51,i52,i53,b54,i55,i56,s57,m58,m59,s60,m61,s62)=>(some (i51,i52,i53,b54,i55,i56,s57,m58,m59,s62,s60,m61))
 |.inr (i63,i64,b65,i66,i67,s68,m69,m70,s71,m72,s73)=>(some (0,i63,i64,b65,i66,i67,s68,m69,m70,s73,s71,m72))
def T4:fJ:=⟨[(true,.pb y8 (.st (.pr (.x (.i .i64)) (.pr (.x (.i .i64)) (.pr (.x .b) (.pr (.x (.i .i64)) (.pr (.x (.i .i64)) (.pr (.x (.sl y0)) (.pr (.mp (.i .i64) (.sl y3)) (.pr (.mp (.i .i64) (.i .i64)) (.pr (.pb y7 (.st (.pr (.os (.i .i64)) .ni))) (.pr (.os y9) (.pr (.mp (.i .i64) (.i .i64)) .ni))))))))))))),(false,.x (.i .i64))],[([.x (.i .i64)],[.pb y8 (.st (.pr (.x (.i .i64)) (.pr (.x (.i .i64)) (.pr (.x .b) (.pr (.x (.i .i64)) (.pr (.x (.i .i64)) (.pr (.x (.sl y0)) (.pr (.mp (.i .i64) (.sl y3)) (.pr (.mp (.i .i64) (.i .i64)) (.pr (.pb y7 (.st (.pr (.os (.i .i64)) .ni))) (.pr (.os y9) (.pr (.mp (.i .i64) (.i .i64)) .ni))))))))))))])],false,[true,false],fun p=>match p with|(a_0_sw,a_0_room,a_0_up,a_0_life,a_0_u,a_0_table,a_0_staged,a_0_armed,a_0_wait_l,a_0_done,a_0_dead,bits_1)=>jN a_0_sw a_0_room a_0_up a_0_life a_0_u a_0_table a_0_staged a_0_armed a_0_wait_l a_0_done a_0_dead bits_1⟩
theorem Vb:bf prog 83 T4:=aV mixed bn (bz:=bz) (np:=2) (an:=[(5,{j:=some {vs:=[(0,.op 0 y8 []),(6,.x (.i .i64))],gs:=(.co (.op 0 y8 []) .ni),os:=[.bx y8 (.rc (.co (.x (.i .i64)) (.co (.x (.i .i64)) (.co (.x .b) (.co (.x (.i .i64)) (.co (.x (.i .i64)) (.co (.x (.sl y0)) (.co (.om 1) (.co (.om 2) (.co (.op 3 y7 []) (.co (.so 4) (.co (.om 5) .ni)))))))))))),.mp (.i .i64) (.sl y3),.mp (.i .i64) (.i .i64),.bx y7 (.rc (.co (.so 6) .ni)),.ar y9,.mp (.i .i64) (.i .i64),.ar (.i .i64)],kl:=[0,7,8,9,10,11,12]},e:=[(.ret,{vs:=[(4,.x (.i .i64))],gs:=(.co (.op 0 y8 []) .ni),os:=[.bx y8 (.rc (.co (.x (.i .i64)) (.co (.x (.i .i64)) (.co (.x .b) (.co (.x (.i .i64)) (.co (.x (.i .i64)) (.co (.x (.sl y0)) (.co (.om 1) (.co (.om 2) (.co (.op 3 y7 []) (.co (.so 4) (.co (.om 5) .ni)))))))))))),.mp (.i .i64) (.sl y3),.mp (.i .i64) (.i .i64),.bx y7 (.rc (.co (.so 6) .ni)),.ar y9,.mp (.i .i64) (.i .i64),.ar (.i .i64)],kl:=[0,7,8,9,10,11,12]}),(.exit 0,{gs:=(.co (.op 0 y8 []) .ni),os:=[.bx y8 (.rc (.co (.x (.i .i64)) (.co (.x (.i .i64)) (.co (.x .b) (.co (.x (.i .i64)) (.co (.x (.i .i64)) (.co (.x (.sl y0)) (.co (.om 1) (.co (.om 2) (.co (.op 3 y7 []) (.co (.so 4) (.co (.om 5) .ni)))))))))))),.mp (.i .i64) (.sl y3),.mp (.i .i64) (.i .i64),.bx y7 (.rc (.co (.so 6) .ni)),.ar y9,.mp (.i .i64) (.i .i64),.ar (.i .i64)],kl:=[0,7,8,9,10,11,12]})]}),(13,{j:=some {vs:=[(0,.op 0 y8 []),(19,.x .b)],gs:=(.co (.op 0 y8 []) .ni),os:=[.bx y8 (.rc (.co (.x (.i .i64)) (.co (.x (.i .i64)) (.co (.x .b) (.co (.x (.i .i64)) (.co (.x (.i .i64)) (.co (.x (.sl y0)) (.co (.om 1) (.co (.om 2) (.co (.op 3 y7 []) (.co (.so 4) (.co (.om 5) .ni)))))))))))),.mp (.i .i64) (.sl y3),.mp (.i .i64) (.i .i64),.bx y7 (.rc (.co (.so 6) .ni)),.ar y9,.mp (.i .i64) (.i .i64),.ar (.i .i64)],kl:=[13,14,15,16,17,18,19]}})]) (.cons Li .nil) (by kernel_rfl) (by kernel_rfl)
def ma(a_0_sw:Int)(a_0_room:Int)(a_0_up:Bool)(a_0_life:Int)(a_0_u:Int)(a_0_table:Sl ae)(a_0_staged:Mp Int (Sl ai))(a_0_armed:Mp Int Int)(a_0_wait_l:Sl Int)(a_0_done:Sl aB)(a_0_dead:Mp Int Int)(now_1:Int)(m_2:ad):Option (Sl aZ×Int×Int×Int×Bool×Int×Int×Sl ae×Mp Int (Sl ai)×Mp Int Int×Sl Int×Sl aB×Mp Int Int):=
 bif decide ((ad.U m_2)<a_0_u)then(some (Sl.nil,16,a_0_sw,a_0_room,a_0_up,a_0_life,a_0_u,a_0_table,a_0_staged,a_0_armed,a_0_wait_l,a_0_done,a_0_dead))else
 ((bif decide ((ad.U m_2)>a_0_u)then((fA a_0_sw a_0_room a_0_up a_0_life (ad.U m_2) a_0_table a_0_staged a_0_armed a_0_wait_l Sl.nil (Mp.none:Mp Int Int)).bind fun(q1,q2,q3,q4,q5,q6,q7,q8,s9,s10,q11)=>
 some (q1,q2,q3,q4,q5,q6,q7,q8,s10,q11,s9))else
 (some (a_0_sw,a_0_room,a_0_up,a_0_life,a_0_u,a_0_table,a_0_staged,a_0_armed,a_0_done,a_0_dead,a_0_wait_l)):Option (Int×Int×Bool×Int×Int×Sl ae×Mp Int (Sl ai)×Mp Int Int×Sl aB×Mp Int Int×Sl Int)).bind fun(i12,i13,b14,i15,i16,s17,m18,m19,s20,m21,s22)=>
 bif((ad.bh m_2)==3)then((lq i12 i13 b14 i15 i16 s17 m18 m19 s22 s20 m21 m_2).bind fun(r23,q24,q25,q26,q27,q28,q29,q30,q31,s32,s33,q34)=>
 some (Sl.nil,r23,q24,q25,q26,q27,q28,q29,q30,q31,s32,s33,q34))else
 (bif((ad.bh m_2)==4)then((mN i12 i13 b14 i15 i16 s17 m18 m19 s22 s20 m21 now_1 m_2).bind fun(r35,q36,q37,q38,q39,q40,q41,q42,q43,s44,s45,q46)=>
 some (Sl.nil,r35,q36,q37,q38,q39,q40,q41,q42,q43,s44,s45,q46))else
 (bif((ad.bh m_2)==5)then((l_ i12 i13 b14 i15 i16 s17 m18 m19 s22 s20 m21 (ad.Rd m_2)).bind fun(r47,r48,q49,q50,q51,q52,q53,q54,q55,q56,s57,s58,q59)=>
 some (r47,r48,q49,q50,q51,q52,q53,q54,q55,q56,s57,s58,q59))else
 ((jN i12 i13 b14 i15 i16 s17 m18 m19 s22 s20 m21 (ad.Code m_2)).bind fun(r60,q61,q62,q63,q64,q65,q66,q67,q68,s69,s70,q71)=>
 some (Sl.nil,r60,q61,q62,q63,q64,q65,q66,q67,q68,s69,s70,q71)))))
def T3:fJ:=⟨[(true,.pb y8 (.st (.pr (.x (.i .i64)) (.pr (.x (.i .i64)) (.pr (.x .b) (.pr (.x (.i .i64)) (.pr (.x (.i .i64)) (.pr (.x (.sl y0)) (.pr (.mp (.i .i64) (.sl y3)) (.pr (.mp (.i .i64) (.i .i64)) (.pr (.pb y7 (.st (.pr (.os (.i .i64)) .ni))) (.pr (.os y9) (.pr (.mp (.i .i64) (.i .i64)) .ni))))))))))))),(false,.x (.i .i64)),(false,.x y4)],[([.x (.sl y5),.x (.i .i64)],[.pb y8 (.st (.pr (.x (.i .i64)) (.pr (.x (.i .i64)) (.pr (.x .b) (.pr (.x (.i .i64)) (.pr (.x (.i .i64)) (.pr (.x (.sl y0)) (.pr (.mp (.i .i64) (.sl y3)) (.pr (.mp (.i .i64) (.i .i64)) (.pr (.pb y7 (.st (.pr (.os (.i .i64)) .ni))) (.pr (.os y9) (.pr (.mp (.i .i64) (.i .i64)) .ni))))))))))))])],false,[true,false,false],fun p=>match p with|(a_0_sw,a_0_room,a_0_up,a_0_life,a_0_u,a_0_table,a_0_staged,a_0_armed,a_0_wait_l,a_0_done,a_0_dead,now_1,m_2)=>ma a_0_sw a_0_room a_0_up a_0_life a_0_u a_0_table a_0_staged a_0_armed a_0_wait_l a_0_done a_0_dead now_1 m_2⟩
theorem Va:bf prog 46 T3:=aV mixed bn (bz:=bz) (np:=3) (an:=[(7,{e:=[(.normal,{vs:=[(0,.op 0 y8 [])],gs:=(.co (.op 0 y8 []) .ni),os:=[.bx y8 (.rc (.co (.x (.i .i64)) (.co (.x (.i .i64)) (.co (.x .b) (.co (.x (.i .i64)) (.co (.x (.i .i64)) (.co (.x (.sl y0)) (.co (.om 1) (.co (.om 2) (.co (.op 3 y7 []) (.co (.so 4) (.co (.om 5) .ni)))))))))))),.mp (.i .i64) (.sl y3),.mp (.i .i64) (.i .i64),.bx y7 (.rc (.co (.so 6) .ni)),.ar y9,.mp (.i .i64) (.i .i64),.ar (.i .i64)],kl:=[0,7,8,9,10,11,12]})]})]) (.cons Rp (.cons Vg (.cons Ve (.cons Vc (.cons Vb .nil))))) (by kernel_rfl) (by kernel_rfl)
def me(a_0_sw:Int)(a_0_room:Int)(a_0_up:Bool)(a_0_life:Int)(a_0_u:Int)(a_0_table:Sl ae)(a_0_staged:Mp Int (Sl ai))(a_0_armed:Mp Int Int)(a_0_wait_l:Sl Int)(a_0_done:Sl aB)(a_0_dead:Mp Int Int)(now_1:Int)(m_2:ad):Option (ad×Bool×Sl aZ×Int×Int×Bool×Int×Int×Sl ae×Mp Int (Sl ai)×Mp Int Int×Sl Int×Sl aB×Mp Int Int):=
 ((fL a_0_sw a_0_room a_0_up a_0_life a_0_u a_0_table a_0_staged a_0_armed a_0_wait_l a_0_done a_0_dead).bind fun(r1,q2,q3,q4,q5,q6,q7,q8,q9,s10,s11,q12)=>
 bif(!r1)then(some (true,q2,q3,q4,q5,q6,q7,q8,q9,s11,q12,s10))else
 ((jD m_2).bind fun r13=>
 some (((((!r13)||((ad.Sw m_2) !=q2))||((ad.bh m_2)==2))||(decide ((ad.bh m_2)>=7))),q2,q3,q4,q5,q6,q7,q8,q9,s11,q12,s10)):Option (Bool×Int×Int×Bool×Int×Int×Sl ae×Mp Int (Sl ai)×Mp Int Int×Sl aB×Mp Int Int×Sl Int)).bind fun(b14,i15,i16,b17,i18,i19,s20,m21,m22,s23,m24,s25)=>
 bif b14 then(some ((⟨0,0,0,0,0,0,0,0,0,Sl.nil⟩:ad),false,Sl.nil,i15,i16,b17,i18,i19,s20,m21,m22,s25,s23,m24))else
 ((fg i15 i16 b17 i18 i19 s20 m21 m22 s25 s23 m24 now_1).bind fun(s26,q27,q28,q29,q30,q31,q32,q33,q34,s35,s36,q37)=>
 bif((ad.bh m_2)==1)then(some ((⟨2,q27,0,0,ad.T1 m_2,now_1,q30,0,0,Sl.nil⟩:ad),true,s26,q27,q28,q29,q30,q31,q32,q33,q34,s35,s36,q37))else
 ((ma q27 q28 q29 q30 q31 q32 q33 q34 s35 s36 q37 now_1 m_2).bind fun(r38,r39,q40,q41,q42,q43,q44,q45,q46,q47,s48,s49,q50)=>
 (bif(r39 !=0)then(some (⟨8,q40,ad.U m_2,ad.Rd m_2,0,0,q43,ad.bh m_2,r39,Sl.nil⟩:ad))else
 (some (⟨7,q40,ad.U m_2,ad.Rd m_2,0,0,q43,ad.bh m_2,0,Sl.nil⟩:ad)):Option ad).bind fun x51=>
 (ld (s26.l++r38.l)).bind fun l52=>
 some (x51,true,(sP s26 r38.l l52),q40,q41,q42,q43,q44,q45,q46,q47,s48,s49,q50)))
def T0:fJ:=⟨[(true,.pb y8 (.st (.pr (.x (.i .i64)) (.pr (.x (.i .i64)) (.pr (.x .b) (.pr (.x (.i .i64)) (.pr (.x (.i .i64)) (.pr (.x (.sl y0)) (.pr (.mp (.i .i64) (.sl y3)) (.pr (.mp (.i .i64) (.i .i64)) (.pr (.pb y7 (.st (.pr (.os (.i .i64)) .ni))) (.pr (.os y9) (.pr (.mp (.i .i64) (.i .i64)) .ni))))))))))))),(false,.x (.i .i64)),(false,.x y4)],[([.x y4,.x .b,.x (.sl y5)],[.pb y8 (.st (.pr (.x (.i .i64)) (.pr (.x (.i .i64)) (.pr (.x .b) (.pr (.x (.i .i64)) (.pr (.x (.i .i64)) (.pr (.x (.sl y0)) (.pr (.mp (.i .i64) (.sl y3)) (.pr (.mp (.i .i64) (.i .i64)) (.pr (.pb y7 (.st (.pr (.os (.i .i64)) .ni))) (.pr (.os y9) (.pr (.mp (.i .i64) (.i .i64)) .ni))))))))))))])],false,[true,false,false],fun p=>match p with|(a_0_sw,a_0_room,a_0_up,a_0_life,a_0_u,a_0_table,a_0_staged,a_0_armed,a_0_wait_l,a_0_done,a_0_dead,now_1,m_2)=>me a_0_sw a_0_room a_0_up a_0_life a_0_u a_0_table a_0_staged a_0_armed a_0_wait_l a_0_done a_0_dead now_1 m_2⟩
theorem U_:bf prog 23 T0:=aV mixed bn (bz:=bz) (np:=3) (an:=[(4,{j:=some {vs:=[(0,.op 0 y8 []),(39,.x .b)],gs:=(.co (.op 0 y8 []) .ni),os:=[.bx y8 (.rc (.co (.x (.i .i64)) (.co (.x (.i .i64)) (.co (.x .b) (.co (.x (.i .i64)) (.co (.x (.i .i64)) (.co (.x (.sl y0)) (.co (.om 1) (.co (.om 2) (.co (.op 3 y7 []) (.co (.so 4) (.co (.om 5) .ni)))))))))))),.mp (.i .i64) (.sl y3),.mp (.i .i64) (.i .i64),.bx y7 (.rc (.co (.so 6) .ni)),.ar y9,.mp (.i .i64) (.i .i64),.ar (.i .i64)],kl:=[0,7,8,9,10,11,12]}}),(18,{e:=[(.normal,{vs:=[(12,.op 0 y4 [])],os:=[.bx y4 (.x y4)],kl:=[15000049]})]})]) (.cons OD (.cons Yk (.cons Oz (.cons Va .nil)))) (by kernel_rfl) (by kernel_rfl)
def mC(m_0:aj)(p_2:Arr 4 Int):Int->Option (Int⊕(Bool⊕Unit)):=fun i2=>
 bif decide (i2<4)then((eX i2 4).bind fun n3=>
 (eX i2 4).bind fun n4=>
 (eX i2 4).bind fun n5=>
 bif((oe .i64 (CI .i64 (gt p_2.1 n4) (gt ((aj.vH m_0).1) n5)) (gt ((aj.nT m_0).1) n3)) !=0)then(some (.inr (.inl false)))else
 (some (.inl (wr .i64 (i2+1)))))else
 (some (.inr (.inr ())))
def oB(m_0:aj)(port_1:Int)(p_2:Arr 4 Int):Option Bool:=
 bif(((aj.dk m_0) !=(-1))&&((aj.dk m_0) !=port_1))then(some false)else
 ((bw (mC m_0 p_2) 0).bind fun
 |.inl b6=>(some b6)
 |.inr _=>(some true))
def TZ:fJ:=⟨[(false,.x y1),(false,.x (.i .i64)),(false,.x (.ar 4 (.i .i64)))],[([.x .b],[])],true,[],fun p=>match p with|(m_0,port_1,p_2)=>oB m_0 port_1 p_2⟩
theorem U9:bf prog 118 TZ:=aV mixed bn (bz:=bz) (np:=3) (an:=[(10,{j:=some {vs:=[(20,.x (.i .i64))]},e:=[(.ret,{vs:=[(6,.x .b)]}),(.exit 0,{})]})]) .nil (by kernel_rfl) (by kernel_rfl)
def py(x_0:ae)(c_1:Int)(c_2:Arr 4 Int):Option Bool:=
 (oB (ae.M x_0) c_1 c_2).bind fun r1=>
 some r1
def TY:fJ:=⟨[(false,.x y0),(false,.pt (.i .i64)),(false,.pt (.ar 4 (.i .i64)))],[([.x .b],[])],true,[],fun p=>match p with|(x_0,c_1,c_2)=>py x_0 c_1 c_2⟩
theorem U8:bf prog 117 TY:=aV mixed bn (bz:=bz) (np:=3) (an:=[]) (.cons U9 .nil) (by kernel_rfl) (by kernel_rfl)
def cK(s_0:Sl ae)(f_1_c0:Int)(f_1_c1:Arr 4 Int):Int->Option (Int⊕(Int⊕Unit)):=fun i2=>
 bif decide (i2<(s_0.l.length:Int))then((eX i2 s_0.l.length).bind fun n3=>
 (py (gt s_0.l n3) f_1_c0 f_1_c1).bind fun r4=>
 bif r4 then(some (.inr (.inl i2)))else
 (some (.inl (wr .i64 (i2+1)))))else
 (some (.inr (.inr ())))
def cX(s_0:Sl ae)(f_1_c0:Int)(f_1_c1:Arr 4 Int):Option Int:=
 (bw (cK s_0 f_1_c0 f_1_c1) 0).bind fun
 |.inl i5=>(some i5)
 |.inr _=>(some (-1))
def TX:fJ:=⟨[(false,.x (.sl y0)),(false,.fn 117 (.pr (.pt (.i .i64)) (.pr (.pt (.ar 4 (.i .i64))) .ni)))],[([.x (.i .i64)],[])],true,[],fun p=>match p with|(s_0,f_1_c0,f_1_c1)=>cX s_0 f_1_c0 f_1_c1⟩
theorem U7:bf prog 67 TX:=aV mixed bn (bz:=bz) (np:=2) (an:=[(5,{j:=some {vs:=[(8,.x (.i .i64))]},e:=[(.ret,{vs:=[(4,.x (.i .i64))]}),(.exit 0,{})]})]) (.cons U8 .nil) (by kernel_rfl) (by kernel_rfl)
def vg(t_0:Sl ae)(port_1:Int)(p_2:Arr 4 Int):Option Int:=
 (cX t_0 port_1 p_2).bind fun r1=>
 some r1
def TW:fJ:=⟨[(false,.x (.sl y0)),(false,.x (.i .i64)),(false,.x (.ar 4 (.i .i64)))],[([.x (.i .i64)],[])],true,[],fun p=>match p with|(t_0,port_1,p_2)=>vg t_0 port_1 p_2⟩
theorem U6:bf prog 86 TW:=aV mixed bn (bz:=bz) (np:=3) (an:=[]) (.cons U7 .nil) (by kernel_rfl) (by kernel_rfl)
def wT(f_0:Int):Option Bool:=some ((decide (f_0>=0))&&(decide (f_0<4)))
def TU:fJ:=⟨[(false,.x (.i .i64))],[([.x .b],[])],true,[],fun p=>match p with|f_0=>wT f_0⟩
theorem U5:bf prog 151 TU:=aV mixed bn (bz:=bz) (np:=1) (an:=[]) .nil (by kernel_rfl) (by kernel_rfl)
def qG(p_0:Arr 4 Int)(f_1:Int)(v_2:Int):Option (Arr 4 Int):=
 (((wT f_1).bind fun r1=>
 bif(r1&&(decide (v_2>=0)))then((pU f_1).bind fun r2=>
 some (decide (v_2<=r2)))else
 (some false):Option Bool).bind fun b3=>
 bif b3 then((eX f_1 4).bind fun n4=>
 some (Arr.set p_0 n4 v_2))else
 (some p_0):Option (Arr 4 Int)).bind fun v5=>
 some v5
def TT:fJ:=⟨[(false,.x (.ar 4 (.i .i64))),(false,.x (.i .i64)),(false,.x (.i .i64))],[([.x (.ar 4 (.i .i64))],[])],true,[],fun p=>match p with|(p_0,f_1,v_2)=>qG p_0 f_1 v_2⟩
theorem U4:bf prog 119 TT:=aV mixed bn (bz:=bz) (np:=3) (an:=[(2,{e:=[(.normal,{vs:=[(3,.op 0 (.ar 4 (.i .i64)) [])],os:=[.bx (.ar 4 (.i .i64)) (.x (.ar 4 (.i .i64)))],kl:=[0]})]}),(4,{j:=some {vs:=[(18,.x .b)]}})]) (.cons U5 (.cons Rs .nil)) (by kernel_rfl) (by kernel_rfl)
def qi(l_0:Sl aT)(p_1:Arr 4 Int):(Int×Arr 4 Int×Sl jK)->Option ((Int×Arr 4 Int×Sl jK)⊕(Sl jK)):=fun(i5,v6,s7)=>
 bif decide (i5<(l_0.l.length:Int))then(((eX i5 l_0.l.length).bind fun n8=>
 bif((aT.bh (gt l_0.l n8))==3)then(some (p_1,s7))else
 (bif((aT.bh (gt l_0.l n8))==1)then((qG v6 (aT.F (gt l_0.l n8)) (aT.V (gt l_0.l n8))).bind fun r9=>
 some (r9,s7))else
 (bif((aT.bh (gt l_0.l n8))==2)then((ld (s7.l++[(⟨aT.V (gt l_0.l n8),v6⟩:jK)])).bind fun l10=>
 some (v6,(Sl.mk l10)))else
 (some (v6,s7)))):Option (Arr 4 Int×Sl jK)).bind fun(v11,s12)=>
 some (.inl (wr .i64 (i5+1),v11,s12)))else
 (some (.inr s7))
def yv(l_0:Sl aT)(p_1:Arr 4 Int):Option (Sl jK):=
 (bw (qi l_0 p_1) (0,p_1,Sl.nil)).bind fun s13=>
 some s13
def TS:fJ:=⟨[(false,.x (.sl y2)),(false,.x (.ar 4 (.i .i64)))],[([.x (.sl y6)],[])],false,[],fun p=>match p with|(l_0,p_1)=>yv l_0 p_1⟩
theorem U2:bf prog 87 TS:=aV mixed bn (bz:=bz) (np:=2) (an:=[(9,{j:=some {vs:=[(3,.op 0 (.ar 4 (.i .i64)) []),(5,.so 1),(12,.x (.i .i64))],os:=[.bx (.ar 4 (.i .i64)) (.x (.ar 4 (.i .i64))),.ar y6],kl:=[0]},e:=[(.exit 0,{vs:=[(5,.so 0)],os:=[.ar y6],kl:=[0]})]}),(13,{e:=[(.normal,{vs:=[(3,.op 0 (.ar 4 (.i .i64)) []),(5,.so 1)],os:=[.bx (.ar 4 (.i .i64)) (.x (.ar 4 (.i .i64))),.ar y6],kl:=[2,3]})]})]) (.cons U4 .nil) (by kernel_rfl) (by kernel_rfl)
def uk(t_0:Sl ae)(port_1:Int)(p_2:Arr 4 Int):Option (Sl jK):=
 (vg t_0 port_1 p_2).bind fun r1=>
 bif decide (r1<0)then(some Sl.nil)else
 ((eX r1 t_0.l.length).bind fun n2=>
 (yv (ae.iK (gt t_0.l n2)) p_2).bind fun r3=>
 some r3)
def TR:fJ:=⟨[(false,.x (.sl y0)),(false,.x (.i .i64)),(false,.x (.ar 4 (.i .i64)))],[([.x (.sl y6)],[])],false,[],fun p=>match p with|(t_0,port_1,p_2)=>uk t_0 port_1 p_2⟩
theorem U1:bf prog 49 TR:=aV mixed bn (bz:=bz) (np:=3) (an:=[]) (.cons U6 (.cons U2 .nil)) (by kernel_rfl) (by kernel_rfl)
def mb(a_0_sw:Int)(a_0_room:Int)(a_0_up:Bool)(a_0_life:Int)(a_0_u:Int)(a_0_table:Sl ae)(a_0_staged:Mp Int (Sl ai))(a_0_armed:Mp Int Int)(a_0_wait_l:Sl Int)(a_0_done:Sl aB)(a_0_dead:Mp Int Int)(now_1:Int)(port_2:Int)(p_3:Arr 4 Int):Option (Sl jK×Sl aZ×Int×Int×Bool×Int×Int×Sl ae×Mp Int (Sl ai)×Mp Int Int×Sl Int×Sl aB×Mp Int Int):=
 (fL a_0_sw a_0_room a_0_up a_0_life a_0_u a_0_table a_0_staged a_0_armed a_0_wait_l a_0_done a_0_dead).bind fun(r1,q2,q3,q4,q5,q6,q7,q8,q9,s10,s11,q12)=>
 bif(!r1)then(some (Sl.nil,Sl.nil,q2,q3,q4,q5,q6,q7,q8,q9,s10,s11,q12))else
 ((fg q2 q3 q4 q5 q6 q7 q8 q9 s10 s11 q12 now_1).bind fun(s13,q14,q15,q16,q17,q18,q19,q20,q21,s22,s23,q24)=>
 (uk q19 port_2 p_3).bind fun r25=>
 some (r25,s13,q14,q15,q16,q17,q18,q19,q20,q21,s22,s23,q24))
def TQ:fJ:=⟨[(true,.pb y8 (.st (.pr (.x (.i .i64)) (.pr (.x (.i .i64)) (.pr (.x .b) (.pr (.x (.i .i64)) (.pr (.x (.i .i64)) (.pr (.x (.sl y0)) (.pr (.mp (.i .i64) (.sl y3)) (.pr (.mp (.i .i64) (.i .i64)) (.pr (.pb y7 (.st (.pr (.os (.i .i64)) .ni))) (.pr (.os y9) (.pr (.mp (.i .i64) (.i .i64)) .ni))))))))))))),(false,.x (.i .i64)),(false,.x (.i .i64)),(false,.x (.ar 4 (.i .i64)))],[([.x (.sl y6),.x (.sl y5)],[.pb y8 (.st (.pr (.x (.i .i64)) (.pr (.x (.i .i64)) (.pr (.x .b) (.pr (.x (.i .i64)) (.pr (.x (.i .i64)) (.pr (.x (.sl y0)) (.pr (.mp (.i .i64) (.sl y3)) (.pr (.mp (.i .i64) (.i .i64)) (.pr (.pb y7 (.st (.pr (.os (.i .i64)) .ni))) (.pr (.os y9) (.pr (.mp (.i .i64) (.i .i64)) .ni))))))))))))])],false,[true,false,false,false],fun p=>match p with|(a_0_sw,a_0_room,a_0_up,a_0_life,a_0_u,a_0_table,a_0_staged,a_0_armed,a_0_wait_l,a_0_done,a_0_dead,now_1,port_2,p_3)=>mb a_0_sw a_0_room a_0_up a_0_life a_0_u a_0_table a_0_staged a_0_armed a_0_wait_l a_0_done a_0_dead now_1 port_2 p_3⟩
theorem U0:bf prog 29 TQ:=aV mixed bn (bz:=bz) (np:=4) (an:=[]) (.cons OD (.cons Oz (.cons U1 .nil))) (by kernel_rfl) (by kernel_rfl)
def lu(a_0_sw:Int)(a_0_room:Int)(a_0_up:Bool)(a_0_life:Int)(a_0_u:Int)(a_0_table:Sl ae)(a_0_staged:Mp Int (Sl ai))(a_0_armed:Mp Int Int)(a_0_wait_l:Sl Int)(a_0_done:Sl aB)(a_0_dead:Mp Int Int):Option (Int×Int×Bool×Int×Int×Sl ae×Mp Int (Sl ai)×Mp Int Int×Sl Int×Sl aB×Mp Int Int):=
 (fL a_0_sw a_0_room a_0_up a_0_life a_0_u a_0_table a_0_staged a_0_armed a_0_wait_l a_0_done a_0_dead).bind fun(r1,q2,q3,q4,q5,q6,q7,q8,q9,s10,s11,q12)=>
 bif(!r1)then(some (q2,q3,q4,q5,q6,q7,q8,q9,s10,s11,q12))else
 ((fA q2 q3 false (if 65535<(wr .i64 (q5+1))then 65535 else(wr .i64 (q5+1))) q6 q7 q8 q9 s10 s11 q12).bind fun(q13,q14,q15,q16,q17,q18,q19,q20,s21,s22,q23)=>
 some (q13,q14,q15,q16,q17,q18,q19,q20,s21,s22,q23))
def TP:fJ:=⟨[(true,.pb y8 (.st (.pr (.x (.i .i64)) (.pr (.x (.i .i64)) (.pr (.x .b) (.pr (.x (.i .i64)) (.pr (.x (.i .i64)) (.pr (.x (.sl y0)) (.pr (.mp (.i .i64) (.sl y3)) (.pr (.mp (.i .i64) (.i .i64)) (.pr (.pb y7 (.st (.pr (.os (.i .i64)) .ni))) (.pr (.os y9) (.pr (.mp (.i .i64) (.i .i64)) .ni)))))))))))))],[([],[.pb y8 (.st (.pr (.x (.i .i64)) (.pr (.x (.i .i64)) (.pr (.x .b) (.pr (.x (.i .i64)) (.pr (.x (.i .i64)) (.pr (.x (.sl y0)) (.pr (.mp (.i .i64) (.sl y3)) (.pr (.mp (.i .i64) (.i .i64)) (.pr (.pb y7 (.st (.pr (.os (.i .i64)) .ni))) (.pr (.os y9) (.pr (.mp (.i .i64) (.i .i64)) .ni))))))))))))])],false,[true],fun p=>match p with|(a_0_sw,a_0_room,a_0_up,a_0_life,a_0_u,a_0_table,a_0_staged,a_0_armed,a_0_wait_l,a_0_done,a_0_dead)=>lu a_0_sw a_0_room a_0_up a_0_life a_0_u a_0_table a_0_staged a_0_armed a_0_wait_l a_0_done a_0_dead⟩
theorem UZ:bf prog 27 TP:=aV mixed bn (bz:=bz) (np:=1) (an:=[]) (.cons OD (.cons Rp .nil)) (by kernel_rfl) (by kernel_rfl)
def qV(a_0_sw:Int)(a_0_room:Int)(a_0_up:Bool)(a_0_life:Int)(a_0_u:Int)(a_0_table:Sl ae)(a_0_staged:Mp Int (Sl ai))(a_0_armed:Mp Int Int)(a_0_wait_l:Sl Int)(a_0_done:Sl aB)(a_0_dead:Mp Int Int):Option (Int×Int×Bool×Int×Int×Sl ae×Mp Int (Sl ai)×Mp Int Int×Sl Int×Sl aB×Mp Int Int):=some (a_0_sw,a_0_room,true,a_0_life,a_0_u,a_0_table,a_0_staged,a_0_armed,a_0_wait_l,a_0_done,a_0_dead)
def TO:fJ:=⟨[(true,.pb y8 (.st (.pr (.x (.i .i64)) (.pr (.x (.i .i64)) (.pr (.x .b) (.pr (.x (.i .i64)) (.pr (.x (.i .i64)) (.pr (.x (.sl y0)) (.pr (.mp (.i .i64) (.sl y3)) (.pr (.mp (.i .i64) (.i .i64)) (.pr (.pb y7 (.st (.pr (.os (.i .i64)) .ni))) (.pr (.os y9) (.pr (.mp (.i .i64) (.i .i64)) .ni)))))))))))))],[([],[.pb y8 (.st (.pr (.x (.i .i64)) (.pr (.x (.i .i64)) (.pr (.x .b) (.pr (.x (.i .i64)) (.pr (.x (.i .i64)) (.pr (.x (.sl y0)) (.pr (.mp (.i .i64) (.sl y3)) (.pr (.mp (.i .i64) (.i .i64)) (.pr (.pb y7 (.st (.pr (.os (.i .i64)) .ni))) (.pr (.os y9) (.pr (.mp (.i .i64) (.i .i64)) .ni))))))))))))])],false,[true],fun p=>match p with|(a_0_sw,a_0_room,a_0_up,a_0_life,a_0_u,a_0_table,a_0_staged,a_0_armed,a_0_wait_l,a_0_done,a_0_dead)=>qV a_0_sw a_0_room a_0_up a_0_life a_0_u a_0_table a_0_staged a_0_armed a_0_wait_l a_0_done a_0_dead⟩
theorem UY:bf prog 28 TO:=aV mixed bn (bz:=bz) (np:=1) (an:=[]) .nil (by kernel_rfl) (by kernel_rfl)
def sE(a_0_sw:Int)(a_0_room:Int)(a_0_up:Bool)(a_0_life:Int)(a_0_u:Int)(a_0_table:Sl ae)(a_0_staged:Mp Int (Sl ai))(a_0_armed:Mp Int Int)(a_0_wait_l:Sl Int)(a_0_done:Sl aB)(a_0_dead:Mp Int Int)(d_1:aE):Option (ad×Bool×Sl aZ×Int×Int×Bool×Int×Int×Sl ae×Mp Int (Sl ai)×Mp Int Int×Sl Int×Sl aB×Mp Int Int):=
 (bif((aE.bh d_1)==0)then(some ((aE.bh d_1)==0))else
 (bif((aE.bh d_1)==1)then(some ((aE.bh d_1)==1))else
 (bif((aE.bh d_1)==2)then(some ((aE.bh d_1)==2))else
 (bif((aE.bh d_1)==3)then(some ((aE.bh d_1)==3))else
 (bif((aE.bh d_1)==4)then(some ((aE.bh d_1)==4))else
 (some ((aE.bh d_1)==5)))))):Option Bool).bind fun b1=>
 bif b1 then((me a_0_sw a_0_room a_0_up a_0_life a_0_u a_0_table a_0_staged a_0_armed a_0_wait_l a_0_done a_0_dead (aE.Kc d_1) (aE.M d_1)).bind fun(r2,r3,r4,q5,q6,q7,q8,q9,q10,q11,q12,s13,s14,q15)=>
 some (r2,r3,r4,q5,q6,q7,q8,q9,q10,q11,q12,s13,s14,q15))else
 (bif((aE.bh d_1)==6)then((fg a_0_sw a_0_room a_0_up a_0_life a_0_u a_0_table a_0_staged a_0_armed a_0_wait_l a_0_done a_0_dead (aE.Kc d_1)).bind fun(s16,q17,q18,q19,q20,q21,q22,q23,q24,s25,s26,q27)=>
 some ((⟨0,0,0,0,0,0,0,0,0,Sl.nil⟩:ad),false,s16,q17,q18,q19,q20,q21,q22,q23,q24,s25,s26,q27))else
 (bif((aE.bh d_1)==7)then((mb a_0_sw a_0_room a_0_up a_0_life a_0_u a_0_table a_0_staged a_0_armed a_0_wait_l a_0_done a_0_dead (aE.Kc d_1) (aE.dk d_1) (aE.P d_1)).bind fun(r28,r29,q30,q31,q32,q33,q34,q35,q36,q37,s38,s39,q40)=>
 some ((⟨0,0,0,0,0,0,0,0,0,Sl.nil⟩:ad),false,r29,q30,q31,q32,q33,q34,q35,q36,q37,s38,s39,q40))else
 (bif((aE.bh d_1)==8)then((lu a_0_sw a_0_room a_0_up a_0_life a_0_u a_0_table a_0_staged a_0_armed a_0_wait_l a_0_done a_0_dead).bind fun(q41,q42,q43,q44,q45,q46,q47,q48,s49,s50,q51)=>
 some ((⟨0,0,0,0,0,0,0,0,0,Sl.nil⟩:ad),false,Sl.nil,q41,q42,q43,q44,q45,q46,q47,q48,s49,s50,q51))else
 (bif((aE.bh d_1)==9)then((qV a_0_sw a_0_room a_0_up a_0_life a_0_u a_0_table a_0_staged a_0_armed a_0_wait_l a_0_done a_0_dead).bind fun(q52,q53,q54,q55,q56,q57,q58,q59,s60,s61,q62)=>
 some ((⟨0,0,0,0,0,0,0,0,0,Sl.nil⟩:ad),false,Sl.nil,q52,q53,q54,q55,q56,q57,q58,q59,s60,s61,q62))else
 (some ((⟨0,0,0,0,0,0,0,0,0,Sl.nil⟩:ad),false,Sl.nil,a_0_sw,a_0_room,a_0_up,a_0_life,a_0_u,a_0_table,a_0_staged,a_0_armed,a_0_wait_l,a_0_done,a_0_dead))))))
def TN:fJ:=⟨[(true,.pb y8 (.st (.pr (.x (.i .i64)) (.pr (.x (.i .i64)) (.pr (.x .b) (.pr (.x (.i .i64)) (.pr (.x (.i .i64)) (.pr (.x (.sl y0)) (.pr (.mp (.i .i64) (.sl y3)) (.pr (.mp (.i .i64) (.i .i64)) (.pr (.pb y7 (.st (.pr (.os (.i .i64)) .ni))) (.pr (.os y9) (.pr (.mp (.i .i64) (.i .i64)) .ni))))))))))))),(false,.x Tc)],[([.x y4,.x .b,.x (.sl y5)],[.pb y8 (.st (.pr (.x (.i .i64)) (.pr (.x (.i .i64)) (.pr (.x .b) (.pr (.x (.i .i64)) (.pr (.x (.i .i64)) (.pr (.x (.sl y0)) (.pr (.mp (.i .i64) (.sl y3)) (.pr (.mp (.i .i64) (.i .i64)) (.pr (.pb y7 (.st (.pr (.os (.i .i64)) .ni))) (.pr (.os y9) (.pr (.mp (.i .i64) (.i .i64)) .ni))))))))))))])],false,[true,false],fun p=>match p with|(a_0_sw,a_0_room,a_0_up,a_0_life,a_0_u,a_0_table,a_0_staged,a_0_armed,a_0_wait_l,a_0_done,a_0_dead,d_1)=>sE a_0_sw a_0_room a_0_up a_0_life a_0_u a_0_table a_0_staged a_0_armed a_0_wait_l a_0_done a_0_dead d_1⟩
theorem UX:bf prog 15 TN:=aV mixed bn (bz:=bz) (np:=2) (an:=[(5,{e:=[(.normal,{vs:=[(11,.x .b)]})]})]) (.cons U_ (.cons Oz (.cons U0 (.cons UZ (.cons UY .nil))))) (by kernel_rfl) (by kernel_rfl)
def nI(l_0:Sl Int)(x_1:Int):Int->Option (Int⊕(Bool⊕Unit)):=fun i2=>
 bif decide (i2<(l_0.l.length:Int))then((eX i2 l_0.l.length).bind fun n3=>
 bif((gt l_0.l n3)==x_1)then(some (.inr (.inl true)))else
 (some (.inl (wr .i64 (i2+1)))))else
 (some (.inr (.inr ())))
def rK(l_0:Sl Int)(x_1:Int):Option Bool:=
 (bw (nI l_0 x_1) 0).bind fun
 |.inl b4=>(some b4)
 |.inr _=>(some false)
def TM:fJ:=⟨[(false,.x (.sl (.i .i64))),(false,.x (.i .i64))],[([.x .b],[])],true,[],fun p=>match p with|(l_0,x_1)=>rK l_0 x_1⟩
theorem UW:bf prog 16 TM:=aV mixed bn (bz:=bz) (np:=2) (an:=[(5,{j:=some {vs:=[(5,.x (.i .i64))]},e:=[(.ret,{vs:=[(4,.x .b)]}),(.exit 0,{})]})]) .nil (by kernel_rfl) (by kernel_rfl)
def rA(f_0:Int):Option Int:=
 bif(f_0==2)then(some 15)else
 (bif(((f_0==0)||(f_0==1))||(f_0==3))then(some 255)else
 (some 0))
def TL:fJ:=⟨[(false,.x (.i .i64))],[([.x (.i .i64)],[])],true,[],fun p=>match p with|f_0=>rA f_0⟩
theorem Qf:bf prog 132 TL:=aV mixed bn (bz:=bz) (np:=1) (an:=[]) .nil (by kernel_rfl) (by kernel_rfl)
def nE(i_1:Int):(Int×Int)->Option ((Int×Int)⊕Int):=fun(i3,i4)=>
 bif decide (i4<i_1)then(some (.inl (wr .i64 (i3.tdiv 2),wr .i64 (i4+1))))else
 (some (.inr i3))
def gQ(n_0:Int)(i_1:Int):Option Int:=
 (bw (nE i_1) (n_0,0)).bind fun i5=>
 some (i5.tmod 2)
def TK:fJ:=⟨[(false,.x (.i .i64)),(false,.x (.i .i64))],[([.x (.i .i64)],[])],true,[],fun p=>match p with|(n_0,i_1)=>gQ n_0 i_1⟩
theorem Lh:bf prog 133 TK:=aV mixed bn (bz:=bz) (np:=2) (an:=[(5,{j:=some {vs:=[(0,.x (.i .i64)),(5,.x (.i .i64))]},e:=[(.exit 0,{vs:=[(0,.x (.i .i64))]})]})]) .nil (by kernel_rfl) (by kernel_rfl)
def pR(m_0:aj)(i2:Int):Int->Option (Int⊕(Bool⊕Unit)):=fun i11=>
 bif decide (i11<8)then((eX i2 4).bind fun n12=>
 (gQ (gt ((aj.vH m_0).1) n12) i11).bind fun r13=>
 (eX i2 4).bind fun n14=>
 (gQ (gt ((aj.nT m_0).1) n14) i11).bind fun r15=>
 bif decide (r13>r15)then(some (.inr (.inl false)))else
 (some (.inl (wr .i64 (i11+1)))))else
 (some (.inr (.inr ())))
def pQ(m_0:aj):Int->Option (Int⊕(Bool⊕Unit)):=fun i2=>
 bif decide (i2<4)then(((eX i2 4).bind fun n3=>
 bif decide ((gt ((aj.nT m_0).1) n3)<0)then(some true)else
 ((eX i2 4).bind fun n4=>
 (rA i2).bind fun r5=>
 bif decide ((gt ((aj.nT m_0).1) n4)>r5)then(some true)else
 ((eX i2 4).bind fun n6=>
 bif decide ((gt ((aj.vH m_0).1) n6)<0)then(some true)else
 ((eX i2 4).bind fun n7=>
 (rA i2).bind fun r8=>
 some (decide ((gt ((aj.vH m_0).1) n7)>r8))))):Option Bool).bind fun b9=>
 bif b9 then(some (.inr (.inl false)))else
 ((bw (pR m_0 i2) 0).bind fun
 |.inl b16=>(some (.inr (.inl b16)))
 |.inr _=>(some (.inl (wr .i64 (i2+1))))))else
 (some (.inr (.inr ())))
def qF(m_0:aj):Option Bool:=
 bif((decide ((aj.dk m_0)<(-1)))||(decide ((aj.dk m_0)>7)))then(some false)else
 ((bw (pQ m_0) 0).bind fun
 |.inl b17=>(some b17)
 |.inr _=>(some true))
def TJ:fJ:=⟨[(false,.x y1)],[([.x .b],[])],true,[],fun p=>match p with|m_0=>qF m_0⟩
theorem UV:bf prog 94 TJ:=aV mixed bn (bz:=bz) (np:=1) (an:=[(10,{j:=some {vs:=[(3,.x (.i .i64))]},e:=[(.ret,{vs:=[(2,.x .b)]}),(.exit 0,{})]}),(17,{j:=some {vs:=[(46,.x .b)]}}),(22,{j:=some {vs:=[(4,.x (.i .i64))]},e:=[(.ret,{vs:=[(2,.x .b)]}),(.exit 2,{})]})]) (.cons Qf (.cons Lh .nil)) (by kernel_rfl) (by kernel_rfl)
def uw(a_0:aT)(ports_1:Int):Option Bool:=
 bif((aT.bh a_0)==1)then((bif(((decide ((aT.F a_0)>=0))&&(decide ((aT.F a_0)<=3)))&&(decide ((aT.V a_0)>=0)))then((rA (aT.F a_0)).bind fun r1=>
 some (decide ((aT.V a_0)<=r1)))else
 (some false):Option Bool).bind fun b2=>
 some b2)else
 (bif((aT.bh a_0)==3)then(some (((aT.F a_0)==0)&&((aT.V a_0)==0)))else
 (some (((((aT.bh a_0)==2)&&((aT.F a_0)==0))&&(decide ((aT.V a_0)>=0)))&&(decide ((aT.V a_0)<ports_1)))))
def TI:fJ:=⟨[(false,.x y2),(false,.x (.i .i64))],[([.x .b],[])],true,[],fun p=>match p with|(a_0,ports_1)=>uw a_0 ports_1⟩
theorem UU:bf prog 134 TI:=aV mixed bn (bz:=bz) (np:=2) (an:=[(6,{j:=some {vs:=[(4,.x .b)]}})]) (.cons Qf .nil) (by kernel_rfl) (by kernel_rfl)
def nD(l_0:Sl aT)(ports_1:Int):Int->Option (Int⊕(Bool⊕Unit)):=fun i2=>
 bif decide (i2<(l_0.l.length:Int))then((eX i2 l_0.l.length).bind fun n3=>
 (uw (gt l_0.l n3) ports_1).bind fun r4=>
 bif(!r4)then(some (.inr (.inl false)))else
 (some (.inl (wr .i64 (i2+1)))))else
 (some (.inr (.inr ())))
def qE(l_0:Sl aT)(ports_1:Int):Option Bool:=
 (bw (nD l_0 ports_1) 0).bind fun
 |.inl b5=>(some b5)
 |.inr _=>(some (decide ((l_0.l.length:Int)<=16)))
def TH:fJ:=⟨[(false,.x (.sl y2)),(false,.x (.i .i64))],[([.x .b],[])],true,[],fun p=>match p with|(l_0,ports_1)=>qE l_0 ports_1⟩
theorem UT:bf prog 95 TH:=aV mixed bn (bz:=bz) (np:=2) (an:=[(5,{j:=some {vs:=[(5,.x (.i .i64))]},e:=[(.ret,{vs:=[(4,.x .b)]}),(.exit 0,{})]})]) (.cons UU .nil) (by kernel_rfl) (by kernel_rfl)
def qD(x_0:ae)(ports_1:Int):Option Bool:=
 (bif((decide ((ae.c9 x_0)>=0))&&(decide ((ae.c9 x_0)<=65535)))then((qF (ae.M x_0)).bind fun r1=>
 bif r1 then((qE (ae.iK x_0) ports_1).bind fun r2=>
 some r2)else
 (some false))else
 (some false):Option Bool).bind fun b3=>
 some b3
def TG:fJ:=⟨[(false,.x y0),(false,.x (.i .i64))],[([.x .b],[])],true,[],fun p=>match p with|(x_0,ports_1)=>qD x_0 ports_1⟩
theorem US:bf prog 61 TG:=aV mixed bn (bz:=bz) (np:=2) (an:=[(3,{j:=some {vs:=[(4,.x .b)]}})]) (.cons UV (.cons UT .nil)) (by kernel_rfl) (by kernel_rfl)
def rf(a_0:aj)(b_1:aj)(i6:Int):(Int×Int×aj×aj)->Option ((Int×Int×aj×aj)⊕((Bool×aj)⊕(aj×aj))):=fun(i15,i16,x17,x18)=>
 bif decide (i16<8)then(((eX i6 4).bind fun n19=>
 (gQ (gt ((aj.nT b_1).1) n19) i16).bind fun r20=>
 bif(r20==1)then((eX i6 4).bind fun n21=>
 (gQ (gt ((aj.nT a_0).1) n21) i16).bind fun r22=>
 bif(r22==1)then((eX i6 4).bind fun n23=>
 (gQ (gt ((aj.vH a_0).1) n23) i16).bind fun r24=>
 (eX i6 4).bind fun n25=>
 (gQ (gt ((aj.vH b_1).1) n25) i16).bind fun r26=>
 some (r24 !=r26))else
 (some false))else
 (some false):Option Bool).bind fun b27=>
 bif b27 then(some (.inr (.inl (false,(⟨0,(mx (.ar 4 (.i .i64))),(mx (.ar 4 (.i .i64)))⟩:aj)))))else
 ((((eX i6 4).bind fun n28=>
 (gQ (gt ((aj.nT b_1).1) n28) i16).bind fun r29=>
 bif(r29==1)then((eX i6 4).bind fun n30=>
 (gQ (gt ((aj.nT a_0).1) n30) i16).bind fun r31=>
 some (r31==0))else
 (some false):Option Bool).bind fun b32=>
 bif b32 then((eX i6 4).bind fun n33=>
 (eX i6 4).bind fun n34=>
 (eX i6 4).bind fun n35=>
 (eX i6 4).bind fun n36=>
 (gQ (gt ((aj.vH b_1).1) n36) i16).bind fun r37=>
 (eX i6 4).bind fun n38=>
 some (⟨aj.dk x18,Arr.set (aj.vH x18) n38 (wr .i64 ((gt ((aj.vH x18).1) n35)+(wr .i64 (i15*r37)))),Arr.set (aj.nT x18) n34 (wr .i64 ((gt ((aj.nT x18).1) n33)+i15))⟩:aj))else
 (some x18):Option aj).bind fun x39=>
 some (.inl (wr .i64 (i15*2),wr .i64 (i16+1),x17,x39))))else
 (some (.inr (.inr (x17,x18))))
def re(a_0:aj)(b_1:aj):(Int×aj×aj)->Option ((Int×aj×aj)⊕((Bool×aj)⊕(aj×aj))):=fun(i6,x7,x8)=>
 bif decide (i6<4)then((bw (rf a_0 b_1 i6) (1,0,x7,x8)).bind fun
 |.inl (b40,x41)=>(some (.inr (.inl (b40,x41))))
 |.inr (x42,x43)=>(some (.inl (wr .i64 (i6+1),x42,x43))))else
 (some (.inr (.inr (x7,x8))))
def sx(a_0:aj)(b_1:aj):Option (aj×Bool):=
 (bif((aj.dk a_0)==(-1))then(some (⟨aj.dk b_1,aj.vH a_0,aj.nT a_0⟩:aj))else
 (some a_0):Option aj).bind fun x1=>
 bif(((aj.dk b_1) !=(-1))&&((aj.dk x1) !=(aj.dk b_1)))then(some ((⟨0,(mx (.ar 4 (.i .i64))),(mx (.ar 4 (.i .i64)))⟩:aj),false))else
 ((bw (re a_0 b_1) (0,(⟨0,(mx (.ar 4 (.i .i64))),(mx (.ar 4 (.i .i64)))⟩:aj),x1)).bind fun
 |.inl (b44,x45)=>(some (x45,b44))
 |.inr (x46,x47)=>(some (x47,true)))
def TF:fJ:=⟨[(false,.x y1),(false,.x y1)],[([.x y1,.x .b],[])],true,[],fun p=>match p with|(a_0,b_1)=>sx a_0 b_1⟩
theorem UR:bf prog 135 TF:=aV mixed bn (bz:=bz) (np:=2) (an:=[(4,{e:=[(.normal,{vs:=[(6,.op 0 y1 [])],os:=[.bx y1 (.x y1)],kl:=[3]})]}),(16,{j:=some {vs:=[(4,.op 0 y1 []),(6,.op 1 y1 []),(7,.x (.i .i64))],os:=[.bx y1 (.x y1),.bx y1 (.x y1)],kl:=[2,4]},e:=[(.ret,{vs:=[(4,.op 0 y1 []),(5,.x .b)],os:=[.bx y1 (.x y1)],kl:=[2,4]}),(.exit 0,{vs:=[(4,.op 0 y1 []),(6,.op 1 y1 [])],os:=[.bx y1 (.x y1),.bx y1 (.x y1)],kl:=[2,4]})]}),(25,{j:=some {vs:=[(4,.op 0 y1 []),(6,.op 1 y1 []),(8,.x (.i .i64)),(9,.x (.i .i64))],os:=[.bx y1 (.x y1),.bx y1 (.x y1)],kl:=[5,6]},e:=[(.ret,{vs:=[(4,.op 0 y1 []),(5,.x .b)],os:=[.bx y1 (.x y1)],kl:=[5,6]}),(.exit 2,{vs:=[(4,.op 0 y1 []),(6,.op 1 y1 [])],os:=[.bx y1 (.x y1),.bx y1 (.x y1)],kl:=[5,6]})]}),(32,{j:=some {vs:=[(66,.x .b)]}}),(35,{e:=[(.normal,{vs:=[(6,.op 0 y1 [])],os:=[.bx y1 (.x y1)],kl:=[8]})]}),(37,{j:=some {vs:=[(83,.x .b)]}})]) (.cons Lh .nil) (by kernel_rfl) (by kernel_rfl)
def nC(a_0:ae)(b_1:ae):Option Bool:=
 bif(((ae.c9 a_0) !=(ae.c9 b_1))||(decide ((ae.M a_0)=(ae.M b_1))))then(some false)else
 ((sx (ae.M a_0) (ae.M b_1)).bind fun(r1,r2)=>
 some r2)
def TE:fJ:=⟨[(false,.x y0),(false,.x y0)],[([.x .b],[])],true,[],fun p=>match p with|(a_0,b_1)=>nC a_0 b_1⟩
theorem UQ:bf prog 96 TE:=aV mixed bn (bz:=bz) (np:=2) (an:=[]) (.cons UR .nil) (by kernel_rfl) (by kernel_rfl)
def o7(a_0:aj)(b_1:aj)(i2:Int):Int->Option (Int⊕(Bool⊕Unit)):=fun i4=>
 bif decide (i4<8)then(((eX i2 4).bind fun n5=>
 (gQ (gt ((aj.nT b_1).1) n5) i4).bind fun r6=>
 bif(r6==1)then((eX i2 4).bind fun n7=>
 (gQ (gt ((aj.nT a_0).1) n7) i4).bind fun r8=>
 bif(r8==0)then(some true)else
 ((eX i2 4).bind fun n9=>
 (gQ (gt ((aj.vH a_0).1) n9) i4).bind fun r10=>
 (eX i2 4).bind fun n11=>
 (gQ (gt ((aj.vH b_1).1) n11) i4).bind fun r12=>
 some (r10 !=r12)))else
 (some false):Option Bool).bind fun b13=>
 bif b13 then(some (.inr (.inl false)))else
 (some (.inl (wr .i64 (i4+1)))))else
 (some (.inr (.inr ())))
def o6(a_0:aj)(b_1:aj):Int->Option (Int⊕(Bool⊕Unit)):=fun i2=>
 bif decide (i2<4)then((bw (o7 a_0 b_1 i2) 0).bind fun
 |.inl b14=>(some (.inr (.inl b14)))
 |.inr _=>(some (.inl (wr .i64 (i2+1)))))else
 (some (.inr (.inr ())))
def pA(a_0:aj)(b_1:aj):Option Bool:=
 bif(((aj.dk b_1) !=(-1))&&((aj.dk a_0) !=(aj.dk b_1)))then(some false)else
 ((bw (o6 a_0 b_1) 0).bind fun
 |.inl b15=>(some b15)
 |.inr _=>(some true))
def TD:fJ:=⟨[(false,.x y1),(false,.x y1)],[([.x .b],[])],true,[],fun p=>match p with|(a_0,b_1)=>pA a_0 b_1⟩
theorem UP:bf prog 98 TD:=aV mixed bn (bz:=bz) (np:=2) (an:=[(10,{j:=some {vs:=[(5,.x (.i .i64))]},e:=[(.ret,{vs:=[(4,.x .b)]}),(.exit 0,{})]}),(17,{j:=some {vs:=[(6,.x (.i .i64))]},e:=[(.ret,{vs:=[(4,.x .b)]}),(.exit 2,{})]}),(23,{j:=some {vs:=[(55,.x .b)]}})]) (.cons Lh .nil) (by kernel_rfl) (by kernel_rfl)
def wS(a_0:ae)(b_1:ae):Option Bool:=some (((ae.c9 a_0)==(ae.c9 b_1))&&(decide ((ae.M a_0)=(ae.M b_1))))
def TC:fJ:=⟨[(false,.x y0),(false,.x y0)],[([.x .b],[])],true,[],fun p=>match p with|(a_0,b_1)=>wS a_0 b_1⟩
theorem UO:bf prog 99 TC:=aV mixed bn (bz:=bz) (np:=2) (an:=[]) .nil (by kernel_rfl) (by kernel_rfl)
def vq(x_0:ae)(l_1:Sl aT):Option ae:=some (⟨ae.c9 x_0,ae.M x_0,l_1⟩:ae)
def TB:fJ:=⟨[(false,.x y0),(false,.x (.sl y2))],[([.x y0],[])],false,[],fun p=>match p with|(x_0,l_1)=>vq x_0 l_1⟩
theorem UN:bf prog 100 TB:=aV mixed bn (bz:=bz) (np:=2) (an:=[]) .nil (by kernel_rfl) (by kernel_rfl)
def kp(t_0:Sl ae)(m_1:ai)(strict_2:Bool)(gone_3:Bool):(Int×Int×Sl ae)->Option ((Int×Int×Sl ae)⊕(Int×Sl ae)):=fun(i6,i7,s8)=>
 bif decide (i7<(t_0.l.length:Int))then(((eX i7 t_0.l.length).bind fun n9=>
 (pA (ae.M (gt t_0.l n9)) (ae.M (ai.R m_1))).bind fun r10=>
 (bif strict_2 then((eX i7 t_0.l.length).bind fun n11=>
 (wS (gt t_0.l n11) (ai.R m_1)).bind fun r12=>
 some r12)else
 (some r10):Option Bool).bind fun b13=>
 bif(!b13)then((eX i7 t_0.l.length).bind fun n14=>
 (ld (s8.l++[gt t_0.l n14])).bind fun l15=>
 some (i6,(Sl.mk l15)))else
 (bif(!gone_3)then((eX i7 t_0.l.length).bind fun n16=>
 (vq (gt t_0.l n16) (ae.iK (ai.R m_1))).bind fun r17=>
 (ld (s8.l++[r17])).bind fun l18=>
 some (wr .i64 (i6+1),(Sl.mk l18)))else
 (some (wr .i64 (i6+1),s8))):Option (Int×Sl ae)).bind fun(i19,s20)=>
 some (.inl (i19,wr .i64 (i7+1),s20)))else
 (some (.inr (i6,s8)))
def mA(t_0:Sl ae)(m_1:ai)(strict_2:Bool)(gone_3:Bool):Option (Sl ae×Int):=
 (bw (kp t_0 m_1 strict_2 gone_3) (0,0,Sl.nil)).bind fun(i21,s22)=>
 some (s22,i21)
def TA:fJ:=⟨[(false,.x (.sl y0)),(false,.x y3),(false,.x .b),(false,.x .b)],[([.x (.sl y0),.x (.i .i64)],[])],false,[],fun p=>match p with|(t_0,m_1,strict_2,gone_3)=>mA t_0 m_1 strict_2 gone_3⟩
theorem Qe:bf prog 63 TA:=aV mixed bn (bz:=bz) (np:=4) (an:=[(9,{j:=some {vs:=[(10,.so 0),(11,.x (.i .i64)),(12,.x (.i .i64))],os:=[.ar y0]},e:=[(.exit 0,{vs:=[(10,.so 0),(11,.x (.i .i64))],os:=[.ar y0]})]}),(13,{e:=[(.normal,{vs:=[(10,.so 0),(11,.x (.i .i64))],os:=[.ar y0],kl:=[1]})]}),(16,{e:=[(.normal,{vs:=[(13,.x .b)]})]})]) (.cons UP (.cons UO (.cons UN .nil))) (by kernel_rfl) (by kernel_rfl)
def lD(t_0:Sl ae)(x_1:ae):(Bool×Int×Sl ae)->Option ((Bool×Int×Sl ae)⊕(Bool×Sl ae)):=fun(b6,i7,s8)=>
 bif decide (i7<(t_0.l.length:Int))then(((bif(!b6)then((eX i7 t_0.l.length).bind fun n9=>
 some (decide ((ae.c9 (gt t_0.l n9))<(ae.c9 x_1))))else
 (some false):Option Bool).bind fun b10=>
 bif b10 then((ld (s8.l++[x_1])).bind fun l11=>
 some (true,(Sl.mk l11)))else
 (some (b6,s8)):Option (Bool×Sl ae)).bind fun(b12,s13)=>
 (eX i7 t_0.l.length).bind fun n14=>
 (ld (s13.l++[gt t_0.l n14])).bind fun l15=>
 some (.inl (b12,wr .i64 (i7+1),(Sl.mk l15))))else
 (some (.inr (b6,s8)))
def qA(t_0:Sl ae)(x_1:ae):Option (Sl ae):=
 (bw (lD t_0 x_1) (false,0,Sl.nil)).bind fun(b16,s17)=>
 (bif(!b16)then((ld (s17.l++[x_1])).bind fun l18=>
 some (Sl.mk l18))else
 (some s17):Option (Sl ae)).bind fun s19=>
 some s19
def Tz:fJ:=⟨[(false,.x (.sl y0)),(false,.x y0)],[([.x (.sl y0)],[])],false,[],fun p=>match p with|(t_0,x_1)=>qA t_0 x_1⟩
theorem UM:bf prog 97 Tz:=aV mixed bn (bz:=bz) (np:=2) (an:=[(9,{j:=some {vs:=[(5,.so 0),(6,.x .b),(7,.x (.i .i64))],os:=[.ar y0]},e:=[(.exit 0,{vs:=[(5,.so 0),(6,.x .b)],os:=[.ar y0]})]}),(14,{e:=[(.normal,{vs:=[(5,.so 0),(6,.x .b)],os:=[.ar y0],kl:=[1]})]}),(16,{j:=some {vs:=[(25,.x .b)]}}),(22,{e:=[(.normal,{vs:=[(5,.so 0)],os:=[.ar y0],kl:=[1]})]})]) .nil (by kernel_rfl) (by kernel_rfl)
def ip(t_0:Sl ae)(m_1:ai):Int->Option (Int⊕((Sl ae×Int)⊕Unit)):=fun i2=>
 bif((ai.iY m_1)&&(decide (i2<(t_0.l.length:Int))))then((eX i2 t_0.l.length).bind fun n3=>
 (nC (gt t_0.l n3) (ai.R m_1)).bind fun r4=>
 bif r4 then(some (.inr (.inl (t_0,14))))else
 (some (.inl (wr .i64 (i2+1)))))else
 (some (.inr (.inr ())))
def uv(t_0:Sl ae)(m_1:ai)(room_2:Int):Option (Sl ae×Int):=
 (bw (ip t_0 m_1) 0).bind fun
 |.inl (s5,i6)=>(some (s5,i6))
 |.inr _=>((mA t_0 m_1 true false).bind fun(r7,r8)=>
 bif decide (r8>0)then(some (r7,0))else
 (bif decide ((t_0.l.length:Int)>=room_2)then(some (t_0,6))else
 ((qA t_0 (ai.R m_1)).bind fun r9=>
 some (r9,0))))
def Tx:fJ:=⟨[(false,.x (.sl y0)),(false,.x y3),(false,.x (.i .i64))],[([.x (.sl y0),.x (.i .i64)],[])],false,[],fun p=>match p with|(t_0,m_1,room_2)=>uv t_0 m_1 room_2⟩
theorem UL:bf prog 62 Tx:=aV mixed bn (bz:=bz) (np:=3) (an:=[(5,{j:=some {vs:=[(8,.x (.i .i64))]},e:=[(.ret,{vs:=[(6,.x (.sl y0)),(7,.x (.i .i64))]}),(.exit 0,{})]})]) (.cons UQ (.cons Qe (.cons UM .nil))) (by kernel_rfl) (by kernel_rfl)
def qB(t_0:Sl ae)(m_1:ai)(ports_2:Int)(room_3:Int):Option (Sl ae×Int):=
 (bif((decide ((ai.bh m_1)<1))||(decide ((ai.bh m_1)>5)))then(some true)else
 ((qD (ai.R m_1) ports_2).bind fun r1=>
 some (!r1)):Option Bool).bind fun b2=>
 bif b2 then(some (t_0,2))else
 (bif((ai.bh m_1)==1)then((uv t_0 m_1 room_3).bind fun(r3,r4)=>
 some (r3,r4))else
 ((mA t_0 m_1 (((ai.bh m_1)==3)||((ai.bh m_1)==5)) (decide ((ai.bh m_1)>=4))).bind fun(r5,r6)=>
 bif((((ai.bh m_1)==3)||((ai.bh m_1)==5))&&(r6==0))then(some (t_0,7))else
 (some (r5,0))))
def Tw:fJ:=⟨[(false,.x (.sl y0)),(false,.x y3),(false,.x (.i .i64)),(false,.x (.i .i64))],[([.x (.sl y0),.x (.i .i64)],[])],false,[],fun p=>match p with|(t_0,m_1,ports_2,room_3)=>qB t_0 m_1 ports_2 room_3⟩
theorem UK:bf prog 38 Tw:=aV mixed bn (bz:=bz) (np:=4) (an:=[(4,{j:=some {vs:=[(27,.x .b)]}})]) (.cons US (.cons UL (.cons Qe .nil))) (by kernel_rfl) (by kernel_rfl)
def mB(t_0:Sl ae)(l_1:Sl ai)(ports_2:Int)(room_3:Int):(Sl ae×Int)->Option ((Sl ae×Int)⊕((Sl ae×Int×Int)⊕(Sl ae))):=fun(s3,i4)=>
 bif decide (i4<(l_1.l.length:Int))then((eX i4 l_1.l.length).bind fun n5=>
 (qB s3 (gt l_1.l n5) ports_2 room_3).bind fun(r6,r7)=>
 bif(r7 !=0)then(some (.inr (.inl (t_0,i4,r7))))else
 (some (.inl (r6,wr .i64 (i4+1)))))else
 (some (.inr (.inr s3)))
def vr(t_0:Sl ae)(l_1:Sl ai)(ports_2:Int)(room_3:Int):Option (Sl ae×Int×Int):=
 (bw (mB t_0 l_1 ports_2 room_3) (t_0,0)).bind fun
 |.inl (s8,i9,i10)=>(some (s8,i9,i10))
 |.inr s11=>(some (s11,(-1),0))
def Tv:fJ:=⟨[(false,.x (.sl y0)),(false,.x (.sl y3)),(false,.x (.i .i64)),(false,.x (.i .i64))],[([.x (.sl y0),.x (.i .i64),.x (.i .i64)],[])],false,[],fun p=>match p with|(t_0,l_1,ports_2,room_3)=>vr t_0 l_1 ports_2 room_3⟩
theorem UJ:bf prog 17 Tv:=aV mixed bn (bz:=bz) (np:=4) (an:=[(7,{j:=some {vs:=[(11,.x (.sl y0)),(12,.x (.i .i64))]},e:=[(.ret,{vs:=[(8,.x (.sl y0)),(9,.x (.i .i64)),(10,.x (.i .i64))]}),(.exit 0,{vs:=[(11,.x (.sl y0))]})]})]) (.cons UK .nil) (by kernel_rfl) (by kernel_rfl)
def oJ(a_0:Sl aT)(b_1:Sl aT):Int->Option (Int⊕(Bool⊕Unit)):=fun i2=>
 bif decide (i2<(a_0.l.length:Int))then((eX i2 a_0.l.length).bind fun n3=>
 (eX i2 b_1.l.length).bind fun n4=>
 bif(!(decide ((gt a_0.l n3)=(gt b_1.l n4))))then(some (.inr (.inl false)))else
 (some (.inl (wr .i64 (i2+1)))))else
 (some (.inr (.inr ())))
def sv(a_0:Sl aT)(b_1:Sl aT):Option Bool:=
 bif((a_0.l.length:Int) !=(b_1.l.length:Int))then(some false)else
 ((bw (oJ a_0 b_1) 0).bind fun
 |.inl b5=>(some b5)
 |.inr _=>(some true))
def Tu:fJ:=⟨[(false,.x (.sl y2)),(false,.x (.sl y2))],[([.x .b],[])],true,[],fun p=>match p with|(a_0,b_1)=>sv a_0 b_1⟩
theorem UI:bf prog 64 Tu:=aV mixed bn (bz:=bz) (np:=2) (an:=[(10,{j:=some {vs:=[(5,.x (.i .i64))]},e:=[(.ret,{vs:=[(4,.x .b)]}),(.exit 0,{})]})]) .nil (by kernel_rfl) (by kernel_rfl)
def su(a_0:ae)(b_1:ae):Option Bool:=
 (bif(((ae.c9 a_0)==(ae.c9 b_1))&&(decide ((ae.M a_0)=(ae.M b_1))))then((sv (ae.iK a_0) (ae.iK b_1)).bind fun r1=>
 some r1)else
 (some false):Option Bool).bind fun b2=>
 some b2
def Tt:fJ:=⟨[(false,.x y0),(false,.x y0)],[([.x .b],[])],true,[],fun p=>match p with|(a_0,b_1)=>su a_0 b_1⟩
theorem UH:bf prog 39 Tt:=aV mixed bn (bz:=bz) (np:=2) (an:=[(3,{j:=some {vs:=[(4,.x .b)]}})]) (.cons UI .nil) (by kernel_rfl) (by kernel_rfl)
def nB(a_0:Sl ae)(b_1:Sl ae):Int->Option (Int⊕(Bool⊕Unit)):=fun i2=>
 bif decide (i2<(a_0.l.length:Int))then((eX i2 a_0.l.length).bind fun n3=>
 (eX i2 b_1.l.length).bind fun n4=>
 (su (gt a_0.l n3) (gt b_1.l n4)).bind fun r5=>
 bif(!r5)then(some (.inr (.inl false)))else
 (some (.inl (wr .i64 (i2+1)))))else
 (some (.inr (.inr ())))
def qC(a_0:Sl ae)(b_1:Sl ae):Option Bool:=
 bif((a_0.l.length:Int) !=(b_1.l.length:Int))then(some false)else
 ((bw (nB a_0 b_1) 0).bind fun
 |.inl b6=>(some b6)
 |.inr _=>(some true))
def Ts:fJ:=⟨[(false,.x (.sl y0)),(false,.x (.sl y0))],[([.x .b],[])],true,[],fun p=>match p with|(a_0,b_1)=>qC a_0 b_1⟩
theorem UG:bf prog 18 Ts:=aV mixed bn (bz:=bz) (np:=2) (an:=[(10,{j:=some {vs:=[(5,.x (.i .i64))]},e:=[(.ret,{vs:=[(4,.x .b)]}),(.exit 0,{})]})]) (.cons UH .nil) (by kernel_rfl) (by kernel_rfl)
end Go.Proofs.YtjjajcecekocdaaGreat.A
