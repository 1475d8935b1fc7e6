/- What functions of the program compute, and that the model's run computes it. Conditions: as stated. -/
import Derived.Test.YtjjajcecekocdaaGreatAh
import Derived.Test.YtjjajcecekocdaaGreatChecked
import Derived.KernelRfl
open Go.Ev Go
noncomputable section
namespace Go.Proofs.YtjjajcecekocdaaGreat.A
abbrev prog:Program:=Tryz.prog
theorem bp:prog.follows .mixedOrders=true:=by kernel_rfl
theorem bw:lU:=Nh fun _=>rfl
def bq:uX:=fun f=>if f=3 then(true,[])else if f=4 then(true,[])else if f=5 then(true,[])else if f=6 then(true,[])else if f=7 then(true,[])else if f=9 then(true,[])else if f=10 then(true,[])else if f=11 then(false,[true])else if f=12 then(false,[true])else if f=13 then(false,[true,false])else if f=14 then(false,[true])else if f=15 then(false,[true,false])else if f=16 then(true,[])else if f=18 then(true,[])else if f=19 then(true,[])else if f=20 then(false,[true])else if f=21 then(true,[])else if f=22 then(false,[true])else if f=23 then(false,[true,false,false])else if f=24 then(false,[true])else if f=25 then(true,[])else if f=26 then(true,[])else if f=27 then(false,[true])else if f=28 then(false,[true])else if f=29 then(false,[true,false,false,false])else if f=30 then(false,[true])else if f=32 then(false,[true])else if f=34 then(true,[])else if f=36 then(false,[true,false,false,false])else if f=37 then(false,[true,false])else if f=39 then(true,[])else if f=40 then(true,[])else if f=41 then(true,[])else if f=42 then(true,[])else if f=45 then(true,[])else if f=46 then(false,[true,false,false])else if f=48 then(true,[])else if f=52 then(true,[])else if f=54 then(false,[true,false,false])else if f=55 then(false,[true,false])else if f=56 then(false,[true,false,false,false])else if f=58 then(false,[true])else if f=59 then(false,[true])else if f=60 then(false,[true,false])else if f=61 then(true,[])else if f=64 then(true,[])else if f=65 then(true,[])else if f=66 then(true,[])else if f=67 then(true,[])else if f=68 then(true,[])else if f=69 then(true,[])else if f=73 then(true,[])else if f=74 then(true,[])else if f=75 then(true,[])else if f=77 then(true,[])else if f=78 then(true,[])else if f=79 then(true,[])else if f=80 then(false,[true,false])else if f=81 then(false,[true,false,false])else if f=82 then(false,[true,false])else if f=83 then(false,[true,false])else if f=85 then(true,[])else if f=86 then(true,[])else if f=88 then(true,[])else if f=89 then(true,[])else if f=90 then(true,[])else if f=92 then(true,[])else if f=93 then(false,[true,false])else if f=94 then(true,[])else if f=95 then(true,[])else if f=96 then(true,[])else if f=98 then(true,[])else if f=99 then(true,[])else if f=101 then(true,[])else if f=102 then(true,[])else if f=103 then(true,[])else if f=104 then(true,[])else if f=108 then(true,[])else if f=109 then(true,[])else if f=110 then(true,[])else if f=111 then(false,[true,false])else if f=112 then(true,[])else if f=114 then(false,[true,false])else if f=115 then(false,[true])else if f=116 then(false,[true,false])else if f=117 then(true,[])else if f=118 then(true,[])else if f=119 then(true,[])else if f=120 then(true,[])else if f=121 then(true,[])else if f=124 then(false,[true,false])else if f=125 then(true,[])else if f=126 then(true,[])else if f=127 then(true,[])else if f=129 then(false,[true,false,false])else if f=130 then(false,[true,false])else if f=131 then(false,[true,false])else if f=132 then(true,[])else if f=133 then(true,[])else if f=134 then(true,[])else if f=135 then(true,[])else if f=136 then(true,[])else if f=137 then(true,[])else if f=144 then(true,[])else if f=149 then(true,[])else if f=150 then(true,[])else if f=151 then(true,[])else if f=152 then(true,[])else if f=153 then(true,[])else if f=154 then(true,[])else if f=155 then(true,[])else if f=156 then(true,[])else if f=157 then(false,[true,false,true])else if f=158 then(true,[])else if f=164 then(true,[])else if f=165 then(true,[])else if f=166 then(true,[])else if f=167 then(false,[false,false,false,false,false,false,false,false,false])else if f=168 then(false,[true,false])else if f=170 then(false,[true,false])else(false,[])
@[reducible] def aA:Type:=Int×Arr 4 Int×Arr 4 Int
@[reducible] def aA.o_ (x:aA):Int:=x.1
@[reducible] def aA.ES (x:aA):Arr 4 Int:=x.2.1
@[reducible] def aA.tE (x:aA):Arr 4 Int:=x.2.2
@[reducible] def bY:Type:=Int×Int×Int
@[reducible] def bY.fx (x:bY):Int:=x.1
@[reducible] def bY.F (x:bY):Int:=x.2.1
@[reducible] def bY.V (x:bY):Int:=x.2.2
@[reducible] def ae:Type:=Int×aA×Sl bY
@[reducible] def ae.uf (x:ae):Int:=x.1
@[reducible] def ae.M (x:ae):aA:=x.2.1
@[reducible] def ae.pd (x:ae):Sl bY:=x.2.2
@[reducible] def ai:Type:=Int×ae×Bool
@[reducible] def ai.fx (x:ai):Int:=x.1
@[reducible] def ai.R (x:ai):ae:=x.2.1
@[reducible] def ai.ur (x:ai):Bool:=x.2.2
@[reducible] def af:Type:=Int×Int×Int×Int×Int×Int×Int×Int×Int×Sl ai
@[reducible] def af.fx (x:af):Int:=x.1
@[reducible] def af.Sw (x:af):Int:=x.2.1
@[reducible] def af.U (x:af):Int:=x.2.2.1
@[reducible] def af.Rd (x:af):Int:=x.2.2.2.1
@[reducible] def af.T1 (x:af):Int:=x.2.2.2.2.1
@[reducible] def af.T2 (x:af):Int:=x.2.2.2.2.2.1
@[reducible] def af.Hs (x:af):Int:=x.2.2.2.2.2.2.1
@[reducible] def af.Of (x:af):Int:=x.2.2.2.2.2.2.2.1
@[reducible] def af.Code (x:af):Int:=x.2.2.2.2.2.2.2.2.1
@[reducible] def af.vJ (x:af):Sl ai:=x.2.2.2.2.2.2.2.2.2
@[reducible] def y1:Ty:=.st (.pr (.i .i64) (.pr (.ar 4 (.i .i64)) (.ar 4 (.i .i64))))
@[reducible] def y2:Ty:=.st (.pr (.i .i64) (.pr (.i .i64) (.i .i64)))
@[reducible] def y0:Ty:=.st (.pr (.i .i64) (.pr y1 (.sl y2)))
@[reducible] def y3:Ty:=.st (.pr (.i .i64) (.pr y0 .b))
@[reducible] def y4:Ty:=.st (.pr (.i .i64) (.pr (.i .i64) (.pr (.i .i64) (.pr (.i .i64) (.pr (.i .i64) (.pr (.i .i64) (.pr (.i .i64) (.pr (.i .i64) (.pr (.i .i64) (.sl y3))))))))))
@[reducible] def bF:Type:=Int×Int
@[reducible] def bF.fx (x:bF):Int:=x.1
@[reducible] def bF.Rd (x:bF):Int:=x.2
@[reducible] def y5:Ty:=.st (.pr (.i .i64) (.i .i64))
@[reducible] def th:Type:=Int×Arr 4 Int
@[reducible] def th.o_ (x:th):Int:=x.1
@[reducible] def th.P (x:th):Arr 4 Int:=x.2
@[reducible] def y6:Ty:=.st (.pr (.i .i64) (.ar 4 (.i .i64)))
@[reducible] def av:Type:=Int×Sl ae
@[reducible] def av.rd (x:av):Int:=x.1
@[reducible] def av.eI (x:av):Sl ae:=x.2
@[reducible] def y7:Ty:=.st (.sl (.i .i64))
@[reducible] def y9:Ty:=.st (.pr (.i .i64) (.sl y0))
@[reducible] def y8:Ty:=.st (.pr (.i .i64) (.pr (.i .i64) (.pr .b (.pr (.i .i64) (.pr (.i .i64) (.pr (.sl y0) (.pr (.mp (.i .i64) (.sl y3)) (.pr (.mp (.i .i64) (.i .i64)) (.pr (.o 1) (.pr (.sl y9) (.mp (.i .i64) (.i .i64))))))))))))
@[reducible] def aw:Type:=Int×Arr 16 Bool×Arr 16 ai×Int
@[reducible] def aw.xP (x:aw):Int:=x.1
@[reducible] def aw.Ej (x:aw):Arr 16 Bool:=x.2.1
@[reducible] def aw.l (x:aw):Arr 16 ai:=x.2.2.1
@[reducible] def aw.n (x:aw):Int:=x.2.2.2
@[reducible] def sD:Ty:=.st (.pr (.i .i64) (.pr (.ar 16 .b) (.pr (.ar 16 y3) (.i .i64))))
def fS:Option Bool:=some false
def Ta:fZ:=⟨[(true,.nl 1)],[([.x .b],[.nl 1])],false,[true],fun p=>match p with|_=>fS⟩
theorem Pm:bf prog 20 Ta:=aX bp bw (bq:=bq) (np:=1) (an:=[]) .nil (by kernel_rfl) (by kernel_rfl)
def nw:Option Unit:=
 (fS).bind fun r1=>
 bif(!r1)then(some ())else
 (none)
def TA:fZ:=⟨[(true,.nl 1)],[([],[.nl 1])],false,[true],fun p=>match p with|_=>nw⟩
theorem TG:bf prog 27 TA:=aX bp bw (bq:=bq) (np:=1) (an:=[]) (.cons Pm .nil) (by kernel_rfl) (by kernel_rfl)
def nv:Option Unit:=some ()
def Tz:fZ:=⟨[(true,.nl 1)],[([],[.nl 1])],false,[true],fun p=>match p with|_=>nv⟩
theorem TF:bf prog 28 Tz:=aX bp bw (bq:=bq) (np:=1) (an:=[]) .nil (by kernel_rfl) (by kernel_rfl)
def v6(kind_0:Int):Option Int:=
 bif(kind_0==1)then(some 1)else
 (bif(kind_0==2)then(some 7)else
 (bif(kind_0==3)then(some 152)else
 (bif(kind_0==4)then(some 26)else
 (bif(kind_0==5)then(some 24)else
 (bif(kind_0==6)then(some 72)else
 (bif(kind_0==7)then(some 60)else
 (bif(kind_0==8)then(some 124)else
 (some 0))))))))
def Tx:fZ:=⟨[(false,.x (.i .i64))],[([.x (.i .i64)],[])],true,[],fun p=>match p with|kind_0=>v6 kind_0⟩
theorem TE:bf prog 73 Tx:=aX bp bw (bq:=bq) (np:=1) (an:=[]) .nil (by kernel_rfl) (by kernel_rfl)
def gb(n_0:Int)(from_1:Int)(to_2:Int):Option Bool:=some ((decide (n_0>=from_1))&&(decide (n_0<=to_2)))
def Tw:fZ:=⟨[(false,.x (.i .i64)),(false,.x (.i .i64)),(false,.x (.i .i64))],[([.x .b],[])],true,[],fun p=>match p with|(n_0,from_1,to_2)=>gb n_0 from_1 to_2⟩
theorem Tg:bf prog 74 Tw:=aX bp bw (bq:=bq) (np:=3) (an:=[]) .nil (by kernel_rfl) (by kernel_rfl)
theorem TD:bf prog 76 (C6):=Jw
def ve(a_0:ae)(b_1:ae):Option Bool:=some (((ae.uf a_0)==(ae.uf b_1))&&(decide ((ae.M a_0)=(ae.M b_1))))
def Tv:fZ:=⟨[(false,.x y0),(false,.x y0)],[([.x .b],[])],true,[],fun p=>match p with|(a_0,b_1)=>ve a_0 b_1⟩
theorem Tf:bf prog 69 Tv:=aX bp bw (bq:=bq) (np:=2) (an:=[]) .nil (by kernel_rfl) (by kernel_rfl)
def jz(s1_0:Sl bY)(s2_1:Sl bY):Int->Option (Int⊕(Bool⊕Unit)):=fun i2=>
 bif decide (i2<(s1_0.l.length:Int))then((fw i2 s1_0.l.length).bind fun n3=>
 (fw i2 s2_1.l.length).bind fun n4=>
 bif(!(decide ((gt s1_0.l n3)=(gt s2_1.l n4))))then(some (.inr (.inl false)))else
 (some (.inl (wr .i64 (i2+1)))))else
 (some (.inr (.inr ())))
def fK(s1_0:Sl bY)(s2_1:Sl bY):Option Bool:=
 bif((s1_0.l.length:Int) !=(s2_1.l.length:Int))then(some false)else
 ((gz (jz s1_0 s2_1) 0).bind fun
 |.inl b5=>(some b5)
 |.inr _=>(some true))
def Tu:fZ:=⟨[(false,.x (.sl y2)),(false,.x (.sl y2))],[([.x .b],[])],true,[],fun p=>match p with|(s1_0,s2_1)=>fK s1_0 s2_1⟩
theorem TC:bf prog 166 Tu:=aX bp bw (bq:=bq) (np:=2) (an:=[(10,{j:=some {vs:=[(13,.x (.i .i64))]},e:=[(.ret,{vs:=[(4,.x .b)]}),(.exit 0,{})]})]) .nil (by kernel_rfl) (by kernel_rfl)
def vG(a_0:Sl bY)(b_1:Sl bY):Option Bool:=
 (fK a_0 b_1).bind fun r1=>
 some r1
def Tt:fZ:=⟨[(false,.x (.sl y2)),(false,.x (.sl y2))],[([.x .b],[])],true,[],fun p=>match p with|(a_0,b_1)=>vG a_0 b_1⟩
theorem TB:bf prog 152 Tt:=aX bp bw (bq:=bq) (np:=2) (an:=[]) (.cons TC .nil) (by kernel_rfl) (by kernel_rfl)
def qS(a_0:ae)(b_1:ae):Option Bool:=
 ((ve a_0 b_1).bind fun r1=>
 bif r1 then((vG (ae.pd a_0) (ae.pd b_1)).bind fun r2=>
 some r2)else
 (some false):Option Bool).bind fun b3=>
 some b3
def Ts:fZ:=⟨[(false,.x y0),(false,.x y0)],[([.x .b],[])],true,[],fun p=>match p with|(a_0,b_1)=>qS a_0 b_1⟩
theorem Te:bf prog 121 Ts:=aX bp bw (bq:=bq) (np:=2) (an:=[(3,{j:=some {vs:=[(4,.x .b)]}})]) (.cons Tf (.cons TB .nil)) (by kernel_rfl) (by kernel_rfl)
def mN(a_0:ai)(b_1:ai):Option Bool:=
 (bif(((ai.fx a_0)==(ai.fx b_1))&&((ai.ur a_0)==(ai.ur b_1)))then((qS (ai.R a_0) (ai.R b_1)).bind fun r1=>
 some r1)else
 (some false):Option Bool).bind fun b2=>
 some b2
def Ro:fZ:=⟨[(false,.x y3),(false,.x y3)],[([.x .b],[])],true,[],fun p=>match p with|(a_0,b_1)=>mN a_0 b_1⟩
theorem SG:bf prog 109 Ro:=aX bp bw (bq:=bq) (np:=2) (an:=[(3,{j:=some {vs:=[(4,.x .b)]}})]) (.cons Te .nil) (by kernel_rfl) (by kernel_rfl)
def ce(s1_0:Sl ai)(s2_1:Sl ai):Int->Option (Int⊕(Bool⊕Unit)):=fun i2=>
 bif decide (i2<(s1_0.l.length:Int))then((fw i2 s1_0.l.length).bind fun n3=>
 (fw i2 s2_1.l.length).bind fun n4=>
 (mN (gt s1_0.l n3) (gt s2_1.l n4)).bind fun r5=>
 bif(!r5)then(some (.inr (.inl false)))else
 (some (.inl (wr .i64 (i2+1)))))else
 (some (.inr (.inr ())))
def bE(s1_0:Sl ai)(s2_1:Sl ai):Option Bool:=
 bif((s1_0.l.length:Int) !=(s2_1.l.length:Int))then(some false)else
 ((gz (ce s1_0 s2_1) 0).bind fun
 |.inl b6=>(some b6)
 |.inr _=>(some true))
def Rn:fZ:=⟨[(false,.x (.sl y3)),(false,.x (.sl y3)),(false,.fn 109 .ni)],[([.x .b],[])],true,[],fun p=>match p with|(s1_0,s2_1)=>bE s1_0 s2_1⟩
theorem SF:bf prog 108 Rn:=aX bp bw (bq:=bq) (np:=3) (an:=[(10,{j:=some {vs:=[(17,.x (.i .i64))]},e:=[(.ret,{vs:=[(6,.x .b)]}),(.exit 0,{})]})]) (.cons SG .nil) (by kernel_rfl) (by kernel_rfl)
def pu(a_0:af)(b_1:af):Option Bool:=
 (bif((((((((((af.fx a_0)==(af.fx b_1))&&((af.Sw a_0)==(af.Sw b_1)))&&((af.U a_0)==(af.U b_1)))&&((af.Rd a_0)==(af.Rd b_1)))&&((af.T1 a_0)==(af.T1 b_1)))&&((af.T2 a_0)==(af.T2 b_1)))&&((af.Hs a_0)==(af.Hs b_1)))&&((af.Of a_0)==(af.Of b_1)))&&((af.Code a_0)==(af.Code b_1)))then((bE (af.vJ a_0) (af.vJ b_1)).bind fun r1=>
 some r1)else
 (some false):Option Bool).bind fun b2=>
 some b2
def Rm:fZ:=⟨[(false,.x y4),(false,.x y4)],[([.x .b],[])],true,[],fun p=>match p with|(a_0,b_1)=>pu a_0 b_1⟩
theorem O6:bf prog 75 Rm:=aX bp bw (bq:=bq) (np:=2) (an:=[(3,{j:=some {vs:=[(4,.x .b)]}})]) (.cons SF .nil) (by kernel_rfl) (by kernel_rfl)
def wM(f_0:Int):Option Int:=
 (bif(f_0==0)then(some (f_0==0))else
 (bif(f_0==1)then(some (f_0==1))else
 (some (f_0==3))):Option Bool).bind fun b1=>
 bif b1 then(some 8)else
 (bif(f_0==2)then(some 4)else
 (some 0))
def Rl:fZ:=⟨[(false,.x (.i .i64))],[([.x (.i .i64)],[])],true,[],fun p=>match p with|f_0=>wM f_0⟩
theorem SE:bf prog 136 Rl:=aX bp bw (bq:=bq) (np:=1) (an:=[(5,{e:=[(.normal,{vs:=[(4,.x .b)]})]})]) .nil (by kernel_rfl) (by kernel_rfl)
def nG(f_0:Int):Option Int:=
 (wM f_0).bind fun r1=>
 (Km .i64 1 r1).bind fun i2=>
 some (wr .i64 (i2-1))
def Rk:fZ:=⟨[(false,.x (.i .i64))],[([.x (.i .i64)],[])],true,[],fun p=>match p with|f_0=>nG f_0⟩
theorem MV:bf prog 101 Rk:=aX bp bw (bq:=bq) (np:=1) (an:=[]) (.cons SE .nil) (by kernel_rfl) (by kernel_rfl)
def py(m_0:aA):Int->Option (Int⊕(Bool⊕Unit)):=fun i2=>
 bif decide (i2<4)then((fw i2 4).bind fun n3=>
 (bif decide ((gt ((aA.tE m_0).1) n3)<0)then(some true)else
 ((nG i2).bind fun r4=>
 bif decide ((gt ((aA.tE m_0).1) n3)>r4)then(some true)else
 ((fw i2 4).bind fun n5=>
 bif decide ((gt ((aA.ES m_0).1) n5)<0)then(some true)else
 ((fw i2 4).bind fun n6=>
 some ((xA .i64 (gt ((aA.ES m_0).1) n6) (gt ((aA.tE m_0).1) n3)) !=0)))):Option Bool).bind fun b7=>
 bif b7 then(some (.inr (.inl false)))else
 (some (.inl (wr .i64 (i2+1)))))else
 (some (.inr (.inr ())))
def qc(m_0:aA):Option Bool:=
 bif((decide ((aA.o_ m_0)<(-1)))||(decide ((aA.o_ m_0)>=8)))then(some false)else
 ((gz (py m_0) 0).bind fun
 |.inl b8=>(some b8)
 |.inr _=>(some true))
def Rj:fZ:=⟨[(false,.x y1)],[([.x .b],[])],true,[],fun p=>match p with|m_0=>qc m_0⟩
theorem SD:bf prog 65 Rj:=aX bp bw (bq:=bq) (np:=1) (an:=[(10,{j:=some {vs:=[(15,.x (.i .i64))]},e:=[(.ret,{vs:=[(2,.x .b)]}),(.exit 0,{})]}),(18,{j:=some {vs:=[(42,.x .b)]}})]) (.cons MV .nil) (by kernel_rfl) (by kernel_rfl)
def Ay(a_0:bY)(ports_1:Int):Option Bool:=
 bif((bY.fx a_0)==1)then((bif(((decide ((bY.F a_0)>=0))&&(decide ((bY.F a_0)<4)))&&(decide ((bY.V a_0)>=0)))then((nG (bY.F a_0)).bind fun r1=>
 some (decide ((bY.V a_0)<=r1)))else
 (some false):Option Bool).bind fun b2=>
 some b2)else
 (bif((bY.fx a_0)==2)then(some ((((bY.F a_0)==0)&&(decide ((bY.V a_0)>=0)))&&(decide ((bY.V a_0)<ports_1))))else
 (some (decide (a_0=(⟨3,0,0⟩:bY)))))
def Ri:fZ:=⟨[(false,.x y2),(false,.x (.i .i64))],[([.x .b],[])],true,[],fun p=>match p with|(a_0,ports_1)=>Ay a_0 ports_1⟩
theorem SC:bf prog 104 Ri:=aX bp bw (bq:=bq) (np:=2) (an:=[(8,{j:=some {vs:=[(4,.x .b)]}})]) (.cons MV .nil) (by kernel_rfl) (by kernel_rfl)
def wX(a_0:bY)(c_1:Int):Option Bool:=
 (Ay a_0 c_1).bind fun r1=>
 some (!r1)
def Rh:fZ:=⟨[(false,.x y2),(false,.pt (.i .i64))],[([.x .b],[])],true,[],fun p=>match p with|(a_0,c_1)=>wX a_0 c_1⟩
theorem SA:bf prog 103 Rh:=aX bp bw (bq:=bq) (np:=2) (an:=[]) (.cons SC .nil) (by kernel_rfl) (by kernel_rfl)
def fy(s_0:Sl bY)(f_1_c0:Int):Int->Option (Int⊕(Int⊕Unit)):=fun i2=>
 bif decide (i2<(s_0.l.length:Int))then((fw i2 s_0.l.length).bind fun n3=>
 (wX (gt s_0.l n3) f_1_c0).bind fun r4=>
 bif r4 then(some (.inr (.inl i2)))else
 (some (.inl (wr .i64 (i2+1)))))else
 (some (.inr (.inr ())))
def cP(s_0:Sl bY)(f_1_c0:Int):Option Int:=
 (gz (fy s_0 f_1_c0) 0).bind fun
 |.inl i5=>(some i5)
 |.inr _=>(some (-1))
def Rf:fZ:=⟨[(false,.x (.sl y2)),(false,.fn 103 (.pr (.pt (.i .i64)) .ni))],[([.x (.i .i64)],[])],true,[],fun p=>match p with|(s_0,f_1_c0)=>cP s_0 f_1_c0⟩
theorem Sz:bf prog 137 Rf:=aX bp bw (bq:=bq) (np:=2) (an:=[(5,{j:=some {vs:=[(8,.x (.i .i64))]},e:=[(.ret,{vs:=[(4,.x (.i .i64))]}),(.exit 0,{})]})]) (.cons SA .nil) (by kernel_rfl) (by kernel_rfl)
def cB(s_0:Sl bY)(f_1_c0:Int):Option Bool:=
 (cP s_0 f_1_c0).bind fun r1=>
 some (decide (r1>=0))
def Re:fZ:=⟨[(false,.x (.sl y2)),(false,.fn 103 (.pr (.pt (.i .i64)) .ni))],[([.x .b],[])],true,[],fun p=>match p with|(s_0,f_1_c0)=>cB s_0 f_1_c0⟩
theorem Sy:bf prog 102 Re:=aX bp bw (bq:=bq) (np:=2) (an:=[]) (.cons Sz .nil) (by kernel_rfl) (by kernel_rfl)
def t7(l_0:Sl bY)(ports_1:Int):Option Bool:=
 (bif decide ((l_0.l.length:Int)<=16)then((cB l_0 ports_1).bind fun r1=>
 some (!r1))else
 (some false):Option Bool).bind fun b2=>
 some b2
def Rc:fZ:=⟨[(false,.x (.sl y2)),(false,.x (.i .i64))],[([.x .b],[])],true,[],fun p=>match p with|(l_0,ports_1)=>t7 l_0 ports_1⟩
theorem Sx:bf prog 66 Rc:=aX bp bw (bq:=bq) (np:=2) (an:=[(3,{j:=some {vs:=[(4,.x .b)]}})]) (.cons Sy .nil) (by kernel_rfl) (by kernel_rfl)
def nD(x_0:ae)(ports_1:Int):Option Bool:=
 (bif((decide ((ae.uf x_0)>=0))&&(decide ((ae.uf x_0)<65536)))then((qc (ae.M x_0)).bind fun r1=>
 bif r1 then((t7 (ae.pd x_0) ports_1).bind fun r2=>
 some r2)else
 (some false))else
 (some false):Option Bool).bind fun b3=>
 some b3
def Rb:fZ:=⟨[(false,.x y0),(false,.x (.i .i64))],[([.x .b],[])],true,[],fun p=>match p with|(x_0,ports_1)=>nD x_0 ports_1⟩
theorem MU:bf prog 40 Rb:=aX bp bw (bq:=bq) (np:=2) (an:=[(3,{j:=some {vs:=[(4,.x .b)]}})]) (.cons SD (.cons Sx .nil)) (by kernel_rfl) (by kernel_rfl)
def oX(m_0:ai):Option Bool:=
 ((gb (ai.fx m_0) 1 5).bind fun r1=>
 bif r1 then((nD (ai.R m_0) 8).bind fun r2=>
 some r2)else
 (some false):Option Bool).bind fun b3=>
 some b3
def Ra:fZ:=⟨[(false,.x y3)],[([.x .b],[])],true,[],fun p=>match p with|m_0=>oX m_0⟩
theorem Sv:bf prog 79 Ra:=aX bp bw (bq:=bq) (np:=1) (an:=[(3,{j:=some {vs:=[(2,.x .b)]}})]) (.cons Tg (.cons MU .nil)) (by kernel_rfl) (by kernel_rfl)
def nP(x_0:ai):Option Bool:=
 (oX x_0).bind fun r1=>
 some (!r1)
def Q_:fZ:=⟨[(false,.x y3)],[([.x .b],[])],true,[],fun p=>match p with|x_0=>nP x_0⟩
theorem Su:bf prog 78 Q_:=aX bp bw (bq:=bq) (np:=1) (an:=[]) (.cons Sv .nil) (by kernel_rfl) (by kernel_rfl)
def dv(s_0:Sl ai):Int->Option (Int⊕(Int⊕Unit)):=fun i2=>
 bif decide (i2<(s_0.l.length:Int))then((fw i2 s_0.l.length).bind fun n3=>
 (nP (gt s_0.l n3)).bind fun r4=>
 bif r4 then(some (.inr (.inl i2)))else
 (some (.inl (wr .i64 (i2+1)))))else
 (some (.inr (.inr ())))
def cI(s_0:Sl ai):Option Int:=
 (gz (dv s_0) 0).bind fun
 |.inl i5=>(some i5)
 |.inr _=>(some (-1))
def Q9:fZ:=⟨[(false,.x (.sl y3)),(false,.fn 78 .ni)],[([.x (.i .i64)],[])],true,[],fun p=>match p with|s_0=>cI s_0⟩
theorem Ss:bf prog 110 Q9:=aX bp bw (bq:=bq) (np:=2) (an:=[(5,{j:=some {vs:=[(8,.x (.i .i64))]},e:=[(.ret,{vs:=[(4,.x (.i .i64))]}),(.exit 0,{})]})]) (.cons Su .nil) (by kernel_rfl) (by kernel_rfl)
def cu(s_0:Sl ai):Option Bool:=
 (cI s_0).bind fun r1=>
 some (decide (r1>=0))
def Q8:fZ:=⟨[(false,.x (.sl y3)),(false,.fn 78 .ni)],[([.x .b],[])],true,[],fun p=>match p with|s_0=>cu s_0⟩
theorem Sr:bf prog 77 Q8:=aX bp bw (bq:=bq) (np:=2) (an:=[]) (.cons Ss .nil) (by kernel_rfl) (by kernel_rfl)
def nU(m_0:af):Option Bool:=
 (v6 (af.fx m_0)).bind fun r1=>
 (bif(r1==0)then(some true)else
 ((gb (af.Sw m_0) 0 7).bind fun r2=>
 bif(!r2)then(some true)else
 ((me m_0).bind fun r3=>
 (pu r3 m_0).bind fun r4=>
 some (!r4))):Option Bool).bind fun b5=>
 bif b5 then(some false)else
 ((bif((((af.fx m_0)==5)||((af.fx m_0)==7))||((af.fx m_0)==8))then(some (-1))else
 (some 0):Option Int).bind fun i6=>
 ((gb (af.T1 m_0) 0 1125899906842624).bind fun r7=>
 bif(!r7)then(some true)else
 ((gb (af.T2 m_0) (-1125899906842624) 1125899906842624).bind fun r8=>
 bif(!r8)then(some true)else
 ((gb (af.Hs m_0) 0 65535).bind fun r9=>
 some (!r9))):Option Bool).bind fun b10=>
 bif b10 then(some false)else
 (((bif((uS .i64 r1 8) !=0)then((gb (af.U m_0) 1 65535).bind fun r11=>
 some (!r11))else
 (some false):Option Bool).bind fun b12=>
 bif b12 then(some b12)else
 ((bif((uS .i64 r1 16) !=0)then((gb (af.Rd m_0) i6 7).bind fun r13=>
 some (!r13))else
 (some false):Option Bool).bind fun b14=>
 bif b14 then(some b14)else
 ((bif((uS .i64 r1 32) !=0)then((gb (af.Of m_0) 3 6).bind fun r15=>
 some (!r15))else
 (some false):Option Bool).bind fun b16=>
 some b16)):Option Bool).bind fun b17=>
 bif b17 then(some false)else
 ((gb (af.Code m_0) 0 255).bind fun r18=>
 bif((!r18)||(decide ((((af.vJ m_0).l).length:Int)>16)))then(some false)else
 ((cu (af.vJ m_0)).bind fun r19=>
 some (!r19)))))
def Q7:fZ:=⟨[(false,.x y4)],[([.x .b],[])],true,[],fun p=>match p with|m_0=>nU m_0⟩
theorem O5:bf prog 45 Q7:=aX bp bw (bq:=bq) (np:=1) (an:=[(6,{j:=some {vs:=[(22,.x .b)]}}),(11,{e:=[(.normal,{vs:=[(4,.x (.i .i64))]})]}),(17,{j:=some {vs:=[(36,.x .b)]}}),(20,{e:=[(.normal,{vs:=[(53,.x .b)]})]}),(22,{j:=some {vs:=[(53,.x .b)]}}),(24,{j:=some {vs:=[(53,.x .b)]}}),(25,{j:=some {vs:=[(53,.x .b)]}})]) (.cons TE (.cons Tg (.cons TD (.cons O6 (.cons Sr .nil))))) (by kernel_rfl) (by kernel_rfl)
def ed(now_1:Int):Option (Sl bF):=
 (fS).bind fun r1=>
 bif(!r1)then(some Sl.nil)else
 (none)
def Q6:fZ:=⟨[(true,.nl 1),(false,.x (.i .i64))],[([.os y5],[.nl 1])],false,[true,false],fun p=>match p with|now_1=>ed now_1⟩
theorem KR:bf prog 13 Q6:=aX bp bw (bq:=bq) (np:=2) (an:=[]) (.cons Pm .nil) (by kernel_rfl) (by kernel_rfl)
def fW(now_1:Int)(m_2:af):Option (af×Bool×Sl bF):=
 ((fS).bind fun r1=>
 bif(!r1)then(some true)else
 ((nU m_2).bind fun r2=>
 bif(!r2)then(some true)else
 (none)):Option Bool).bind fun b3=>
 bif b3 then(some ((⟨0,0,0,0,0,0,0,0,0,Sl.nil⟩:af),false,Sl.nil))else
 ((ed now_1).bind fun s4=>
 bif((af.fx m_2)==1)then(none)else
 (none))
def Q5:fZ:=⟨[(true,.nl 1),(false,.x (.i .i64)),(false,.x y4)],[([.x y4,.x .b,.x (.sl y5)],[.nl 1])],false,[true,false,false],fun p=>match p with|(now_1,m_2)=>fW now_1 m_2⟩
theorem O4:bf prog 23 Q5:=aX bp bw (bq:=bq) (np:=3) (an:=[(4,{j:=some {vs:=[(39,.x .b)]}})]) (.cons Pm (.cons O5 (.cons KR .nil))) (by kernel_rfl) (by kernel_rfl)
def ol(now_1:Int)(port_2:Int)(p_3:Arr 4 Int):Option (Sl th×Sl bF):=
 (fS).bind fun r1=>
 bif(!r1)then(some (Sl.nil,Sl.nil))else
 ((ed now_1).bind fun s2=>
 none)
def Q4:fZ:=⟨[(true,.nl 1),(false,.x (.i .i64)),(false,.x (.i .i64)),(false,.x (.ar 4 (.i .i64)))],[([.x (.sl y6),.x (.sl y5)],[.nl 1])],false,[true,false,false,false],fun p=>match p with|(now_1,port_2,p_3)=>ol now_1 port_2 p_3⟩
theorem Sq:bf prog 29 Q4:=aX bp bw (bq:=bq) (np:=4) (an:=[]) (.cons Pm (.cons KR .nil)) (by kernel_rfl) (by kernel_rfl)
def iW:Option (Sl ae):=some Sl.nil
def Q3:fZ:=⟨[(true,.nl 1)],[([.x (.sl y0)],[.nl 1])],false,[true],fun p=>match p with|_=>iW⟩
theorem O3:bf prog 11 Q3:=aX bp bw (bq:=bq) (np:=1) (an:=[]) .nil (by kernel_rfl) (by kernel_rfl)
def nd:Option (Sl Int):=some Sl.nil
def Q2:fZ:=⟨[(true,.nl 1)],[([.x (.sl (.i .i64))],[.nl 1])],false,[true],fun p=>match p with|_=>nd⟩
theorem Sp:bf prog 24 Q2:=aX bp bw (bq:=bq) (np:=1) (an:=[]) .nil (by kernel_rfl) (by kernel_rfl)
def ny:Option (Sl Int):=some Sl.nil
def Q1:fZ:=⟨[(true,.nl 1)],[([.x (.sl (.i .i64))],[.nl 1])],false,[true],fun p=>match p with|_=>ny⟩
theorem So:bf prog 22 Q1:=aX bp bw (bq:=bq) (np:=1) (an:=[]) .nil (by kernel_rfl) (by kernel_rfl)
def ot:Option (Sl Int):=some Sl.nil
def Q0:fZ:=⟨[(true,.nl 1)],[([.x (.sl (.i .i64))],[.nl 1])],false,[true],fun p=>match p with|_=>ot⟩
theorem Sn:bf prog 14 Q0:=aX bp bw (bq:=bq) (np:=1) (an:=[]) .nil (by kernel_rfl) (by kernel_rfl)
def oq:Option Int:=some 0
def QZ:fZ:=⟨[(true,.nl 1)],[([.x (.i .i64)],[.nl 1])],false,[true],fun p=>match p with|_=>oq⟩
theorem Sm:bf prog 30 QZ:=aX bp bw (bq:=bq) (np:=1) (an:=[]) .nil (by kernel_rfl) (by kernel_rfl)
def qk:Option Int:=some 0
def QY:fZ:=⟨[(true,.nl 1)],[([.x (.i .i64)],[.nl 1])],false,[true],fun p=>match p with|_=>qk⟩
theorem Sk:bf prog 12 QY:=aX bp bw (bq:=bq) (np:=1) (an:=[]) .nil (by kernel_rfl) (by kernel_rfl)
def Ab:Option aA:=some (⟨(-1),(mE (.ar 4 (.i .i64))),(mE (.ar 4 (.i .i64)))⟩:aA)
def QX:fZ:=⟨[],[([.x y1],[])],true,[],fun p=>match p with|_=>Ab⟩
theorem Sj:bf prog 120 QX:=aX bp bw (bq:=bq) (np:=0) (an:=[]) .nil (by kernel_rfl) (by kernel_rfl)
def Co(f_0:Int)(v_1:Int):Option aA:=
 (Ab).bind fun r1=>
 ((bif(((decide (f_0>=0))&&(decide (f_0<4)))&&(decide (v_1>=0)))then((nG f_0).bind fun r2=>
 some (decide (v_1<=r2)))else
 (some false):Option Bool).bind fun b3=>
 bif b3 then((nG f_0).bind fun r4=>
 (fw f_0 4).bind fun n5=>
 (fw f_0 4).bind fun n6=>
 some (⟨aA.o_ r1,Arr.set (aA.ES r1) n5 v_1,Arr.set (aA.tE r1) n6 r4⟩:aA))else
 (some r1):Option aA).bind fun x7=>
 some x7
def QW:fZ:=⟨[(false,.x (.i .i64)),(false,.x (.i .i64))],[([.x y1],[])],true,[],fun p=>match p with|(f_0,v_1)=>Co f_0 v_1⟩
theorem Si:bf prog 88 QW:=aX bp bw (bq:=bq) (np:=2) (an:=[(4,{e:=[(.normal,{vs:=[(5,.op 0 y1 [])],os:=[.bx y1 (.x y1)],kl:=[10]})]}),(6,{j:=some {vs:=[(22,.x .b)]}})]) (.cons Sj (.cons MV .nil)) (by kernel_rfl) (by kernel_rfl)
def zV(f_0:Int)(v_1:Int)(prio_2:Int):Option ae:=
 (Co f_0 v_1).bind fun r1=>
 some (⟨prio_2,r1,Sl.nil⟩:ae)
def QV:fZ:=⟨[(false,.x (.i .i64)),(false,.x (.i .i64)),(false,.x (.i .i64))],[([.x y0],[])],false,[],fun p=>match p with|(f_0,v_1,prio_2)=>zV f_0 v_1 prio_2⟩
theorem Sg:bf prog 51 QV:=aX bp bw (bq:=bq) (np:=3) (an:=[]) (.cons Si .nil) (by kernel_rfl) (by kernel_rfl)
def mb(f_0:Int)(v_1:Int)(prio_2:Int)(port_3:Int):Option ae:=
 (zV f_0 v_1 prio_2).bind fun r1=>
 some (⟨ae.uf r1,ae.M r1,(Sl.mk [(⟨2,0,port_3⟩:bY)])⟩:ae)
def QU:fZ:=⟨[(false,.x (.i .i64)),(false,.x (.i .i64)),(false,.x (.i .i64)),(false,.x (.i .i64))],[([.x y0],[])],false,[],fun p=>match p with|(f_0,v_1,prio_2,port_3)=>mb f_0 v_1 prio_2 port_3⟩
theorem Sf:bf prog 33 QU:=aX bp bw (bq:=bq) (np:=4) (an:=[]) (.cons Sg .nil) (by kernel_rfl) (by kernel_rfl)
def rF(a_0:ae)(b_1:ae):Option Bool:=some (decide ((ae.uf a_0)>(ae.uf b_1)))
def QT:fZ:=⟨[(false,.x y0),(false,.x y0)],[([.x .b],[])],true,[],fun p=>match p with|(a_0,b_1)=>rF a_0 b_1⟩
theorem O2:bf prog 41 QT:=aX bp bw (bq:=bq) (np:=2) (an:=[]) .nil (by kernel_rfl) (by kernel_rfl)
def wJ(y_0:ae)(c_1:ae):Option Bool:=
 (ve c_1 y_0).bind fun r1=>
 some r1
def QS:fZ:=⟨[(false,.x y0),(false,.pt y0)],[([.x .b],[])],true,[],fun p=>match p with|(y_0,c_1)=>wJ y_0 c_1⟩
theorem Se:bf prog 68 QS:=aX bp bw (bq:=bq) (np:=2) (an:=[]) (.cons Tf .nil) (by kernel_rfl) (by kernel_rfl)
def fh(s_0:Sl ae)(f_1_c0:ae):Int->Option (Int⊕(Int⊕Unit)):=fun i2=>
 bif decide (i2<(s_0.l.length:Int))then((fw i2 s_0.l.length).bind fun n3=>
 (wJ (gt s_0.l n3) f_1_c0).bind fun r4=>
 bif r4 then(some (.inr (.inl i2)))else
 (some (.inl (wr .i64 (i2+1)))))else
 (some (.inr (.inr ())))
def cF(s_0:Sl ae)(f_1_c0:ae):Option Int:=
 (gz (fh s_0 f_1_c0) 0).bind fun
 |.inl i5=>(some i5)
 |.inr _=>(some (-1))
def QR:fZ:=⟨[(false,.x (.sl y0)),(false,.fn 68 (.pr (.pt y0) .ni))],[([.x (.i .i64)],[])],true,[],fun p=>match p with|(s_0,f_1_c0)=>cF s_0 f_1_c0⟩
theorem Sd:bf prog 67 QR:=aX bp bw (bq:=bq) (np:=2) (an:=[(5,{j:=some {vs:=[(8,.x (.i .i64))]},e:=[(.ret,{vs:=[(4,.x (.i .i64))]}),(.exit 0,{})]})]) (.cons Se .nil) (by kernel_rfl) (by kernel_rfl)
def pf(t_0:Sl ae)(x_1:ae):Option Int:=
 (cF t_0 x_1).bind fun r1=>
 some r1
def QQ:fZ:=⟨[(false,.x (.sl y0)),(false,.x y0)],[([.x (.i .i64)],[])],true,[],fun p=>match p with|(t_0,x_1)=>pf t_0 x_1⟩
theorem MT:bf prog 42 QQ:=aX bp bw (bq:=bq) (np:=2) (an:=[]) (.cons Sd .nil) (by kernel_rfl) (by kernel_rfl)
def pp(t_0:Sl ae)(ports_1:Int):Int->Option (Int⊕(Bool⊕Unit)):=fun i2=>
 bif decide (i2<(t_0.l.length:Int))then((fw i2 t_0.l.length).bind fun n3=>
 ((nD (gt t_0.l n3) ports_1).bind fun r4=>
 bif(!r4)then(some true)else
 (bif decide (i2>0)then((fw (wr .i64 (i2-1)) t_0.l.length).bind fun n5=>
 (rF (gt t_0.l n3) (gt t_0.l n5)).bind fun r6=>
 some r6)else
 (some false)):Option Bool).bind fun b7=>
 bif b7 then(some (.inr (.inl false)))else
 ((pO t_0.l 0 i2).bind fun l8=>
 (pf (t_0.to l8) (gt t_0.l n3)).bind fun r9=>
 bif decide (r9>=0)then(some (.inr (.inl false)))else
 (some (.inl (wr .i64 (i2+1))))))else
 (some (.inr (.inr ())))
def pY(t_0:Sl ae)(ports_1:Int)(room_2:Int):Option Bool:=
 bif decide ((t_0.l.length:Int)>room_2)then(some false)else
 ((gz (pp t_0 ports_1) 0).bind fun
 |.inl b10=>(some b10)
 |.inr _=>(some true))
def QP:fZ:=⟨[(false,.x (.sl y0)),(false,.x (.i .i64)),(false,.x (.i .i64))],[([.x .b],[])],true,[],fun p=>match p with|(t_0,ports_1,room_2)=>pY t_0 ports_1 room_2⟩
theorem Sc:bf prog 19 QP:=aX bp bw (bq:=bq) (np:=3) (an:=[(10,{j:=some {vs:=[(15,.x (.i .i64))]},e:=[(.ret,{vs:=[(6,.x .b)]}),(.exit 0,{})]}),(19,{j:=some {vs:=[(36,.x .b)]}})]) (.cons MU (.cons O2 (.cons MT .nil))) (by kernel_rfl) (by kernel_rfl)
def fm(s_0:Sl ae):Option (Sl ae):=
 bif s_0.eS then(some Sl.nil)else
 ((mi ([]++s_0.l)).bind fun l1=>
 some (tg (Sl.mk []) s_0.l l1))
def QO:fZ:=⟨[(false,.x (.sl y0))],[([.x (.sl y0)],[])],false,[],fun p=>match p with|s_0=>fm s_0⟩
theorem O1:bf prog 31 QO:=aX bp bw (bq:=bq) (np:=1) (an:=[]) .nil (by kernel_rfl) (by kernel_rfl)
def rQ:Option (Sl Int):=some Sl.nil
def QN:fZ:=⟨[],[([.pb y7 (.st (.pr (.os (.i .i64)) .ni))],[])],false,[],fun p=>match p with|_=>rQ⟩
theorem O0:bf prog 50 QN:=aX bp bw (bq:=bq) (np:=0) (an:=[]) .nil (by kernel_rfl) (by kernel_rfl)
def mm(a_0_sw:Int)(a_0_room:Int)(a_0_up:Bool)(a_0_life:Int)(a_0_u:Int)(a_0_table:Sl ae)(a_0_done:Sl av):Option (Int×Int×Bool×Int×Int×Sl ae×Mp Int (Sl ai)×Mp Int Int×Sl Int×Sl av):=
 (rQ).bind fun s1=>
 some (a_0_sw,a_0_room,a_0_up,a_0_life,a_0_u,a_0_table,(Mp.none:Mp Int (Sl ai)),(Mp.none:Mp Int Int),s1,a_0_done)
def QM:fZ:=⟨[(true,.pb y8 (.st (.pr (.x (.i .i64)) (.pr (.x (.i .i64)) (.pr (.x .b) (.pr (.x (.i .i64)) (.pr (.x (.i .i64)) (.pr (.x (.sl y0)) (.pr (.nl 3) (.pr (.nl 3) (.pr (.nl 1) (.pr (.os y9) (.pr (.nl 3) .ni)))))))))))))],[([],[.pb y8 (.st (.pr (.x (.i .i64)) (.pr (.x (.i .i64)) (.pr (.x .b) (.pr (.x (.i .i64)) (.pr (.x (.i .i64)) (.pr (.x (.sl y0)) (.pr (.mp (.i .i64) (.sl y3)) (.pr (.mp (.i .i64) (.i .i64)) (.pr (.pb y7 (.st (.pr (.os (.i .i64)) .ni))) (.pr (.os y9) (.pr (.nl 3) .ni))))))))))))])],false,[true],fun p=>match p with|(a_0_sw,a_0_room,a_0_up,a_0_life,a_0_u,a_0_table,a_0_done)=>mm a_0_sw a_0_room a_0_up a_0_life a_0_u a_0_table a_0_done⟩
theorem Sb:bf prog 32 QM:=aX bp bw (bq:=bq) (np:=1) (an:=[]) (.cons O0 .nil) (by kernel_rfl) (by kernel_rfl)
def t6(sw_0:Int)(t_1:Sl ae)(room_2:Int):Option (Int⊕(Int×Int×Bool×Int×Int×Sl ae×Mp Int (Sl ai)×Mp Int Int×Sl Int×Sl av×Mp Int Int×Int)):=
 (bif((((decide (sw_0<0))||(decide (sw_0>=8)))||(decide (room_2<0)))||(decide (room_2>64)))then(some true)else
 ((pY t_1 8 room_2).bind fun r1=>
 some (!r1)):Option Bool).bind fun b2=>
 bif b2 then(some (.inl 2))else
 ((fm t_1).bind fun r3=>
 (mm sw_0 room_2 true 0 0 r3 Sl.nil).bind fun(q4,q5,q6,q7,q8,q9,q10,q11,s12,s13)=>
 some (.inr (q4,q5,q6,q7,q8,q9,q10,q11,s12,s13,(Mp.none:Mp Int Int),0)))
def QL:fZ:=⟨[(false,.x (.i .i64)),(false,.x (.sl y0)),(false,.x (.i .i64))],[([.nl 1,.x (.i .i64)],[]),([.pb y8 (.st (.pr (.x (.i .i64)) (.pr (.x (.i .i64)) (.pr (.x .b) (.pr (.x (.i .i64)) (.pr (.x (.i .i64)) (.pr (.x (.sl y0)) (.pr (.mp (.i .i64) (.sl y3)) (.pr (.mp (.i .i64) (.i .i64)) (.pr (.pb y7 (.st (.pr (.os (.i .i64)) .ni))) (.pr (.os y9) (.pr (.mp (.i .i64) (.i .i64)) .ni)))))))))))),.x (.i .i64)],[])],false,[],fun p=>match p with|(sw_0,t_1,room_2)=>t6 sw_0 t_1 room_2⟩
theorem Sa:bf prog 8 QL:=aX bp bw (bq:=bq) (np:=3) (an:=[(4,{j:=some {vs:=[(28,.x .b)]}})]) (.cons Sc (.cons O1 (.cons Sb .nil))) (by kernel_rfl) (by kernel_rfl)
def k_(a_0_sw:Int)(a_0_room:Int)(a_0_up:Bool)(a_0_life:Int)(a_0_u:Int)(a_0_table:Sl ae)(a_0_staged:Mp Int (Sl ai))(a_0_armed:Mp Int Int)(a_0_wait_l:Sl Int)(a_0_done:Sl av)(a_0_dead:Mp Int Int):Option (Bool×Int×Int×Bool×Int×Int×Sl ae×Mp Int (Sl ai)×Mp Int Int×Sl Int×Sl av×Mp Int Int):=some (a_0_up,a_0_sw,a_0_room,a_0_up,a_0_life,a_0_u,a_0_table,a_0_staged,a_0_armed,a_0_wait_l,a_0_done,a_0_dead)
def QK:fZ:=⟨[(true,.pb y8 (.st (.pr (.x (.i .i64)) (.pr (.x (.i .i64)) (.pr (.x .b) (.pr (.x (.i .i64)) (.pr (.x (.i .i64)) (.pr (.x (.sl y0)) (.pr (.mp (.i .i64) (.sl y3)) (.pr (.mp (.i .i64) (.i .i64)) (.pr (.pb y7 (.st (.pr (.os (.i .i64)) .ni))) (.pr (.os y9) (.pr (.mp (.i .i64) (.i .i64)) .ni)))))))))))))],[([.x .b],[.pb y8 (.st (.pr (.x (.i .i64)) (.pr (.x (.i .i64)) (.pr (.x .b) (.pr (.x (.i .i64)) (.pr (.x (.i .i64)) (.pr (.x (.sl y0)) (.pr (.mp (.i .i64) (.sl y3)) (.pr (.mp (.i .i64) (.i .i64)) (.pr (.pb y7 (.st (.pr (.os (.i .i64)) .ni))) (.pr (.os y9) (.pr (.mp (.i .i64) (.i .i64)) .ni))))))))))))])],false,[true],fun p=>match p with|(a_0_sw,a_0_room,a_0_up,a_0_life,a_0_u,a_0_table,a_0_staged,a_0_armed,a_0_wait_l,a_0_done,a_0_dead)=>k_ a_0_sw a_0_room a_0_up a_0_life a_0_u a_0_table a_0_staged a_0_armed a_0_wait_l a_0_done a_0_dead⟩
theorem OZ:bf prog 20 QK:=aX bp bw (bq:=bq) (np:=1) (an:=[]) .nil (by kernel_rfl) (by kernel_rfl)
def pE(q_0:Sl Int):Option Int:=some (q_0.l.length:Int)
def QJ:fZ:=⟨[(false,.pt y7)],[([.x (.i .i64)],[])],true,[],fun p=>match p with|q_0=>pE q_0⟩
theorem R_:bf prog 52 QJ:=aX bp bw (bq:=bq) (np:=1) (an:=[]) .nil (by kernel_rfl) (by kernel_rfl)
def lI(q_0:Sl Int):Option (Int×Bool):=
 (pE q_0).bind fun r1=>
 bif(r1==0)then(some (0,false))else
 ((fw 0 q_0.l.length).bind fun n2=>
 some (gt q_0.l n2,true))
def QI:fZ:=⟨[(false,.pt y7)],[([.x (.i .i64),.x .b],[])],true,[],fun p=>match p with|q_0=>lI q_0⟩
theorem R9:bf prog 34 QI:=aX bp bw (bq:=bq) (np:=1) (an:=[]) (.cons R_ .nil) (by kernel_rfl) (by kernel_rfl)
def uR:Option aw:=some (⟨0,(mE (.ar 16 .b)),(mE (.ar 16 y3)),0⟩:aw)
def QH:fZ:=⟨[],[([.pb sD (.x sD)],[])],false,[],fun p=>match p with|_=>uR⟩
theorem R8:bf prog 53 QH:=aX bp bw (bq:=bq) (np:=0) (an:=[]) .nil (by kernel_rfl) (by kernel_rfl)
def d_(b_0:aw):Option Int:=some (aw.xP b_0)
def QG:fZ:=⟨[(false,.pt sD)],[([.x (.i .i64)],[])],true,[],fun p=>match p with|b_0=>d_ b_0⟩
theorem KQ:bf prog 89 QG:=aX bp bw (bq:=bq) (np:=1) (an:=[]) .nil (by kernel_rfl) (by kernel_rfl)
def qi(a_0:ai)(b_1:ai):Option Bool:=
 (bif(((ai.fx a_0)==(ai.fx b_1))&&((ai.ur a_0)==(ai.ur b_1)))then((qS (ai.R a_0) (ai.R b_1)).bind fun r1=>
 some r1)else
 (some false):Option Bool).bind fun b2=>
 some b2
def QF:fZ:=⟨[(false,.x y3),(false,.x y3)],[([.x .b],[])],true,[],fun p=>match p with|(a_0,b_1)=>qi a_0 b_1⟩
theorem R7:bf prog 90 QF:=aX bp bw (bq:=bq) (np:=2) (an:=[(3,{j:=some {vs:=[(4,.x .b)]}})]) (.cons Te .nil) (by kernel_rfl) (by kernel_rfl)
def kJ(b_0:aw)(i_1:Int)(m_2:ai):Option (Int×aw):=
 (d_ b_0).bind fun r1=>
 bif(r1 !=0)then(some (16,b_0))else
 (bif((decide (i_1<0))||(decide (i_1>=16)))then(some (2,b_0))else
 (((fw i_1 16).bind fun n2=>
 bif gt ((aw.Ej b_0).1) n2 then((fw i_1 16).bind fun n3=>
 (qi (gt ((aw.l b_0).1) n3) m_2).bind fun r4=>
 some (!r4))else
 (some false):Option Bool).bind fun b5=>
 bif b5 then(some (8,b_0))else
 ((fw i_1 16).bind fun n6=>
 (fw i_1 16).bind fun n7=>
 some (0,(⟨aw.xP b_0,Arr.set (aw.Ej b_0) n6 true,Arr.set (aw.l b_0) n7 m_2,aw.n b_0⟩:aw)))))
def QE:fZ:=⟨[(true,.pb sD (.x sD)),(false,.x (.i .i64)),(false,.x y3)],[([.x (.i .i64)],[.pb sD (.x sD)])],false,[true,false,false],fun p=>match p with|(b_0,i_1,m_2)=>kJ b_0 i_1 m_2⟩
theorem R6:bf prog 54 QE:=aX bp bw (bq:=bq) (np:=3) (an:=[(12,{j:=some {vs:=[(18,.x .b)]}})]) (.cons KQ (.cons R7 .nil)) (by kernel_rfl) (by kernel_rfl)
def mY(b_0:aw):Int->Option (Int⊕(Int⊕Unit)):=fun i3=>
 bif decide (i3<16)then((fw i3 16).bind fun n4=>
 bif gt ((aw.Ej b_0).1) n4 then(some (.inr (.inl 8)))else
 (some (.inl (wr .i64 (i3+1)))))else
 (some (.inr (.inr ())))
def mX(b_0:aw)(n_1:Int):Int->Option (Int⊕(Int⊕Unit)):=fun i7=>
 bif decide (i7<n_1)then((fw i7 16).bind fun n8=>
 bif(!(gt ((aw.Ej b_0).1) n8))then(some (.inr (.inl 7)))else
 (some (.inl (wr .i64 (i7+1)))))else
 (some (.inr (.inr ())))
def jH(b_0:aw)(n_1:Int):Option (Int×aw):=
 (d_ b_0).bind fun r1=>
 bif(r1==2)then(some (16,b_0))else
 (bif(((aw.xP b_0)==1)&&(n_1==(aw.n b_0)))then(some (0,b_0))else
 (bif((((aw.xP b_0)==1)||(decide (n_1<0)))||(decide (n_1>16)))then(some (2,b_0))else
 ((gz (mY b_0) n_1).bind fun
 |.inl i5=>(some (i5,b_0))
 |.inr _=>((gz (mX b_0 n_1) 0).bind fun
 |.inl i9=>(some (i9,b_0))
 |.inr _=>(some (0,(⟨1,aw.Ej b_0,aw.l b_0,n_1⟩:aw)))))))
def QD:fZ:=⟨[(true,.pb sD (.x sD)),(false,.x (.i .i64))],[([.x (.i .i64)],[.pb sD (.x sD)])],false,[true,false],fun p=>match p with|(b_0,n_1)=>jH b_0 n_1⟩
theorem R5:bf prog 55 QD:=aX bp bw (bq:=bq) (np:=2) (an:=[(18,{j:=some {vs:=[(5,.x (.i .i64))]},e:=[(.ret,{vs:=[(4,.x (.i .i64))]}),(.exit 1,{})]}),(31,{j:=some {vs:=[(51,.x (.i .i64))]},e:=[(.ret,{vs:=[(4,.x (.i .i64))]}),(.exit 3,{})]})]) (.cons KQ .nil) (by kernel_rfl) (by kernel_rfl)
def tj(l_0:Sl ai):(Int×aw)->Option ((Int×aw)⊕aw):=fun(i5,x6)=>
 bif decide (i5<(l_0.l.length:Int))then((fw i5 l_0.l.length).bind fun n7=>
 (kJ x6 i5 (gt l_0.l n7)).bind fun(r8,q9)=>
 some (.inl (wr .i64 (i5+1),q9)))else
 (some (.inr x6))
def tn(l_0:Sl ai):Option (Unit⊕aw):=
 (uR).bind fun r1=>
 (gz (tj l_0) (0,r1)).bind fun x10=>
 (jH x10 (l_0.l.length:Int)).bind fun(r11,q12)=>
 bif(r11 !=0)then(some (.inl ()))else
 (some (.inr q12))
def QC:fZ:=⟨[(false,.x (.sl y3))],[([.nl 1],[]),([.pb sD (.x sD)],[])],false,[],fun p=>match p with|l_0=>tn l_0⟩
theorem OY:bf prog 35 QC:=aX bp bw (bq:=bq) (np:=1) (an:=[(7,{j:=some {vs:=[(3,.op 0 sD []),(9,.x (.i .i64))],os:=[.bx sD (.x sD)],kl:=[0]},e:=[(.exit 0,{vs:=[(3,.op 0 sD [])],os:=[.bx sD (.x sD)],kl:=[0]})]})]) (.cons R8 (.cons R6 (.cons R5 .nil))) (by kernel_rfl) (by kernel_rfl)
def gY:Option Int:=some 2
def QB:fZ:=⟨[(false,.nl 1)],[([.x (.i .i64)],[])],true,[],fun p=>match p with|_=>gY⟩
theorem OX:bf prog 89 QB:=aX bp bw (bq:=bq) (np:=1) (an:=[]) .nil (by kernel_rfl) (by kernel_rfl)
def gg:Option (Sl ai):=
 (gY).bind fun r1=>
 bif(r1 !=1)then(some Sl.nil)else
 (none)
def QA:fZ:=⟨[(true,.nl 1)],[([.x (.sl y3)],[.nl 1])],false,[true],fun p=>match p with|_=>gg⟩
theorem OW:bf prog 58 QA:=aX bp bw (bq:=bq) (np:=1) (an:=[]) (.cons OX .nil) (by kernel_rfl) (by kernel_rfl)
def qz(a_0:aA)(b_1:aA):(Int×aA×aA)->Option ((Int×aA×aA)⊕((Bool×aA)⊕(aA×aA))):=fun(i5,x6,x7)=>
 bif decide (i5<4)then((fw i5 4).bind fun n8=>
 (fw i5 4).bind fun n9=>
 (fw i5 4).bind fun n10=>
 (fw i5 4).bind fun n11=>
 bif((uS .i64 (uS .i64 (LL .i64 (gt ((aA.ES a_0).1) n8) (gt ((aA.ES b_1).1) n9)) (gt ((aA.tE a_0).1) n10)) (gt ((aA.tE b_1).1) n11)) !=0)then(some (.inr (.inl (false,(⟨0,(mE (.ar 4 (.i .i64))),(mE (.ar 4 (.i .i64)))⟩:aA)))))else
 ((fw i5 4).bind fun n12=>
 (fw i5 4).bind fun n13=>
 (fw i5 4).bind fun n14=>
 (fw i5 4).bind fun n15=>
 (fw i5 4).bind fun n16=>
 (fw i5 4).bind fun n17=>
 some (.inl (wr .i64 (i5+1),x6,(⟨aA.o_ x7,Arr.set (aA.ES x7) n16 (PL .i64 (gt ((aA.ES a_0).1) n12) (gt ((aA.ES b_1).1) n13)),Arr.set (aA.tE x7) n17 (PL .i64 (gt ((aA.tE a_0).1) n14) (gt ((aA.tE b_1).1) n15))⟩:aA)))))else
 (some (.inr (.inr (x6,x7))))
def pz(a_0:aA)(b_1:aA):Option (aA×Bool):=
 bif((((aA.o_ a_0) !=(aA.o_ b_1))&&((aA.o_ a_0) !=(-1)))&&((aA.o_ b_1) !=(-1)))then(some ((⟨0,(mE (.ar 4 (.i .i64))),(mE (.ar 4 (.i .i64)))⟩:aA),false))else
 ((gz (qz a_0 b_1) (0,(⟨0,(mE (.ar 4 (.i .i64))),(mE (.ar 4 (.i .i64)))⟩:aA),(⟨(if(aA.o_ b_1)>(aA.o_ a_0)then(aA.o_ b_1)else(aA.o_ a_0)),(mE (.ar 4 (.i .i64))),(mE (.ar 4 (.i .i64)))⟩:aA))).bind fun
 |.inl (b18,x19)=>(some (x19,b18))
 |.inr (x20,x21)=>(some (x21,true)))
def Qz:fZ:=⟨[(false,.x y1),(false,.x y1)],[([.x y1,.x .b],[])],true,[],fun p=>match p with|(a_0,b_1)=>pz a_0 b_1⟩
theorem OV:bf prog 158 Qz:=aX bp bw (bq:=bq) (np:=2) (an:=[(12,{j:=some {vs:=[(4,.op 0 y1 []),(6,.op 1 y1 []),(30,.x (.i .i64))],os:=[.bx y1 (.x y1),.bx y1 (.x y1)],kl:=[2,3]},e:=[(.ret,{vs:=[(4,.op 0 y1 []),(5,.x .b)],os:=[.bx y1 (.x y1)],kl:=[2,3]}),(.exit 0,{vs:=[(4,.op 0 y1 []),(6,.op 1 y1 [])],os:=[.bx y1 (.x y1),.bx y1 (.x y1)],kl:=[2,3]})]})]) .nil (by kernel_rfl) (by kernel_rfl)
def nN(a_0:ae)(b_1:ae):Option Bool:=
 (pz (ae.M a_0) (ae.M b_1)).bind fun(r1,r2)=>
 some ((((ae.uf a_0)==(ae.uf b_1))&&(!(decide ((ae.M a_0)=(ae.M b_1)))))&&r2)
def Qy:fZ:=⟨[(false,.x y0),(false,.x y0)],[([.x .b],[])],true,[],fun p=>match p with|(a_0,b_1)=>nN a_0 b_1⟩
theorem R4:bf prog 155 Qy:=aX bp bw (bq:=bq) (np:=2) (an:=[]) (.cons OV .nil) (by kernel_rfl) (by kernel_rfl)
def pX(y_0:ae)(c_1:ae):Option Bool:=
 (nN c_1 y_0).bind fun r1=>
 some r1
def Qx:fZ:=⟨[(false,.x y0),(false,.pt y0)],[([.x .b],[])],true,[],fun p=>match p with|(y_0,c_1)=>pX y_0 c_1⟩
theorem R3:bf prog 154 Qx:=aX bp bw (bq:=bq) (np:=2) (an:=[]) (.cons R4 .nil) (by kernel_rfl) (by kernel_rfl)
def du(s_0:Sl ae)(f_1_c0:ae):Int->Option (Int⊕(Int⊕Unit)):=fun i2=>
 bif decide (i2<(s_0.l.length:Int))then((fw i2 s_0.l.length).bind fun n3=>
 (pX (gt s_0.l n3) f_1_c0).bind fun r4=>
 bif r4 then(some (.inr (.inl i2)))else
 (some (.inl (wr .i64 (i2+1)))))else
 (some (.inr (.inr ())))
def cH(s_0:Sl ae)(f_1_c0:ae):Option Int:=
 (gz (du s_0 f_1_c0) 0).bind fun
 |.inl i5=>(some i5)
 |.inr _=>(some (-1))
def Qw:fZ:=⟨[(false,.x (.sl y0)),(false,.fn 154 (.pr (.pt y0) .ni))],[([.x (.i .i64)],[])],true,[],fun p=>match p with|(s_0,f_1_c0)=>cH s_0 f_1_c0⟩
theorem R1:bf prog 67 Qw:=aX bp bw (bq:=bq) (np:=2) (an:=[(5,{j:=some {vs:=[(8,.x (.i .i64))]},e:=[(.ret,{vs:=[(4,.x (.i .i64))]}),(.exit 0,{})]})]) (.cons R3 .nil) (by kernel_rfl) (by kernel_rfl)
def ct(s_0:Sl ae)(f_1_c0:ae):Option Bool:=
 (cH s_0 f_1_c0).bind fun r1=>
 some (decide (r1>=0))
def Qv:fZ:=⟨[(false,.x (.sl y0)),(false,.fn 154 (.pr (.pt y0) .ni))],[([.x .b],[])],true,[],fun p=>match p with|(s_0,f_1_c0)=>ct s_0 f_1_c0⟩
theorem R0:bf prog 153 Qv:=aX bp bw (bq:=bq) (np:=2) (an:=[]) (.cons R1 .nil) (by kernel_rfl) (by kernel_rfl)
def bt(s_0:Sl ae):Option (Sl ae):=
 bif s_0.eS then(some Sl.nil)else
 ((mi ([]++s_0.l)).bind fun l1=>
 some (tg (Sl.mk []) s_0.l l1))
def Qu:fZ:=⟨[(false,.x (.sl y0))],[([.os y0],[])],false,[],fun p=>match p with|s_0=>bt s_0⟩
theorem KP:bf prog 31 Qu:=aX bp bw (bq:=bq) (np:=1) (an:=[]) .nil (by kernel_rfl) (by kernel_rfl)
def kS(t_0:Sl ae)(at_1:Int)(l_2:Sl bY):Option (Sl ae):=
 (bt t_0).bind fun s1=>
 (fw at_1 s1.l.length).bind fun n2=>
 some (Sl.mk (s1.l.set n2 (⟨ae.uf (gt s1.l n2),ae.M (gt s1.l n2),l_2⟩:ae)))
def Qt:fZ:=⟨[(false,.x (.sl y0)),(false,.x (.i .i64)),(false,.x (.sl y2))],[([.x (.sl y0)],[])],false,[],fun p=>match p with|(t_0,at_1,l_2)=>kS t_0 at_1 l_2⟩
theorem OU:bf prog 128 Qt:=aX bp bw (bq:=bq) (np:=3) (an:=[]) (.cons KP .nil) (by kernel_rfl) (by kernel_rfl)
def wK(y_0:ae)(c_1:ae):Option Bool:=
 (rF c_1 y_0).bind fun r1=>
 some r1
def Qs:fZ:=⟨[(false,.x y0),(false,.pt y0)],[([.x .b],[])],true,[],fun p=>match p with|(y_0,c_1)=>wK y_0 c_1⟩
theorem RZ:bf prog 156 Qs:=aX bp bw (bq:=bq) (np:=2) (an:=[]) (.cons O2 .nil) (by kernel_rfl) (by kernel_rfl)
def fk(s_0:Sl ae)(f_1_c0:ae):Int->Option (Int⊕(Int⊕Unit)):=fun i2=>
 bif decide (i2<(s_0.l.length:Int))then((fw i2 s_0.l.length).bind fun n3=>
 (wK (gt s_0.l n3) f_1_c0).bind fun r4=>
 bif r4 then(some (.inr (.inl i2)))else
 (some (.inl (wr .i64 (i2+1)))))else
 (some (.inr (.inr ())))
def cG(s_0:Sl ae)(f_1_c0:ae):Option Int:=
 (gz (fk s_0 f_1_c0) 0).bind fun
 |.inl i5=>(some i5)
 |.inr _=>(some (-1))
def Qr:fZ:=⟨[(false,.x (.sl y0)),(false,.fn 156 (.pr (.pt y0) .ni))],[([.x (.i .i64)],[])],true,[],fun p=>match p with|(s_0,f_1_c0)=>cG s_0 f_1_c0⟩
theorem RY:bf prog 67 Qr:=aX bp bw (bq:=bq) (np:=2) (an:=[(5,{j:=some {vs:=[(8,.x (.i .i64))]},e:=[(.ret,{vs:=[(4,.x (.i .i64))]}),(.exit 0,{})]})]) (.cons RZ .nil) (by kernel_rfl) (by kernel_rfl)
theorem RX:bf prog 157 (IZ y0):=Na bp (bq:=bq) (nt:=95) (tl:=Pr (bG y0) 168 false [true,false]) (z:=ng y0) (by kernel_rfl) (by kernel_rfl)
def tG(t_0:Sl ae)(m_1:ai)(room_2:Int):Option (Sl ae×Int):=
 (bif ai.ur m_1 then((ct t_0 (ai.R m_1)).bind fun r1=>
 some r1)else
 (some false):Option Bool).bind fun b2=>
 bif b2 then(some (t_0,14))else
 ((pf t_0 (ai.R m_1)).bind fun r3=>
 bif decide (r3>=0)then((kS t_0 r3 (ae.pd (ai.R m_1))).bind fun r4=>
 some (r4,0))else
 (bif decide ((t_0.l.length:Int)>=room_2)then(some (t_0,6))else
 ((cG t_0 (ai.R m_1)).bind fun r5=>
 (bif decide (r5<0)then(some (t_0.l.length:Int))else
 (some r5):Option Int).bind fun i6=>
 (bt t_0).bind fun s7=>
 (Ei s7 i6 (Sl.mk [ai.R m_1])).bind fun s8=>
 some (s8,0))))
def Qq:fZ:=⟨[(false,.x (.sl y0)),(false,.x y3),(false,.x (.i .i64))],[([.x (.sl y0),.x (.i .i64)],[])],false,[],fun p=>match p with|(t_0,m_1,room_2)=>tG t_0 m_1 room_2⟩
theorem RW:bf prog 122 Qq:=aX bp bw (bq:=bq) (np:=3) (an:=[(6,{j:=some {vs:=[(19,.x .b)]}}),(23,{e:=[(.normal,{vs:=[(10,.x (.i .i64))]})]})]) (.cons R0 (.cons MT (.cons OU (.cons RY (.cons KP (.cons RX .nil)))))) (by kernel_rfl) (by kernel_rfl)
def mQ(a_0:aA)(b_1:aA):Option Bool:=
 (pz a_0 b_1).bind fun(r1,r2)=>
 some (r2&&(decide (r1=a_0)))
def Qp:fZ:=⟨[(false,.x y1),(false,.x y1)],[([.x .b],[])],true,[],fun p=>match p with|(a_0,b_1)=>mQ a_0 b_1⟩
theorem OT:bf prog 126 Qp:=aX bp bw (bq:=bq) (np:=2) (an:=[]) (.cons OV .nil) (by kernel_rfl) (by kernel_rfl)
def ov(x_1:ae)(s1:Sl ae):(Int×Sl ae)->Option ((Int×Sl ae)⊕(Sl ae)):=fun(i5,s6)=>
 bif decide (i5<(s1.l.length:Int))then(((fw i5 s6.l.length).bind fun n7=>
 (mQ (ae.M (gt s6.l n7)) (ae.M x_1)).bind fun r8=>
 bif r8 then((fw i5 s6.l.length).bind fun n9=>
 some (Sl.mk (s6.l.set n9 (⟨ae.uf (gt s6.l n9),ae.M (gt s6.l n9),ae.pd x_1⟩:ae))))else
 (some s6):Option (Sl ae)).bind fun s10=>
 some (.inl (wr .i64 (i5+1),s10)))else
 (some (.inr s6))
def oU(t_0:Sl ae)(x_1:ae):Option (Sl ae):=
 (bt t_0).bind fun s1=>
 (gz (ov x_1 s1) (0,s1)).bind fun s11=>
 some s11
def Qo:fZ:=⟨[(false,.x (.sl y0)),(false,.x y0)],[([.x (.sl y0)],[])],false,[],fun p=>match p with|(t_0,x_1)=>oU t_0 x_1⟩
theorem RU:bf prog 123 Qo:=aX bp bw (bq:=bq) (np:=2) (an:=[(7,{j:=some {vs:=[(0,.so 0),(9,.so 0),(11,.x (.i .i64))],os:=[.ar y0],kl:=[1]},e:=[(.exit 0,{vs:=[(0,.so 0)],os:=[.ar y0],kl:=[1]})]}),(11,{e:=[(.normal,{vs:=[(0,.so 0),(9,.so 0)],os:=[.ar y0],kl:=[2]})]})]) (.cons KP (.cons OT .nil)) (by kernel_rfl) (by kernel_rfl)
def lQ(y_0:ae)(c_1:ai):Option Bool:=
 (mQ (ae.M y_0) (ae.M (ai.R c_1))).bind fun r1=>
 some r1
def Qn:fZ:=⟨[(false,.x y0),(false,.pt y3)],[([.x .b],[])],true,[],fun p=>match p with|(y_0,c_1)=>lQ y_0 c_1⟩
theorem OS:bf prog 125 Qn:=aX bp bw (bq:=bq) (np:=2) (an:=[]) (.cons OT .nil) (by kernel_rfl) (by kernel_rfl)
def da(s_0:Sl ae)(f_1_c0:ai):Int->Option (Int⊕(Int⊕Unit)):=fun i2=>
 bif decide (i2<(s_0.l.length:Int))then((fw i2 s_0.l.length).bind fun n3=>
 (lQ (gt s_0.l n3) f_1_c0).bind fun r4=>
 bif r4 then(some (.inr (.inl i2)))else
 (some (.inl (wr .i64 (i2+1)))))else
 (some (.inr (.inr ())))
def cA(s_0:Sl ae)(f_1_c0:ai):Option Int:=
 (gz (da s_0 f_1_c0) 0).bind fun
 |.inl i5=>(some i5)
 |.inr _=>(some (-1))
def Qm:fZ:=⟨[(false,.x (.sl y0)),(false,.fn 125 (.pr (.pt y3) .ni))],[([.x (.i .i64)],[])],true,[],fun p=>match p with|(s_0,f_1_c0)=>cA s_0 f_1_c0⟩
theorem RS:bf prog 67 Qm:=aX bp bw (bq:=bq) (np:=2) (an:=[(5,{j:=some {vs:=[(8,.x (.i .i64))]},e:=[(.ret,{vs:=[(4,.x (.i .i64))]}),(.exit 0,{})]})]) (.cons OS .nil) (by kernel_rfl) (by kernel_rfl)
def cW(del_1_c0:ai):(Int×Int×Sl ae)->Option ((Int×Int×Sl ae)⊕(Int×Sl ae)):=fun(i7,i8,s9)=>
 bif decide (i8<(s9.l.length:Int))then(((fw i8 s9.l.length).bind fun n10=>
 (lQ (gt s9.l n10) del_1_c0).bind fun r11=>
 bif(!r11)then((fw i7 s9.l.length).bind fun n12=>
 some (wr .i64 (i7+1),(Sl.mk (s9.l.set n12 (gt s9.l n10)))))else
 (some (i7,s9)):Option (Int×Sl ae)).bind fun(i13,s14)=>
 some (.inl (i13,wr .i64 (i8+1),s14)))else
 (some (.inr (i7,s9)))
def cq(s_0:Sl ae)(del_1_c0:ai):Option (Sl ae):=
 (cA s_0 del_1_c0).bind fun r1=>
 bif(r1==(-1))then(some s_0)else
 ((gz (cW del_1_c0) (r1,wr .i64 (r1+1),s_0)).bind fun(i15,s16)=>
 (pO s16.l i15 s16.l.length).bind fun l17=>
 (Hc s16 i15.toNat ((s16.to l17).l).length (⟨0,(⟨0,(mE (.ar 4 (.i .i64))),(mE (.ar 4 (.i .i64)))⟩:aA),Sl.nil⟩:ae)).bind fun s18=>
 (pO s18.l 0 i15).bind fun l19=>
 some (s18.to l19))
def Ql:fZ:=⟨[(true,.os y0),(false,.fn 125 (.pr (.pt y3) .ni))],[([.x (.sl y0)],[.gn])],false,[true,false],fun p=>match p with|(s_0,del_1_c0)=>cq s_0 del_1_c0⟩
theorem RQ:bf prog 124 Ql:=aX bp bw (bq:=bq) (np:=2) (an:=[(12,{j:=some {vs:=[(0,.so 0),(5,.x (.i .i64)),(6,.x (.i .i64))],gs:=(.co (.so 0) .ni),os:=[.ar y0],kl:=[0]},e:=[(.exit 0,{vs:=[(0,.so 0),(5,.x (.i .i64))],gs:=(.co (.so 0) .ni),os:=[.ar y0],kl:=[0]})]}),(16,{e:=[(.normal,{vs:=[(0,.so 0),(5,.x (.i .i64))],gs:=(.co (.so 0) .ni),os:=[.ar y0],kl:=[2]})]})]) (.cons RS (.cons OS .nil)) (by kernel_rfl) (by kernel_rfl)
def oT(t_0:Sl ae)(x_1:ae):Option (Int×Int):=
 (pf t_0 x_1).bind fun r1=>
 bif decide (r1<0)then(some (r1,7))else
 (some (r1,0))
def Qk:fZ:=⟨[(false,.x (.sl y0)),(false,.x y0)],[([.x (.i .i64),.x (.i .i64)],[])],true,[],fun p=>match p with|(t_0,x_1)=>oT t_0 x_1⟩
theorem RP:bf prog 127 Qk:=aX bp bw (bq:=bq) (np:=2) (an:=[]) (.cons MT .nil) (by kernel_rfl) (by kernel_rfl)
theorem RN:bf prog 129 (Jl y0):=NE bp (bq:=bq) (nt:=33) (z:=ng y0) (by kernel_rfl) (by kernel_rfl)
def pZ(t_0:Sl ae)(m_1:ai)(ports_2:Int)(room_3:Int):Option (Sl ae×Int):=
 (nD (ai.R m_1) ports_2).bind fun r1=>
 bif(!r1)then(some (t_0,2))else
 (bif((ai.fx m_1)==1)then((tG t_0 m_1 room_3).bind fun(r2,r3)=>
 some (r2,r3))else
 (bif((ai.fx m_1)==2)then((oU t_0 (ai.R m_1)).bind fun r4=>
 some (r4,0))else
 (bif((ai.fx m_1)==4)then((bt t_0).bind fun s5=>
 (cq s5 m_1).bind fun r6=>
 some (r6,0))else
 ((bif((ai.fx m_1)==3)then(some ((ai.fx m_1)==3))else
 (some ((ai.fx m_1)==5)):Option Bool).bind fun b7=>
 bif b7 then((oT t_0 (ai.R m_1)).bind fun(r8,r9)=>
 bif(r9 !=0)then(some (t_0,r9))else
 (bif((ai.fx m_1)==3)then((kS t_0 r8 (ae.pd (ai.R m_1))).bind fun r10=>
 some (r10,0))else
 ((bt t_0).bind fun s11=>
 (G5 s11 r8 (wr .i64 (r8+1))).bind fun s12=>
 some (s12,0))))else
 (some (t_0,2))))))
def Qj:fZ:=⟨[(false,.x (.sl y0)),(false,.x y3),(false,.x (.i .i64)),(false,.x (.i .i64))],[([.x (.sl y0),.x (.i .i64)],[])],false,[],fun p=>match p with|(t_0,m_1,ports_2,room_3)=>pZ t_0 m_1 ports_2 room_3⟩
theorem RM:bf prog 91 Qj:=aX bp bw (bq:=bq) (np:=4) (an:=[(22,{e:=[(.normal,{vs:=[(40,.x .b)]})]})]) (.cons MU (.cons RW (.cons RU (.cons KP (.cons RQ (.cons RP (.cons OU (.cons RN .nil)))))))) (by kernel_rfl) (by kernel_rfl)
def qr(t_0:Sl ae)(l_1:Sl ai)(ports_2:Int)(room_3:Int):(Sl ae×Int)->Option ((Sl ae×Int)⊕((Sl ae×Int×Int)⊕(Sl ae))):=fun(s3,i4)=>
 bif decide (i4<(l_1.l.length:Int))then((fw i4 l_1.l.length).bind fun n5=>
 (pZ s3 (gt l_1.l n5) ports_2 room_3).bind fun(r6,r7)=>
 bif(r7 !=0)then(some (.inr (.inl (t_0,i4,r7))))else
 (some (.inl (r6,wr .i64 (i4+1)))))else
 (some (.inr (.inr s3)))
def l_(t_0:Sl ae)(l_1:Sl ai)(ports_2:Int)(room_3:Int):Option (Sl ae×Int×Int):=
 (gz (qr t_0 l_1 ports_2 room_3) (t_0,0)).bind fun
 |.inl (s8,i9,i10)=>(some (s8,i9,i10))
 |.inr s11=>(some (s11,(-1),0))
def Qi:fZ:=⟨[(false,.x (.sl y0)),(false,.x (.sl y3)),(false,.x (.i .i64)),(false,.x (.i .i64))],[([.x (.sl y0),.x (.i .i64),.x (.i .i64)],[])],false,[],fun p=>match p with|(t_0,l_1,ports_2,room_3)=>l_ t_0 l_1 ports_2 room_3⟩
theorem KO:bf prog 57 Qi:=aX bp bw (bq:=bq) (np:=4) (an:=[(7,{j:=some {vs:=[(11,.x (.sl y0)),(18,.x (.i .i64))]},e:=[(.ret,{vs:=[(8,.x (.sl y0)),(9,.x (.i .i64)),(10,.x (.i .i64))]}),(.exit 0,{vs:=[(11,.x (.sl y0))]})]})]) (.cons RM .nil) (by kernel_rfl) (by kernel_rfl)
def fV(t_1:Sl ae)(ports_2:Int)(room_3:Int):Option Int:=
 (gY).bind fun r1=>
 bif(r1 !=1)then(some 16)else
 ((gg).bind fun r2=>
 (l_ t_1 r2 ports_2 room_3).bind fun(r3,r4,r5)=>
 some r5)
def Qh:fZ:=⟨[(true,.nl 1),(false,.x (.sl y0)),(false,.x (.i .i64)),(false,.x (.i .i64))],[([.x (.i .i64)],[.nl 1])],false,[true,false,false,false],fun p=>match p with|(t_1,ports_2,room_3)=>fV t_1 ports_2 room_3⟩
theorem OR:bf prog 56 Qh:=aX bp bw (bq:=bq) (np:=4) (an:=[]) (.cons OX (.cons OW (.cons KO .nil))) (by kernel_rfl) (by kernel_rfl)
def jc:Option Unit:=some ()
def Qg:fZ:=⟨[(true,.nl 1)],[([],[.nl 1])],false,[true],fun p=>match p with|_=>jc⟩
theorem RL:bf prog 59 Qg:=aX bp bw (bq:=bq) (np:=1) (an:=[]) .nil (by kernel_rfl) (by kernel_rfl)
def gO(t_1:Sl ae)(ports_2:Int)(room_3:Int):Option (Sl ae×Int):=
 (fV t_1 ports_2 room_3).bind fun r1=>
 bif(r1 !=0)then(some (t_1,r1))else
 ((gg).bind fun r2=>
 (l_ t_1 r2 ports_2 room_3).bind fun(r3,r4,r5)=>
 (jc).bind fun _=>
 some (r3,0))
def Qf:fZ:=⟨[(true,.nl 1),(false,.x (.sl y0)),(false,.x (.i .i64)),(false,.x (.i .i64))],[([.x (.sl y0),.x (.i .i64)],[.nl 1])],false,[true,false,false,false],fun p=>match p with|(t_1,ports_2,room_3)=>gO t_1 ports_2 room_3⟩
theorem RK:bf prog 36 Qf:=aX bp bw (bq:=bq) (np:=4) (an:=[]) (.cons OR (.cons OW (.cons KO (.cons RL .nil)))) (by kernel_rfl) (by kernel_rfl)
def nu(b_0:aw):(Int×Sl ai)->Option ((Int×Sl ai)⊕(Sl ai)):=fun(i5,s6)=>
 bif decide (i5<(aw.n b_0))then((fw i5 16).bind fun n7=>
 (mi (s6.l++[gt ((aw.l b_0).1) n7])).bind fun l8=>
 some (.inl (wr .i64 (i5+1),(Sl.mk l8))))else
 (some (.inr s6))
def iO(b_0:aw):Option (Sl ai×aw):=
 (d_ b_0).bind fun r1=>
 bif(r1 !=1)then(some (Sl.nil,b_0))else
 ((gz (nu b_0) (0,Sl.nil)).bind fun s9=>
 some (s9,b_0))
def Qe:fZ:=⟨[(true,.pb sD (.x sD))],[([.x (.sl y3)],[.pb sD (.x sD)])],false,[true],fun p=>match p with|b_0=>iO b_0⟩
theorem OQ:bf prog 58 Qe:=aX bp bw (bq:=bq) (np:=1) (an:=[(12,{j:=some {vs:=[(3,.so 0),(12,.x (.i .i64))],os:=[.ar y3]},e:=[(.exit 0,{vs:=[(3,.so 0)],os:=[.ar y3]})]})]) (.cons KQ .nil) (by kernel_rfl) (by kernel_rfl)
def ie(b_0:aw)(t_1:Sl ae)(ports_2:Int)(room_3:Int):Option (Int×aw):=
 (d_ b_0).bind fun r1=>
 bif(r1 !=1)then(some (16,b_0))else
 ((iO b_0).bind fun(r2,q3)=>
 (l_ t_1 r2 ports_2 room_3).bind fun(r4,r5,r6)=>
 some (r6,q3))
def Qd:fZ:=⟨[(true,.pb sD (.x sD)),(false,.x (.sl y0)),(false,.x (.i .i64)),(false,.x (.i .i64))],[([.x (.i .i64)],[.pb sD (.x sD)])],false,[true,false,false,false],fun p=>match p with|(b_0,t_1,ports_2,room_3)=>ie b_0 t_1 ports_2 room_3⟩
theorem OO:bf prog 56 Qd:=aX bp bw (bq:=bq) (np:=4) (an:=[]) (.cons KQ (.cons OQ (.cons KO .nil))) (by kernel_rfl) (by kernel_rfl)
def kA(b_0:aw):Option aw:=some (⟨2,(mE (.ar 16 .b)),(mE (.ar 16 y3)),0⟩:aw)
def Qc:fZ:=⟨[(true,.pb sD (.x sD))],[([],[.pb sD (.x sD)])],false,[true],fun p=>match p with|b_0=>kA b_0⟩
theorem RJ:bf prog 59 Qc:=aX bp bw (bq:=bq) (np:=1) (an:=[]) .nil (by kernel_rfl) (by kernel_rfl)
def jm(b_0:aw)(t_1:Sl ae)(ports_2:Int)(room_3:Int):Option (Sl ae×Int×aw):=
 (ie b_0 t_1 ports_2 room_3).bind fun(r1,q2)=>
 bif(r1 !=0)then(some (t_1,r1,q2))else
 ((iO q2).bind fun(r3,q4)=>
 (l_ t_1 r3 ports_2 room_3).bind fun(r5,r6,r7)=>
 (kA q4).bind fun q8=>
 some (r5,0,q8))
def Qb:fZ:=⟨[(true,.pb sD (.x sD)),(false,.x (.sl y0)),(false,.x (.i .i64)),(false,.x (.i .i64))],[([.x (.sl y0),.x (.i .i64)],[.pb sD (.x sD)])],false,[true,false,false,false],fun p=>match p with|(b_0,t_1,ports_2,room_3)=>jm b_0 t_1 ports_2 room_3⟩
theorem RI:bf prog 36 Qb:=aX bp bw (bq:=bq) (np:=4) (an:=[]) (.cons OO (.cons OQ (.cons KO (.cons RJ .nil)))) (by kernel_rfl) (by kernel_rfl)
def mw(s_0:Sl Int)(v_1:Int):Int->Option (Int⊕(Int⊕Unit)):=fun i2=>
 bif decide (i2<(s_0.l.length:Int))then((fw i2 s_0.l.length).bind fun n3=>
 bif(v_1==(gt s_0.l n3))then(some (.inr (.inl i2)))else
 (some (.inl (wr .i64 (i2+1)))))else
 (some (.inr (.inr ())))
def jg(s_0:Sl Int)(v_1:Int):Option Int:=
 (gz (mw s_0 v_1) 0).bind fun
 |.inl i4=>(some i4)
 |.inr _=>(some (-1))
def Qa:fZ:=⟨[(false,.x (.sl (.i .i64))),(false,.x (.i .i64))],[([.x (.i .i64)],[])],true,[],fun p=>match p with|(s_0,v_1)=>jg s_0 v_1⟩
theorem RH:bf prog 92 Qa:=aX bp bw (bq:=bq) (np:=2) (an:=[(5,{j:=some {vs:=[(8,.x (.i .i64))]},e:=[(.ret,{vs:=[(4,.x (.i .i64))]}),(.exit 0,{})]})]) .nil (by kernel_rfl) (by kernel_rfl)
def qC(x_0:Int):Option Bool:=some (x_0 !=x_0)
def P_:fZ:=⟨[(false,.x (.i .i64))],[([.x .b],[])],true,[],fun p=>match p with|x_0=>qC x_0⟩
theorem RF:bf prog 164 P_:=aX bp bw (bq:=bq) (np:=1) (an:=[]) .nil (by kernel_rfl) (by kernel_rfl)
def rV(x_0:Int)(y_1:Int):Option Bool:=
 ((qC x_0).bind fun r1=>
 bif r1 then((qC y_1).bind fun r2=>
 some ((!r2)||(decide (x_0<y_1))))else
 (some (decide (x_0<y_1))):Option Bool).bind fun b3=>
 some b3
def P9:fZ:=⟨[(false,.x (.i .i64)),(false,.x (.i .i64))],[([.x .b],[])],true,[],fun p=>match p with|(x_0,y_1)=>rV x_0 y_1⟩
theorem ON:bf prog 144 P9:=aX bp bw (bq:=bq) (np:=2) (an:=[(3,{j:=some {vs:=[(4,.x .b)]}})]) (.cons RF .nil) (by kernel_rfl) (by kernel_rfl)
def oc:(Int×Sl Int)->Option ((Int×Sl Int)⊕(Sl Int)):=fun(i4,s5)=>
 (bif decide (i4>0)then((fw i4 s5.l.length).bind fun n6=>
 (fw (wr .i64 ((wr .i64 (i4-1)).tdiv 2)) s5.l.length).bind fun n7=>
 (rV (gt s5.l n6) (gt s5.l n7)).bind fun r8=>
 some r8)else
 (some false):Option Bool).bind fun b9=>
 bif b9 then((fw (wr .i64 ((wr .i64 (i4-1)).tdiv 2)) s5.l.length).bind fun n10=>
 (fw i4 s5.l.length).bind fun n11=>
 (fw i4 s5.l.length).bind fun n12=>
 (fw (wr .i64 ((wr .i64 (i4-1)).tdiv 2)) (s5.l.set n12 (gt s5.l n10)).length).bind fun n13=>
 some (.inl (wr .i64 ((wr .i64 (i4-1)).tdiv 2),(Sl.mk ((s5.l.set n12 (gt s5.l n10)).set n13 (gt s5.l n11))))))else
 (some (.inr s5))
def ji(q_0_l:Sl Int)(i_1:Int):Option (Sl Int):=
 (gz (oc) (i_1,q_0_l)).bind fun s14=>
 some s14
def P8:fZ:=⟨[(true,.pb y7 (.st (.pr (.os (.i .i64)) .ni))),(false,.x (.i .i64))],[([],[.pb y7 (.st (.pr (.os (.i .i64)) .ni))])],false,[true,false],fun p=>match p with|(q_0_l,i_1)=>ji q_0_l i_1⟩
theorem OM:bf prog 130 P8:=aX bp bw (bq:=bq) (np:=2) (an:=[(0,{j:=some {vs:=[(0,.op 0 y7 []),(1,.x (.i .i64))],gs:=(.co (.op 0 y7 []) .ni),os:=[.bx y7 (.rc (.co (.so 1) .ni)),.ar (.i .i64)],kl:=[0,1]},e:=[(.exit 0,{gs:=(.co (.op 0 y7 []) .ni),os:=[.bx y7 (.rc (.co (.so 1) .ni)),.ar (.i .i64)],kl:=[0,1]})]}),(3,{j:=some {vs:=[(24,.x .b)]}})]) (.cons ON .nil) (by kernel_rfl) (by kernel_rfl)
def mS(i4:Int)(s5:Sl Int):(Int×Int)->Option ((Int×Int)⊕Int):=fun(i8,i9)=>
 bif((decide (i9<=(wr .i64 ((wr .i64 (2*i4))+2))))&&(decide (i9<(s5.l.length:Int))))then(((fw i9 s5.l.length).bind fun n10=>
 (fw i8 s5.l.length).bind fun n11=>
 (rV (gt s5.l n10) (gt s5.l n11)).bind fun r12=>
 bif r12 then(some i9)else
 (some i8):Option Int).bind fun i13=>
 some (.inl (i13,wr .i64 (i9+1))))else
 (some (.inr i8))
def j5:(Int×Sl Int)->Option ((Int×Sl Int)⊕(Sl Int)):=fun(i4,s5)=>
 (gz (mS i4 s5) (i4,wr .i64 ((wr .i64 (2*i4))+1))).bind fun i14=>
 bif(i14==i4)then(some (.inr s5))else
 ((fw i14 s5.l.length).bind fun n15=>
 (fw i4 s5.l.length).bind fun n16=>
 (fw i4 s5.l.length).bind fun n17=>
 (fw i14 (s5.l.set n17 (gt s5.l n15)).length).bind fun n18=>
 some (.inl (i14,(Sl.mk ((s5.l.set n17 (gt s5.l n15)).set n18 (gt s5.l n16))))))
def jE(q_0_l:Sl Int)(i_1:Int):Option (Sl Int):=
 (gz (j5) (i_1,q_0_l)).bind fun s19=>
 some s19
def P7:fZ:=⟨[(true,.pb y7 (.st (.pr (.os (.i .i64)) .ni))),(false,.x (.i .i64))],[([],[.pb y7 (.st (.pr (.os (.i .i64)) .ni))])],false,[true,false],fun p=>match p with|(q_0_l,i_1)=>jE q_0_l i_1⟩
theorem RE:bf prog 131 P7:=aX bp bw (bq:=bq) (np:=2) (an:=[(0,{j:=some {vs:=[(0,.op 0 y7 []),(1,.x (.i .i64))],gs:=(.co (.op 0 y7 []) .ni),os:=[.bx y7 (.rc (.co (.so 1) .ni)),.ar (.i .i64)],kl:=[0,1]},e:=[(.ret,{gs:=(.co (.op 0 y7 []) .ni),os:=[.bx y7 (.rc (.co (.so 1) .ni)),.ar (.i .i64)],kl:=[0,1]})]}),(6,{j:=some {vs:=[(4,.x (.i .i64)),(5,.x (.i .i64))]},e:=[(.exit 2,{vs:=[(4,.x (.i .i64))]})]}),(10,{e:=[(.normal,{vs:=[(4,.x (.i .i64))]})]})]) (.cons ON .nil) (by kernel_rfl) (by kernel_rfl)
def jD(q_0_l:Sl Int)(i_1:Int):Option (Sl Int):=
 (fw (wr .i64 ((q_0_l.l.length:Int)-1)) q_0_l.l.length).bind fun n1=>
 (fw i_1 q_0_l.l.length).bind fun n2=>
 (pO (q_0_l.l.set n2 (gt q_0_l.l n1)) 0 (wr .i64 ((q_0_l.l.length:Int)-1))).bind fun l3=>
 bif decide (i_1<(wr .i64 ((q_0_l.l.length:Int)-1)))then((ji (Sl.mk l3) i_1).bind fun s4=>
 (jE s4 i_1).bind fun s5=>
 some s5)else
 (some (Sl.mk l3))
def P6:fZ:=⟨[(true,.pb y7 (.st (.pr (.os (.i .i64)) .ni))),(false,.x (.i .i64))],[([],[.pb y7 (.st (.pr (.os (.i .i64)) .ni))])],false,[true,false],fun p=>match p with|(q_0_l,i_1)=>jD q_0_l i_1⟩
theorem RB:bf prog 93 P6:=aX bp bw (bq:=bq) (np:=2) (an:=[]) (.cons OM (.cons RE .nil)) (by kernel_rfl) (by kernel_rfl)
def jG(q_0_l:Sl Int)(x_1:Int):Option (Bool×Sl Int):=
 (jg q_0_l x_1).bind fun r1=>
 bif decide (r1<0)then(some (false,q_0_l))else
 ((jD q_0_l r1).bind fun s2=>
 some (true,s2))
def P5:fZ:=⟨[(true,.pb y7 (.st (.pr (.os (.i .i64)) .ni))),(false,.x (.i .i64))],[([.x .b],[.pb y7 (.st (.pr (.os (.i .i64)) .ni))])],false,[true,false],fun p=>match p with|(q_0_l,x_1)=>jG q_0_l x_1⟩
theorem Rz:bf prog 60 P5:=aX bp bw (bq:=bq) (np:=2) (an:=[]) (.cons RH (.cons RB .nil)) (by kernel_rfl) (by kernel_rfl)
def jQ(a_0_sw:Int)(a_0_room:Int)(a_0_up:Bool)(a_0_life:Int)(a_0_u:Int)(a_0_table:Sl ae)(a_0_staged:Mp Int (Sl ai))(a_0_armed:Mp Int Int)(a_0_wait_l:Sl Int)(a_0_done:Sl av)(a_0_dead:Mp Int Int)(rd_1:Int):Option (Int×Int×Bool×Int×Int×Sl ae×Mp Int (Sl ai)×Mp Int Int×Sl Int×Sl av×Mp Int Int):=
 (bif px a_0_armed rd_1 then((jG a_0_wait_l (wr .i64 ((wr .i64 ((oM a_0_armed 0 rd_1)*8))+rd_1))).bind fun(r1,s2)=>
 some (a_0_sw,a_0_room,a_0_up,a_0_life,a_0_u,a_0_table,a_0_staged,a_0_armed,a_0_done,a_0_dead,s2))else
 (some (a_0_sw,a_0_room,a_0_up,a_0_life,a_0_u,a_0_table,a_0_staged,a_0_armed,a_0_done,a_0_dead,a_0_wait_l)):Option (Int×Int×Bool×Int×Int×Sl ae×Mp Int (Sl ai)×Mp Int Int×Sl av×Mp Int Int×Sl Int)).bind fun(i3,i4,b5,i6,i7,s8,m9,m10,s11,m12,s13)=>
 some (i3,i4,b5,i6,i7,s8,(vr m9 rd_1),(vr m10 rd_1),s13,s11,m12)
def P4:fZ:=⟨[(true,.pb y8 (.st (.pr (.x (.i .i64)) (.pr (.x (.i .i64)) (.pr (.x .b) (.pr (.x (.i .i64)) (.pr (.x (.i .i64)) (.pr (.x (.sl y0)) (.pr (.mp (.i .i64) (.sl y3)) (.pr (.mp (.i .i64) (.i .i64)) (.pr (.pb y7 (.st (.pr (.os (.i .i64)) .ni))) (.pr (.os y9) (.pr (.mp (.i .i64) (.i .i64)) .ni))))))))))))),(false,.x (.i .i64))],[([],[.pb y8 (.st (.pr (.x (.i .i64)) (.pr (.x (.i .i64)) (.pr (.x .b) (.pr (.x (.i .i64)) (.pr (.x (.i .i64)) (.pr (.x (.sl y0)) (.pr (.mp (.i .i64) (.sl y3)) (.pr (.mp (.i .i64) (.i .i64)) (.pr (.pb y7 (.st (.pr (.os (.i .i64)) .ni))) (.pr (.os y9) (.pr (.mp (.i .i64) (.i .i64)) .ni))))))))))))])],false,[true,false],fun p=>match p with|(a_0_sw,a_0_room,a_0_up,a_0_life,a_0_u,a_0_table,a_0_staged,a_0_armed,a_0_wait_l,a_0_done,a_0_dead,rd_1)=>jQ a_0_sw a_0_room a_0_up a_0_life a_0_u a_0_table a_0_staged a_0_armed a_0_wait_l a_0_done a_0_dead rd_1⟩
theorem OL:bf prog 37 P4:=aX bp bw (bq:=bq) (np:=2) (an:=[(0,{e:=[(.normal,{vs:=[(0,.op 0 y8 [])],gs:=(.co (.op 0 y8 []) .ni),os:=[.bx y8 (.rc (.co (.x (.i .i64)) (.co (.x (.i .i64)) (.co (.x .b) (.co (.x (.i .i64)) (.co (.x (.i .i64)) (.co (.x (.sl y0)) (.co (.om 1) (.co (.om 2) (.co (.op 3 y7 []) (.co (.so 4) (.co (.om 5) .ni)))))))))))),.mp (.i .i64) (.sl y3),.mp (.i .i64) (.i .i64),.bx y7 (.rc (.co (.so 6) .ni)),.ar y9,.mp (.i .i64) (.i .i64),.ar (.i .i64)],kl:=[0,7,8,9,10,11,12]})]})]) (.cons Rz .nil) (by kernel_rfl) (by kernel_rfl)
def mo(now_1:Int):(Int×Int×Bool×Int×Int×Sl ae×Sl bF×Mp Int (Sl ai)×Mp Int Int×Sl av×Mp Int Int×Sl Int)->Option ((Int×Int×Bool×Int×Int×Sl ae×Sl bF×Mp Int (Sl ai)×Mp Int Int×Sl av×Mp Int Int×Sl Int)⊕(Sl bF×Int×Int×Bool×Int×Int×Sl ae×Mp Int (Sl ai)×Mp Int Int×Sl av×Mp Int Int×Sl Int)):=fun(i25,i26,b27,i28,i29,s30,s31,m32,m33,s34,m35,s36)=>
 (lI s36).bind fun(r37,r38)=>
 bif((!r38)||(decide ((oM m33 0 (uS .i64 r37 7))>now_1)))then(some (.inr (s31,i25,i26,b27,i28,i29,s30,m32,m33,s34,m35,s36)))else
 (((tn (oM m32 Sl.nil (uS .i64 r37 7))).bind fun
 |.inl _=>((gO s30 8 i26).bind fun(r39,r40)=>
 some (r39,r40))
 |.inr r41=>((jm r41 s30 8 i26).bind fun(r42,r43,q44)=>
 some (r42,r43)):Option (Sl ae×Int)).bind fun(s45,i46)=>
 (jQ i25 i26 b27 i28 i29 s30 m32 m33 s36 s34 m35 (uS .i64 r37 7)).bind fun(q47,q48,q49,q50,q51,q52,q53,q54,s55,s56,q57)=>
 bif(i46 !=0)then((mi (s31.l++[(⟨3,uS .i64 r37 7⟩:bF)])).bind fun l58=>
 some (.inl (q47,q48,q49,q50,q51,q52,(Sl.mk l58),q53,q54,s56,q57,s55)))else
 ((mi (s56.l++[(⟨uS .i64 r37 7,q52⟩:av)])).bind fun l59=>
 (mi (s31.l++[(⟨1,uS .i64 r37 7⟩:bF)])).bind fun l60=>
 some (.inl (q47,q48,q49,q50,q51,s45,(Sl.mk l60),q53,q54,(Sl.mk l59),q57,s55))))
def je(a_0_sw:Int)(a_0_room:Int)(a_0_up:Bool)(a_0_life:Int)(a_0_u:Int)(a_0_table:Sl ae)(a_0_staged:Mp Int (Sl ai))(a_0_armed:Mp Int Int)(a_0_wait_l:Sl Int)(a_0_done:Sl av)(a_0_dead:Mp Int Int)(now_1:Int):Option (Sl bF×Int×Int×Bool×Int×Int×Sl ae×Mp Int (Sl ai)×Mp Int Int×Sl Int×Sl av×Mp Int Int):=
 (k_ a_0_sw a_0_room a_0_up a_0_life a_0_u a_0_table a_0_staged a_0_armed a_0_wait_l a_0_done a_0_dead).bind fun(r1,q2,q3,q4,q5,q6,q7,q8,q9,s10,s11,q12)=>
 bif(!r1)then(some (Sl.nil,q2,q3,q4,q5,q6,q7,q8,q9,s10,s11,q12))else
 ((gz (mo now_1) (q2,q3,q4,q5,q6,q7,Sl.nil,q8,q9,s11,q12,s10)).bind fun(s61,i62,i63,b64,i65,i66,s67,m68,m69,s70,m71,s72)=>
 some (s61,i62,i63,b64,i65,i66,s67,m68,m69,s72,s70,m71))
def P3:fZ:=⟨[(true,.pb y8 (.st (.pr (.x (.i .i64)) (.pr (.x (.i .i64)) (.pr (.x .b) (.pr (.x (.i .i64)) (.pr (.x (.i .i64)) (.pr (.x (.sl y0)) (.pr (.mp (.i .i64) (.sl y3)) (.pr (.mp (.i .i64) (.i .i64)) (.pr (.pb y7 (.st (.pr (.os (.i .i64)) .ni))) (.pr (.os y9) (.pr (.mp (.i .i64) (.i .i64)) .ni))))))))))))),(false,.x (.i .i64))],[([.os y5],[.pb y8 (.st (.pr (.x (.i .i64)) (.pr (.x (.i .i64)) (.pr (.x .b) (.pr (.x (.i .i64)) (.pr (.x (.i .i64)) (.pr (.x (.sl y0)) (.pr (.mp (.i .i64) (.sl y3)) (.pr (.mp (.i .i64) (.i .i64)) (.pr (.pb y7 (.st (.pr (.os (.i .i64)) .ni))) (.pr (.os y9) (.pr (.mp (.i .i64) (.i .i64)) .ni))))))))))))])],false,[true,false],fun p=>match p with|(a_0_sw,a_0_room,a_0_up,a_0_life,a_0_u,a_0_table,a_0_staged,a_0_armed,a_0_wait_l,a_0_done,a_0_dead,now_1)=>je a_0_sw a_0_room a_0_up a_0_life a_0_u a_0_table a_0_staged a_0_armed a_0_wait_l a_0_done a_0_dead now_1⟩
theorem OK:bf prog 13 P3:=aX bp bw (bq:=bq) (np:=2) (an:=[(9,{j:=some {vs:=[(0,.op 0 y8 []),(5,.so 1)],gs:=(.co (.op 0 y8 []) .ni),os:=[.bx y8 (.rc (.co (.x (.i .i64)) (.co (.x (.i .i64)) (.co (.x .b) (.co (.x (.i .i64)) (.co (.x (.i .i64)) (.co (.x (.sl y0)) (.co (.om 2) (.co (.om 3) (.co (.op 4 y7 []) (.co (.so 5) (.co (.om 6) .ni)))))))))))),.ar y5,.mp (.i .i64) (.sl y3),.mp (.i .i64) (.i .i64),.bx y7 (.rc (.co (.so 7) .ni)),.ar y9,.mp (.i .i64) (.i .i64),.ar (.i .i64)],kl:=[0,19,20,21,22,23,24]},e:=[(.ret,{vs:=[(4,.so 0)],gs:=(.co (.op 1 y8 []) .ni),os:=[.ar y5,.bx y8 (.rc (.co (.x (.i .i64)) (.co (.x (.i .i64)) (.co (.x .b) (.co (.x (.i .i64)) (.co (.x (.i .i64)) (.co (.x (.sl y0)) (.co (.om 2) (.co (.om 3) (.co (.op 4 y7 []) (.co (.so 5) (.co (.om 6) .ni)))))))))))),.mp (.i .i64) (.sl y3),.mp (.i .i64) (.i .i64),.bx y7 (.rc (.co (.so 7) .ni)),.ar y9,.mp (.i .i64) (.i .i64),.ar (.i .i64)],kl:=[0,19,20,21,22,23,24]})]}),(20,{j:=some {vs:=[(9,.x (.sl y0)),(10,.x (.i .i64))]}})]) (.cons OZ (.cons R9 (.cons OY (.cons RK (.cons RI (.cons OL .nil)))))) (by kernel_rfl) (by kernel_rfl)
def gA(a_0_sw:Int)(a_0_room:Int)(a_0_up:Bool)(a_0_life:Int)(a_0_u:Int)(a_0_table:Sl ae)(a_0_staged:Mp Int (Sl ai))(a_0_armed:Mp Int Int)(a_0_wait_l:Sl Int)(a_0_done:Sl av)(a_0_dead:Mp Int Int):Option (Int×Int×Bool×Int×Int×Sl ae×Mp Int (Sl ai)×Mp Int Int×Sl Int×Sl av×Mp Int Int):=
 (rQ).bind fun s1=>
 some (a_0_sw,a_0_room,a_0_up,a_0_life,a_0_u,a_0_table,(Mp.none:Mp Int (Sl ai)),(Mp.none:Mp Int Int),s1,a_0_done,a_0_dead)
def P2:fZ:=⟨[(true,.pb y8 (.st (.pr (.x (.i .i64)) (.pr (.x (.i .i64)) (.pr (.x .b) (.pr (.x (.i .i64)) (.pr (.x (.i .i64)) (.pr (.x (.sl y0)) (.pr (.mp (.i .i64) (.sl y3)) (.pr (.mp (.i .i64) (.i .i64)) (.pr (.pb y7 (.st (.pr (.os (.i .i64)) .ni))) (.pr (.os y9) (.pr (.mp (.i .i64) (.i .i64)) .ni)))))))))))))],[([],[.pb y8 (.st (.pr (.x (.i .i64)) (.pr (.x (.i .i64)) (.pr (.x .b) (.pr (.x (.i .i64)) (.pr (.x (.i .i64)) (.pr (.x (.sl y0)) (.pr (.mp (.i .i64) (.sl y3)) (.pr (.mp (.i .i64) (.i .i64)) (.pr (.pb y7 (.st (.pr (.os (.i .i64)) .ni))) (.pr (.os y9) (.pr (.mp (.i .i64) (.i .i64)) .ni))))))))))))])],false,[true],fun p=>match p with|(a_0_sw,a_0_room,a_0_up,a_0_life,a_0_u,a_0_table,a_0_staged,a_0_armed,a_0_wait_l,a_0_done,a_0_dead)=>gA a_0_sw a_0_room a_0_up a_0_life a_0_u a_0_table a_0_staged a_0_armed a_0_wait_l a_0_done a_0_dead⟩
theorem OJ:bf prog 32 P2:=aX bp bw (bq:=bq) (np:=1) (an:=[]) (.cons O0 .nil) (by kernel_rfl) (by kernel_rfl)
def rm(d_0:av)(c_1:Int):Option Bool:=some ((av.rd d_0)==c_1)
def P1:fZ:=⟨[(false,.x y9),(false,.pt (.i .i64))],[([.x .b],[])],true,[],fun p=>match p with|(d_0,c_1)=>rm d_0 c_1⟩
theorem Ry:bf prog 150 P1:=aX bp bw (bq:=bq) (np:=2) (an:=[]) .nil (by kernel_rfl) (by kernel_rfl)
def ew(s_0:Sl av)(f_1_c0:Int):Int->Option (Int⊕(Int⊕Unit)):=fun i2=>
 bif decide (i2<(s_0.l.length:Int))then((fw i2 s_0.l.length).bind fun n3=>
 (rm (gt s_0.l n3) f_1_c0).bind fun r4=>
 bif r4 then(some (.inr (.inl i2)))else
 (some (.inl (wr .i64 (i2+1)))))else
 (some (.inr (.inr ())))
def bV(s_0:Sl av)(f_1_c0:Int):Option Int:=
 (gz (ew s_0 f_1_c0) 0).bind fun
 |.inl i5=>(some i5)
 |.inr _=>(some (-1))
def P0:fZ:=⟨[(false,.x (.sl y9)),(false,.fn 150 (.pr (.pt (.i .i64)) .ni))],[([.x (.i .i64)],[])],true,[],fun p=>match p with|(s_0,f_1_c0)=>bV s_0 f_1_c0⟩
theorem Rx:bf prog 165 P0:=aX bp bw (bq:=bq) (np:=2) (an:=[(5,{j:=some {vs:=[(8,.x (.i .i64))]},e:=[(.ret,{vs:=[(4,.x (.i .i64))]}),(.exit 0,{})]})]) (.cons Ry .nil) (by kernel_rfl) (by kernel_rfl)
def bO(s_0:Sl av)(f_1_c0:Int):Option Bool:=
 (bV s_0 f_1_c0).bind fun r1=>
 some (decide (r1>=0))
def PZ:fZ:=⟨[(false,.x (.sl y9)),(false,.fn 150 (.pr (.pt (.i .i64)) .ni))],[([.x .b],[])],true,[],fun p=>match p with|(s_0,f_1_c0)=>bO s_0 f_1_c0⟩
theorem Rw:bf prog 149 PZ:=aX bp bw (bq:=bq) (np:=2) (an:=[]) (.cons Rx .nil) (by kernel_rfl) (by kernel_rfl)
def jP(a_0_sw:Int)(a_0_room:Int)(a_0_up:Bool)(a_0_life:Int)(a_0_u:Int)(a_0_table:Sl ae)(a_0_staged:Mp Int (Sl ai))(a_0_armed:Mp Int Int)(a_0_wait_l:Sl Int)(a_0_done:Sl av)(a_0_dead:Mp Int Int)(rd_1:Int):Option (Bool×Int×Int×Bool×Int×Int×Sl ae×Mp Int (Sl ai)×Mp Int Int×Sl Int×Sl av×Mp Int Int):=
 (bO a_0_done rd_1).bind fun r1=>
 some (r1,a_0_sw,a_0_room,a_0_up,a_0_life,a_0_u,a_0_table,a_0_staged,a_0_armed,a_0_wait_l,a_0_done,a_0_dead)
def OC:fZ:=⟨[(true,.pb y8 (.st (.pr (.x (.i .i64)) (.pr (.x (.i .i64)) (.pr (.x .b) (.pr (.x (.i .i64)) (.pr (.x (.i .i64)) (.pr (.x (.sl y0)) (.pr (.mp (.i .i64) (.sl y3)) (.pr (.mp (.i .i64) (.i .i64)) (.pr (.pb y7 (.st (.pr (.os (.i .i64)) .ni))) (.pr (.os y9) (.pr (.mp (.i .i64) (.i .i64)) .ni))))))))))))),(false,.x (.i .i64))],[([.x .b],[.pb y8 (.st (.pr (.x (.i .i64)) (.pr (.x (.i .i64)) (.pr (.x .b) (.pr (.x (.i .i64)) (.pr (.x (.i .i64)) (.pr (.x (.sl y0)) (.pr (.mp (.i .i64) (.sl y3)) (.pr (.mp (.i .i64) (.i .i64)) (.pr (.pb y7 (.st (.pr (.os (.i .i64)) .ni))) (.pr (.os y9) (.pr (.mp (.i .i64) (.i .i64)) .ni))))))))))))])],false,[true,false],fun p=>match p with|(a_0_sw,a_0_room,a_0_up,a_0_life,a_0_u,a_0_table,a_0_staged,a_0_armed,a_0_wait_l,a_0_done,a_0_dead,rd_1)=>jP a_0_sw a_0_room a_0_up a_0_life a_0_u a_0_table a_0_staged a_0_armed a_0_wait_l a_0_done a_0_dead rd_1⟩
theorem Im:bf prog 116 OC:=aX bp bw (bq:=bq) (np:=2) (an:=[]) (.cons Rw .nil) (by kernel_rfl) (by kernel_rfl)
def jo(a_0_sw:Int)(a_0_room:Int)(a_0_up:Bool)(a_0_life:Int)(a_0_u:Int)(a_0_table:Sl ae)(a_0_staged:Mp Int (Sl ai))(a_0_armed:Mp Int Int)(a_0_wait_l:Sl Int)(a_0_done:Sl av)(a_0_dead:Mp Int Int)(rd_1:Int):Option (Int×Bool×Int×Int×Bool×Int×Int×Sl ae×Mp Int (Sl ai)×Mp Int Int×Sl Int×Sl av×Mp Int Int):=
 bif px a_0_dead rd_1 then(some (16,true,a_0_sw,a_0_room,a_0_up,a_0_life,a_0_u,a_0_table,a_0_staged,a_0_armed,a_0_wait_l,a_0_done,a_0_dead))else
 ((jP a_0_sw a_0_room a_0_up a_0_life a_0_u a_0_table a_0_staged a_0_armed a_0_wait_l a_0_done a_0_dead rd_1).bind fun(r1,q2,q3,q4,q5,q6,q7,q8,q9,s10,s11,q12)=>
 some (0,r1,q2,q3,q4,q5,q6,q7,q8,q9,s10,s11,q12))
def OB:fZ:=⟨[(true,.pb y8 (.st (.pr (.x (.i .i64)) (.pr (.x (.i .i64)) (.pr (.x .b) (.pr (.x (.i .i64)) (.pr (.x (.i .i64)) (.pr (.x (.sl y0)) (.pr (.mp (.i .i64) (.sl y3)) (.pr (.mp (.i .i64) (.i .i64)) (.pr (.pb y7 (.st (.pr (.os (.i .i64)) .ni))) (.pr (.os y9) (.pr (.mp (.i .i64) (.i .i64)) .ni))))))))))))),(false,.x (.i .i64))],[([.x (.i .i64),.x .b],[.pb y8 (.st (.pr (.x (.i .i64)) (.pr (.x (.i .i64)) (.pr (.x .b) (.pr (.x (.i .i64)) (.pr (.x (.i .i64)) (.pr (.x (.sl y0)) (.pr (.mp (.i .i64) (.sl y3)) (.pr (.mp (.i .i64) (.i .i64)) (.pr (.pb y7 (.st (.pr (.os (.i .i64)) .ni))) (.pr (.os y9) (.pr (.mp (.i .i64) (.i .i64)) .ni))))))))))))])],false,[true,false],fun p=>match p with|(a_0_sw,a_0_room,a_0_up,a_0_life,a_0_u,a_0_table,a_0_staged,a_0_armed,a_0_wait_l,a_0_done,a_0_dead,rd_1)=>jo a_0_sw a_0_room a_0_up a_0_life a_0_u a_0_table a_0_staged a_0_armed a_0_wait_l a_0_done a_0_dead rd_1⟩
theorem L5:bf prog 111 OB:=aX bp bw (bq:=bq) (np:=2) (an:=[]) (.cons Im .nil) (by kernel_rfl) (by kernel_rfl)
def r_(a_0:Sl ai)(b_1:Sl ai):Option Bool:=
 (pu (⟨0,0,0,0,0,0,0,0,0,a_0⟩:af) (⟨0,0,0,0,0,0,0,0,0,b_1⟩:af)).bind fun r1=>
 some r1
def OA:fZ:=⟨[(false,.x (.sl y3)),(false,.x (.sl y3))],[([.x .b],[])],true,[],fun p=>match p with|(a_0,b_1)=>r_ a_0 b_1⟩
theorem Pk:bf prog 112 OA:=aX bp bw (bq:=bq) (np:=2) (an:=[]) (.cons O6 .nil) (by kernel_rfl) (by kernel_rfl)
def hO(s_0:Sl ai):Option (Sl ai):=
 bif s_0.eS then(some Sl.nil)else
 ((mi ([]++s_0.l)).bind fun l1=>
 some (tg (Sl.mk []) s_0.l l1))
def Oz:fZ:=⟨[(false,.x (.sl y3))],[([.x (.sl y3)],[])],false,[],fun p=>match p with|s_0=>hO s_0⟩
theorem Pj:bf prog 113 Oz:=aX bp bw (bq:=bq) (np:=1) (an:=[]) .nil (by kernel_rfl) (by kernel_rfl)
def kK(a_0_sw:Int)(a_0_room:Int)(a_0_up:Bool)(a_0_life:Int)(a_0_u:Int)(a_0_table:Sl ae)(a_0_staged:Mp Int (Sl ai))(a_0_armed:Mp Int Int)(a_0_wait_l:Sl Int)(a_0_done:Sl av)(a_0_dead:Mp Int Int)(m_1:af):Option (Int×Int×Int×Bool×Int×Int×Sl ae×Mp Int (Sl ai)×Mp Int Int×Sl Int×Sl av×Mp Int Int):=
 (jo a_0_sw a_0_room a_0_up a_0_life a_0_u a_0_table a_0_staged a_0_armed a_0_wait_l a_0_done a_0_dead (af.Rd m_1)).bind fun(r1,r2,q3,q4,q5,q6,q7,q8,q9,q10,s11,s12,q13)=>
 bif r2 then(some (r1,q3,q4,q5,q6,q7,q8,q9,q10,s11,s12,q13))else
 (bif px q9 (af.Rd m_1)then((r_ (oM q9 Sl.nil (af.Rd m_1)) (af.vJ m_1)).bind fun r14=>
 bif(!r14)then(some (8,q3,q4,q5,q6,q7,q8,q9,q10,s11,s12,q13))else
 (some (0,q3,q4,q5,q6,q7,q8,q9,q10,s11,s12,q13)))else
 (((tn (af.vJ m_1)).bind fun
 |.inl _=>((fV q8 8 q4).bind fun r15=>
 some r15)
 |.inr r16=>((ie r16 q8 8 q4).bind fun(r17,q18)=>
 some r17):Option Int).bind fun i19=>
 bif(i19 !=0)then(some (i19,q3,q4,q5,q6,q7,q8,q9,q10,s11,s12,q13))else
 ((hO (af.vJ m_1)).bind fun r20=>
 some (0,q3,q4,q5,q6,q7,q8,(si q9 (af.Rd m_1) r20),q10,s11,s12,q13))))
def Oy:fZ:=⟨[(true,.pb y8 (.st (.pr (.x (.i .i64)) (.pr (.x (.i .i64)) (.pr (.x .b) (.pr (.x (.i .i64)) (.pr (.x (.i .i64)) (.pr (.x (.sl y0)) (.pr (.mp (.i .i64) (.sl y3)) (.pr (.mp (.i .i64) (.i .i64)) (.pr (.pb y7 (.st (.pr (.os (.i .i64)) .ni))) (.pr (.os y9) (.pr (.mp (.i .i64) (.i .i64)) .ni))))))))))))),(false,.x y4)],[([.x (.i .i64)],[.pb y8 (.st (.pr (.x (.i .i64)) (.pr (.x (.i .i64)) (.pr (.x .b) (.pr (.x (.i .i64)) (.pr (.x (.i .i64)) (.pr (.x (.sl y0)) (.pr (.mp (.i .i64) (.sl y3)) (.pr (.mp (.i .i64) (.i .i64)) (.pr (.pb y7 (.st (.pr (.os (.i .i64)) .ni))) (.pr (.os y9) (.pr (.mp (.i .i64) (.i .i64)) .ni))))))))))))])],false,[true,false],fun p=>match p with|(a_0_sw,a_0_room,a_0_up,a_0_life,a_0_u,a_0_table,a_0_staged,a_0_armed,a_0_wait_l,a_0_done,a_0_dead,m_1)=>kK a_0_sw a_0_room a_0_up a_0_life a_0_u a_0_table a_0_staged a_0_armed a_0_wait_l a_0_done a_0_dead m_1⟩
theorem Ph:bf prog 80 Oy:=aX bp bw (bq:=bq) (np:=2) (an:=[(23,{j:=some {vs:=[(9,.x (.i .i64))]}})]) (.cons L5 (.cons Pk (.cons OY (.cons OR (.cons OO (.cons Pj .nil)))))) (by kernel_rfl) (by kernel_rfl)
def jF(q_0_l:Sl Int)(x_1:Int):Option (Sl Int):=
 (mi (q_0_l.l++[x_1])).bind fun l1=>
 (ji (Sl.mk l1) (wr .i64 ((l1.length:Int)-1))).bind fun s2=>
 some s2
def Ox:fZ:=⟨[(true,.pb y7 (.st (.pr (.os (.i .i64)) .ni))),(false,.x (.i .i64))],[([],[.pb y7 (.st (.pr (.os (.i .i64)) .ni))])],false,[true,false],fun p=>match p with|(q_0_l,x_1)=>jF q_0_l x_1⟩
theorem Pg:bf prog 114 Ox:=aX bp bw (bq:=bq) (np:=2) (an:=[]) (.cons OM .nil) (by kernel_rfl) (by kernel_rfl)
def l5(a_0_sw:Int)(a_0_room:Int)(a_0_up:Bool)(a_0_life:Int)(a_0_u:Int)(a_0_table:Sl ae)(a_0_staged:Mp Int (Sl ai))(a_0_armed:Mp Int Int)(a_0_wait_l:Sl Int)(a_0_done:Sl av)(a_0_dead:Mp Int Int)(now_1:Int)(m_2:af):Option (Int×Int×Int×Bool×Int×Int×Sl ae×Mp Int (Sl ai)×Mp Int Int×Sl Int×Sl av×Mp Int Int):=
 (jo a_0_sw a_0_room a_0_up a_0_life a_0_u a_0_table a_0_staged a_0_armed a_0_wait_l a_0_done a_0_dead (af.Rd m_2)).bind fun(r1,r2,q3,q4,q5,q6,q7,q8,q9,q10,s11,s12,q13)=>
 bif r2 then(some (r1,q3,q4,q5,q6,q7,q8,q9,q10,s11,s12,q13))else
 (bif(!(px q9 (af.Rd m_2)))then(some (7,q3,q4,q5,q6,q7,q8,q9,q10,s11,s12,q13))else
 (bif((px q10 (af.Rd m_2))&&((oM q10 0 (af.Rd m_2)) !=(af.T2 m_2)))then(some (8,q3,q4,q5,q6,q7,q8,q9,q10,s11,s12,q13))else
 (bif px q10 (af.Rd m_2)then(some (0,q3,q4,q5,q6,q7,q8,q9,q10,s11,s12,q13))else
 (bif decide (now_1>=(af.T2 m_2))then(some (15,q3,q4,q5,q6,q7,q8,q9,q10,s11,s12,q13))else
 ((jF s11 (wr .i64 ((wr .i64 ((af.T2 m_2)*8))+(af.Rd m_2)))).bind fun s14=>
 some (0,q3,q4,q5,q6,q7,q8,q9,(si q10 (af.Rd m_2) (af.T2 m_2)),s14,s12,q13))))))
def Ow:fZ:=⟨[(true,.pb y8 (.st (.pr (.x (.i .i64)) (.pr (.x (.i .i64)) (.pr (.x .b) (.pr (.x (.i .i64)) (.pr (.x (.i .i64)) (.pr (.x (.sl y0)) (.pr (.mp (.i .i64) (.sl y3)) (.pr (.mp (.i .i64) (.i .i64)) (.pr (.pb y7 (.st (.pr (.os (.i .i64)) .ni))) (.pr (.os y9) (.pr (.mp (.i .i64) (.i .i64)) .ni))))))))))))),(false,.x (.i .i64)),(false,.x y4)],[([.x (.i .i64)],[.pb y8 (.st (.pr (.x (.i .i64)) (.pr (.x (.i .i64)) (.pr (.x .b) (.pr (.x (.i .i64)) (.pr (.x (.i .i64)) (.pr (.x (.sl y0)) (.pr (.mp (.i .i64) (.sl y3)) (.pr (.mp (.i .i64) (.i .i64)) (.pr (.pb y7 (.st (.pr (.os (.i .i64)) .ni))) (.pr (.os y9) (.pr (.mp (.i .i64) (.i .i64)) .ni))))))))))))])],false,[true,false,false],fun p=>match p with|(a_0_sw,a_0_room,a_0_up,a_0_life,a_0_u,a_0_table,a_0_staged,a_0_armed,a_0_wait_l,a_0_done,a_0_dead,now_1,m_2)=>l5 a_0_sw a_0_room a_0_up a_0_life a_0_u a_0_table a_0_staged a_0_armed a_0_wait_l a_0_done a_0_dead now_1 m_2⟩
theorem Pf:bf prog 81 Ow:=aX bp bw (bq:=bq) (np:=3) (an:=[]) (.cons L5 (.cons Pg .nil)) (by kernel_rfl) (by kernel_rfl)
def ly(a_0_sw:Int)(a_0_room:Int)(a_0_up:Bool)(a_0_life:Int)(a_0_u:Int)(a_0_table:Sl ae)(a_0_staged:Mp Int (Sl ai))(a_0_armed:Mp Int Int)(a_0_wait_l:Sl Int)(a_0_done:Sl av)(a_0_dead:Mp Int Int):Option (bF×Int×Int×Bool×Int×Int×Sl ae×Mp Int (Sl ai)×Mp Int Int×Sl Int×Sl av×Mp Int Int):=
 (fw (wr .i64 ((a_0_done.l.length:Int)-1)) a_0_done.l.length).bind fun n1=>
 (pO a_0_done.l 0 (wr .i64 ((a_0_done.l.length:Int)-1))).bind fun l2=>
 some ((⟨2,av.rd (gt a_0_done.l n1)⟩:bF),a_0_sw,a_0_room,a_0_up,a_0_life,a_0_u,av.eI (gt a_0_done.l n1),a_0_staged,a_0_armed,a_0_wait_l,(a_0_done.to l2),a_0_dead)
def Ov:fZ:=⟨[(true,.pb y8 (.st (.pr (.x (.i .i64)) (.pr (.x (.i .i64)) (.pr (.x .b) (.pr (.x (.i .i64)) (.pr (.x (.i .i64)) (.pr (.x (.sl y0)) (.pr (.mp (.i .i64) (.sl y3)) (.pr (.mp (.i .i64) (.i .i64)) (.pr (.pb y7 (.st (.pr (.os (.i .i64)) .ni))) (.pr (.os y9) (.pr (.mp (.i .i64) (.i .i64)) .ni)))))))))))))],[([.x y5],[.pb y8 (.st (.pr (.x (.i .i64)) (.pr (.x (.i .i64)) (.pr (.x .b) (.pr (.x (.i .i64)) (.pr (.x (.i .i64)) (.pr (.x (.sl y0)) (.pr (.mp (.i .i64) (.sl y3)) (.pr (.mp (.i .i64) (.i .i64)) (.pr (.pb y7 (.st (.pr (.os (.i .i64)) .ni))) (.pr (.os y9) (.pr (.mp (.i .i64) (.i .i64)) .ni))))))))))))])],false,[true],fun p=>match p with|(a_0_sw,a_0_room,a_0_up,a_0_life,a_0_u,a_0_table,a_0_staged,a_0_armed,a_0_wait_l,a_0_done,a_0_dead)=>ly a_0_sw a_0_room a_0_up a_0_life a_0_u a_0_table a_0_staged a_0_armed a_0_wait_l a_0_done a_0_dead⟩
theorem Pd:bf prog 115 Ov:=aX bp bw (bq:=bq) (np:=1) (an:=[]) .nil (by kernel_rfl) (by kernel_rfl)
def oP:(Int×Int×Bool×Int×Int×Sl ae×Sl bF×Mp Int (Sl ai)×Mp Int Int×Sl av×Mp Int Int×Sl Int)->Option ((Int×Int×Bool×Int×Int×Sl ae×Sl bF×Mp Int (Sl ai)×Mp Int Int×Sl av×Mp Int Int×Sl Int)⊕(Int×Int×Bool×Int×Int×Sl ae×Sl bF×Mp Int (Sl ai)×Mp Int Int×Sl av×Mp Int Int×Sl Int)):=fun(i13,i14,b15,i16,i17,s18,s19,m20,m21,s22,m23,s24)=>
 bif decide ((s22.l.length:Int)>0)then((ly i13 i14 b15 i16 i17 s18 m20 m21 s24 s22 m23).bind fun(r25,q26,q27,q28,q29,q30,q31,q32,q33,s34,s35,q36)=>
 (mi (s19.l++[r25])).bind fun l37=>
 some (.inl (q26,q27,q28,q29,q30,q31,(Sl.mk l37),q32,q33,s35,q36,s34)))else
 (some (.inr (i13,i14,b15,i16,i17,s18,s19,m20,m21,s22,m23,s24)))
def oO:(Int×Int×Int×Bool×Int×Int×Sl ae×Mp Int (Sl ai)×Mp Int Int×Sl av×Mp Int Int×Sl Int)->Option ((Int×Int×Int×Bool×Int×Int×Sl ae×Mp Int (Sl ai)×Mp Int Int×Sl av×Mp Int Int×Sl Int)⊕(Int×Int×Bool×Int×Int×Sl ae×Mp Int (Sl ai)×Mp Int Int×Sl av×Mp Int Int×Sl Int)):=fun(i74,i75,i76,b77,i78,i79,s80,m81,m82,s83,m84,s85)=>
 bif decide (i74<8)then(some (.inl (wr .i64 (i74+1),i75,i76,b77,i78,i79,s80,m81,m82,s83,(si m84 i74 i79),s85)))else
 (some (.inr (i75,i76,b77,i78,i79,s80,m81,m82,s83,m84,s85)))
def lw(a_0_sw:Int)(a_0_room:Int)(a_0_up:Bool)(a_0_life:Int)(a_0_u:Int)(a_0_table:Sl ae)(a_0_staged:Mp Int (Sl ai))(a_0_armed:Mp Int Int)(a_0_wait_l:Sl Int)(a_0_done:Sl av)(a_0_dead:Mp Int Int)(rd_1:Int):Option (Sl bF×Int×Int×Int×Bool×Int×Int×Sl ae×Mp Int (Sl ai)×Mp Int Int×Sl Int×Sl av×Mp Int Int):=
 bif decide (rd_1<0)then((gz (oP) (a_0_sw,a_0_room,a_0_up,a_0_life,a_0_u,a_0_table,Sl.nil,a_0_staged,a_0_armed,a_0_done,a_0_dead,a_0_wait_l)).bind fun(i38,i39,b40,i41,i42,s43,s44,m45,m46,s47,m48,s49)=>
 (gA i38 i39 b40 i41 i42 s43 m45 m46 s49 s47 m48).bind fun(q50,q51,q52,q53,q54,q55,q56,q57,s58,s59,q60)=>
 (gz (oO) (0,q50,q51,q52,q53,q54,q55,q56,q57,s59,q60,s58)).bind fun(i86,i87,b88,i89,i90,s91,m92,m93,s94,m95,s96)=>
 some (s44,0,i86,i87,b88,i89,i90,s91,m92,m93,s96,s94,m95))else
 (((jP a_0_sw a_0_room a_0_up a_0_life a_0_u a_0_table a_0_staged a_0_armed a_0_wait_l a_0_done a_0_dead rd_1).bind fun(r97,q98,q99,q100,q101,q102,q103,q104,q105,s106,s107,q108)=>
 bif r97 then((fw (wr .i64 ((s107.l.length:Int)-1)) s107.l.length).bind fun n109=>
 bif((av.rd (gt s107.l n109)) !=rd_1)then(some (.inr (16,q98,q99,q100,q101,q102,q103,q104,q105,s107,q108,s106)))else
 ((ly q98 q99 q100 q101 q102 q103 q104 q105 s106 s107 q108).bind fun(r110,q111,q112,q113,q114,q115,q116,q117,q118,s119,s120,q121)=>
 (mi ([]++[r110])).bind fun l122=>
 some (.inl (q111,q112,q113,q114,q115,q116,(Sl.mk l122),q117,q118,s120,q121,s119))))else
 (some (.inl (q98,q99,q100,q101,q102,q103,Sl.nil,q104,q105,s107,q108,s106))):Option ((Int×Int×Bool×Int×Int×Sl ae×Sl bF×Mp Int (Sl ai)×Mp Int Int×Sl av×Mp Int Int×Sl Int)⊕(Int×Int×Int×Bool×Int×Int×Sl ae×Mp Int (Sl ai)×Mp Int Int×Sl av×Mp Int Int×Sl Int))).bind fun
 |.inl (i123,i124,b125,i126,i127,s128,s129,m130,m131,s132,m133,s134)=>((jQ i123 i124 b125 i126 i127 s128 m130 m131 s134 s132 m133 rd_1).bind fun(q135,q136,q137,q138,q139,q140,q141,q142,s143,s144,q145)=>
 some (s129,0,q135,q136,q137,q138,q139,q140,q141,q142,s143,s144,(si q145 rd_1 q139)))
 |.inr (i146,i147,i148,b149,i150,i151,s152,m153,m154,s155,m156,s157)=>(some (Sl.nil,i146,i147,i148,b149,i150,i151,s152,m153,m154,s157,s155,m156)))
def Ou:fZ:=⟨[(true,.pb y8 (.st (.pr (.x (.i .i64)) (.pr (.x (.i .i64)) (.pr (.x .b) (.pr (.x (.i .i64)) (.pr (.x (.i .i64)) (.pr (.x (.sl y0)) (.pr (.mp (.i .i64) (.sl y3)) (.pr (.mp (.i .i64) (.i .i64)) (.pr (.pb y7 (.st (.pr (.os (.i .i64)) .ni))) (.pr (.os y9) (.pr (.mp (.i .i64) (.i .i64)) .ni))))))))))))),(false,.x (.i .i64))],[([.x (.sl y5),.x (.i .i64)],[.pb y8 (.st (.pr (.x (.i .i64)) (.pr (.x (.i .i64)) (.pr (.x .b) (.pr (.x (.i .i64)) (.pr (.x (.i .i64)) (.pr (.x (.sl y0)) (.pr (.mp (.i .i64) (.sl y3)) (.pr (.mp (.i .i64) (.i .i64)) (.pr (.pb y7 (.st (.pr (.os (.i .i64)) .ni))) (.pr (.os y9) (.pr (.mp (.i .i64) (.i .i64)) .ni))))))))))))])],false,[true,false],fun p=>match p with|(a_0_sw,a_0_room,a_0_up,a_0_life,a_0_u,a_0_table,a_0_staged,a_0_armed,a_0_wait_l,a_0_done,a_0_dead,rd_1)=>lw a_0_sw a_0_room a_0_up a_0_life a_0_u a_0_table a_0_staged a_0_armed a_0_wait_l a_0_done a_0_dead rd_1⟩
theorem Pc:bf prog 82 Ou:=aX bp bw (bq:=bq) (np:=2) (an:=[(8,{j:=some {vs:=[(0,.op 0 y8 []),(6,.so 1)],gs:=(.co (.op 0 y8 []) .ni),os:=[.bx y8 (.rc (.co (.x (.i .i64)) (.co (.x (.i .i64)) (.co (.x .b) (.co (.x (.i .i64)) (.co (.x (.i .i64)) (.co (.x (.sl y0)) (.co (.om 2) (.co (.om 3) (.co (.op 4 y7 []) (.co (.so 5) (.co (.om 6) .ni)))))))))))),.ar y5,.mp (.i .i64) (.sl y3),.mp (.i .i64) (.i .i64),.bx y7 (.rc (.co (.so 7) .ni)),.ar y9,.mp (.i .i64) (.i .i64),.ar (.i .i64)],kl:=[0,7,8,9,10,11,12]},e:=[(.exit 0,{vs:=[(0,.op 0 y8 []),(6,.so 1)],gs:=(.co (.op 0 y8 []) .ni),os:=[.bx y8 (.rc (.co (.x (.i .i64)) (.co (.x (.i .i64)) (.co (.x .b) (.co (.x (.i .i64)) (.co (.x (.i .i64)) (.co (.x (.sl y0)) (.co (.om 2) (.co (.om 3) (.co (.op 4 y7 []) (.co (.so 5) (.co (.om 6) .ni)))))))))))),.ar y5,.mp (.i .i64) (.sl y3),.mp (.i .i64) (.i .i64),.bx y7 (.rc (.co (.so 7) .ni)),.ar y9,.mp (.i .i64) (.i .i64),.ar (.i .i64)],kl:=[0,7,8,9,10,11,12]})]}),(18,{j:=some {vs:=[(0,.op 0 y8 []),(23,.x (.i .i64))],gs:=(.co (.op 0 y8 []) .ni),os:=[.bx y8 (.rc (.co (.x (.i .i64)) (.co (.x (.i .i64)) (.co (.x .b) (.co (.x (.i .i64)) (.co (.x (.i .i64)) (.co (.x (.sl y0)) (.co (.om 1) (.co (.om 2) (.co (.op 3 y7 []) (.co (.so 4) (.co (.om 5) .ni)))))))))))),.mp (.i .i64) (.sl y3),.mp (.i .i64) (.i .i64),.bx y7 (.rc (.co (.so 6) .ni)),.ar y9,.mp (.i .i64) (.i .i64),.ar (.i .i64)],kl:=[13,27,28,29,30,31,32]},e:=[(.exit 2,{gs:=(.co (.op 0 y8 []) .ni),os:=[.bx y8 (.rc (.co (.x (.i .i64)) (.co (.x (.i .i64)) (.co (.x .b) (.co (.x (.i .i64)) (.co (.x (.i .i64)) (.co (.x (.sl y0)) (.co (.om 1) (.co (.om 2) (.co (.op 3 y7 []) (.co (.so 4) (.co (.om 5) .ni)))))))))))),.mp (.i .i64) (.sl y3),.mp (.i .i64) (.i .i64),.bx y7 (.rc (.co (.so 6) .ni)),.ar y9,.mp (.i .i64) (.i .i64),.ar (.i .i64)],kl:=[13,27,28,29,30,31,32]})]}),(29,{e:=[(.normal,{vs:=[(0,.op 0 y8 []),(6,.so 1)],gs:=(.co (.op 0 y8 []) .ni),os:=[.bx y8 (.rc (.co (.x (.i .i64)) (.co (.x (.i .i64)) (.co (.x .b) (.co (.x (.i .i64)) (.co (.x (.i .i64)) (.co (.x (.sl y0)) (.co (.om 2) (.co (.om 3) (.co (.op 4 y7 []) (.co (.so 5) (.co (.om 6) .ni)))))))))))),.ar y5,.mp (.i .i64) (.sl y3),.mp (.i .i64) (.i .i64),.bx y7 (.rc (.co (.so 7) .ni)),.ar y9,.mp (.i .i64) (.i .i64),.ar (.i .i64)],kl:=[0,7,8,9,10,11,12]}),(.ret,{vs:=[(4,.nl 0),(5,.x (.i .i64))],gs:=(.co (.op 0 y8 []) .ni),os:=[.bx y8 (.rc (.co (.x (.i .i64)) (.co (.x (.i .i64)) (.co (.x .b) (.co (.x (.i .i64)) (.co (.x (.i .i64)) (.co (.x (.sl y0)) (.co (.om 1) (.co (.om 2) (.co (.op 3 y7 []) (.co (.so 4) (.co (.om 5) .ni)))))))))))),.mp (.i .i64) (.sl y3),.mp (.i .i64) (.i .i64),.bx y7 (.rc (.co (.so 6) .ni)),.ar y9,.mp (.i .i64) (.i .i64),.ar (.i .i64)],kl:=[0,7,8,9,10,11,12]})]})]) (.cons Pd (.cons OJ (.cons Im (.cons OL .nil)))) (by kernel_rfl) (by kernel_rfl)
def k9(bits_1:Int):(Int×Int×Int×Bool×Int×Int×Sl ae×Mp Int (Sl ai)×Mp Int Int×Sl av×Mp Int Int×Sl Int)->Option ((Int×Int×Int×Bool×Int×Int×Sl ae×Mp Int (Sl ai)×Mp Int Int×Sl av×Mp Int Int×Sl Int)⊕((Int×Int×Int×Bool×Int×Int×Sl ae×Mp Int (Sl ai)×Mp Int Int×Sl av×Mp Int Int×Sl Int)⊕(Int×Int×Bool×Int×Int×Sl ae×Mp Int (Sl ai)×Mp Int Int×Sl av×Mp Int Int×Sl Int))):=fun(i14,i15,i16,b17,i18,i19,s20,m21,m22,s23,m24,s25)=>
 bif decide (i14<8)then(((HQ .i64 bits_1 i14).bind fun i26=>
 bif((uS .i64 i26 1)==1)then((jP i15 i16 b17 i18 i19 s20 m21 m22 s25 s23 m24 i14).bind fun(r27,q28,q29,q30,q31,q32,q33,q34,q35,s36,s37,q38)=>
 some ((!r27),q28,q29,q30,q31,q32,q33,q34,q35,s37,q38,s36))else
 (some (false,i15,i16,b17,i18,i19,s20,m21,m22,s23,m24,s25)):Option (Bool×Int×Int×Bool×Int×Int×Sl ae×Mp Int (Sl ai)×Mp Int Int×Sl av×Mp Int Int×Sl Int)).bind fun(b39,i40,i41,b42,i43,i44,s45,m46,m47,s48,m49,s50)=>
 bif b39 then(some (.inr (.inl (7,i40,i41,b42,i43,i44,s45,m46,m47,s48,m49,s50))))else
 (some (.inl (wr .i64 (i14+1),i40,i41,b42,i43,i44,s45,m46,m47,s48,m49,s50))))else
 (some (.inr (.inr (i15,i16,b17,i18,i19,s20,m21,m22,s23,m24,s25))))
def kL(a_0_sw:Int)(a_0_room:Int)(a_0_up:Bool)(a_0_life:Int)(a_0_u:Int)(a_0_table:Sl ae)(a_0_staged:Mp Int (Sl ai))(a_0_armed:Mp Int Int)(a_0_wait_l:Sl Int)(a_0_done:Sl av)(a_0_dead:Mp Int Int)(bits_1:Int):Option (Int×Int×Int×Bool×Int×Int×Sl ae×Mp Int (Sl ai)×Mp Int Int×Sl Int×Sl av×Mp Int Int):=
 (gz (k9 bits_1) (0,a_0_sw,a_0_room,a_0_up,a_0_life,a_0_u,a_0_table,a_0_staged,a_0_armed,a_0_done,a_0_dead,a_0_wait_l)).bind fun
 |.inl (i51,i52,i53,b54,i55,i56,s57,m58,m59,s60,m61,s62)=>(some (i51,i52,i53,b54,i55,i56,s57,m58,m59,s62,s60,m61))
 |.inr (i63,i64,b65,i66,i67,s68,m69,m70,s71,m72,s73)=>(some (0,i63,i64,b65,i66,i67,s68,m69,m70,s73,s71,m72))
def Ot:fZ:=⟨[(true,.pb y8 (.st (.pr (.x (.i .i64)) (.pr (.x (.i .i64)) (.pr (.x .b) (.pr (.x (.i .i64)) (.pr (.x (.i .i64)) (.pr (.x (.sl y0)) (.pr (.mp (.i .i64) (.sl y3)) (.pr (.mp (.i .i64) (.i .i64)) (.pr (.pb y7 (.st (.pr (.os (.i .i64)) .ni))) (.pr (.os y9) (.pr (.mp (.i .i64) (.i .i64)) .ni))))))))))))),(false,.x (.i .i64))],[([.x (.i .i64)],[.pb y8 (.st (.pr (.x (.i .i64)) (.pr (.x (.i .i64)) (.pr (.x .b) (.pr (.x (.i .i64)) (.pr (.x (.i .i64)) (.pr (.x (.sl y0)) (.pr (.mp (.i .i64) (.sl y3)) (.pr (.mp (.i .i64) (.i .i64)) (.pr (.pb y7 (.st (.pr (.os (.i .i64)) .ni))) (.pr (.os y9) (.pr (.mp (.i .i64) (.i .i64)) .ni))))))))))))])],false,[true,false],fun p=>match p with|(a_0_sw,a_0_room,a_0_up,a_0_life,a_0_u,a_0_table,a_0_staged,a_0_armed,a_0_wait_l,a_0_done,a_0_dead,bits_1)=>kL a_0_sw a_0_room a_0_up a_0_life a_0_u a_0_table a_0_staged a_0_armed a_0_wait_l a_0_done a_0_dead bits_1⟩
theorem Pb:bf prog 83 Ot:=aX bp bw (bq:=bq) (np:=2) (an:=[(5,{j:=some {vs:=[(0,.op 0 y8 []),(6,.x (.i .i64))],gs:=(.co (.op 0 y8 []) .ni),os:=[.bx y8 (.rc (.co (.x (.i .i64)) (.co (.x (.i .i64)) (.co (.x .b) (.co (.x (.i .i64)) (.co (.x (.i .i64)) (.co (.x (.sl y0)) (.co (.om 1) (.co (.om 2) (.co (.op 3 y7 []) (.co (.so 4) (.co (.om 5) .ni)))))))))))),.mp (.i .i64) (.sl y3),.mp (.i .i64) (.i .i64),.bx y7 (.rc (.co (.so 6) .ni)),.ar y9,.mp (.i .i64) (.i .i64),.ar (.i .i64)],kl:=[0,7,8,9,10,11,12]},e:=[(.ret,{vs:=[(4,.x (.i .i64))],gs:=(.co (.op 0 y8 []) .ni),os:=[.bx y8 (.rc (.co (.x (.i .i64)) (.co (.x (.i .i64)) (.co (.x .b) (.co (.x (.i .i64)) (.co (.x (.i .i64)) (.co (.x (.sl y0)) (.co (.om 1) (.co (.om 2) (.co (.op 3 y7 []) (.co (.so 4) (.co (.om 5) .ni)))))))))))),.mp (.i .i64) (.sl y3),.mp (.i .i64) (.i .i64),.bx y7 (.rc (.co (.so 6) .ni)),.ar y9,.mp (.i .i64) (.i .i64),.ar (.i .i64)],kl:=[0,7,8,9,10,11,12]}),(.exit 0,{gs:=(.co (.op 0 y8 []) .ni),os:=[.bx y8 (.rc (.co (.x (.i .i64)) (.co (.x (.i .i64)) (.co (.x .b) (.co (.x (.i .i64)) (.co (.x (.i .i64)) (.co (.x (.sl y0)) (.co (.om 1) (.co (.om 2) (.co (.op 3 y7 []) (.co (.so 4) (.co (.om 5) .ni)))))))))))),.mp (.i .i64) (.sl y3),.mp (.i .i64) (.i .i64),.bx y7 (.rc (.co (.so 6) .ni)),.ar y9,.mp (.i .i64) (.i .i64),.ar (.i .i64)],kl:=[0,7,8,9,10,11,12]})]}),(13,{j:=some {vs:=[(0,.op 0 y8 []),(19,.x .b)],gs:=(.co (.op 0 y8 []) .ni),os:=[.bx y8 (.rc (.co (.x (.i .i64)) (.co (.x (.i .i64)) (.co (.x .b) (.co (.x (.i .i64)) (.co (.x (.i .i64)) (.co (.x (.sl y0)) (.co (.om 1) (.co (.om 2) (.co (.op 3 y7 []) (.co (.so 4) (.co (.om 5) .ni)))))))))))),.mp (.i .i64) (.sl y3),.mp (.i .i64) (.i .i64),.bx y7 (.rc (.co (.so 6) .ni)),.ar y9,.mp (.i .i64) (.i .i64),.ar (.i .i64)],kl:=[13,14,15,16,17,18,19]}})]) (.cons Im .nil) (by kernel_rfl) (by kernel_rfl)
def lx(a_0_sw:Int)(a_0_room:Int)(a_0_up:Bool)(a_0_life:Int)(a_0_u:Int)(a_0_table:Sl ae)(a_0_staged:Mp Int (Sl ai))(a_0_armed:Mp Int Int)(a_0_wait_l:Sl Int)(a_0_done:Sl av)(a_0_dead:Mp Int Int)(now_1:Int)(m_2:af):Option (Sl bF×Int×Int×Int×Bool×Int×Int×Sl ae×Mp Int (Sl ai)×Mp Int Int×Sl Int×Sl av×Mp Int Int):=
 bif decide ((af.U m_2)<a_0_u)then(some (Sl.nil,16,a_0_sw,a_0_room,a_0_up,a_0_life,a_0_u,a_0_table,a_0_staged,a_0_armed,a_0_wait_l,a_0_done,a_0_dead))else
 ((bif decide ((af.U m_2)>a_0_u)then((gA a_0_sw a_0_room a_0_up a_0_life (af.U m_2) a_0_table a_0_staged a_0_armed a_0_wait_l Sl.nil (Mp.none:Mp Int Int)).bind fun(q1,q2,q3,q4,q5,q6,q7,q8,s9,s10,q11)=>
 some (q1,q2,q3,q4,q5,q6,q7,q8,s10,q11,s9))else
 (some (a_0_sw,a_0_room,a_0_up,a_0_life,a_0_u,a_0_table,a_0_staged,a_0_armed,a_0_done,a_0_dead,a_0_wait_l)):Option (Int×Int×Bool×Int×Int×Sl ae×Mp Int (Sl ai)×Mp Int Int×Sl av×Mp Int Int×Sl Int)).bind fun(i12,i13,b14,i15,i16,s17,m18,m19,s20,m21,s22)=>
 bif((af.fx m_2)==3)then((kK i12 i13 b14 i15 i16 s17 m18 m19 s22 s20 m21 m_2).bind fun(r23,q24,q25,q26,q27,q28,q29,q30,q31,s32,s33,q34)=>
 some (Sl.nil,r23,q24,q25,q26,q27,q28,q29,q30,q31,s32,s33,q34))else
 (bif((af.fx m_2)==4)then((l5 i12 i13 b14 i15 i16 s17 m18 m19 s22 s20 m21 now_1 m_2).bind fun(r35,q36,q37,q38,q39,q40,q41,q42,q43,s44,s45,q46)=>
 some (Sl.nil,r35,q36,q37,q38,q39,q40,q41,q42,q43,s44,s45,q46))else
 (bif((af.fx m_2)==5)then((lw i12 i13 b14 i15 i16 s17 m18 m19 s22 s20 m21 (af.Rd m_2)).bind fun(r47,r48,q49,q50,q51,q52,q53,q54,q55,q56,s57,s58,q59)=>
 some (r47,r48,q49,q50,q51,q52,q53,q54,q55,q56,s57,s58,q59))else
 ((kL i12 i13 b14 i15 i16 s17 m18 m19 s22 s20 m21 (af.Code m_2)).bind fun(r60,q61,q62,q63,q64,q65,q66,q67,q68,s69,s70,q71)=>
 some (Sl.nil,r60,q61,q62,q63,q64,q65,q66,q67,q68,s69,s70,q71)))))
def Oq:fZ:=⟨[(true,.pb y8 (.st (.pr (.x (.i .i64)) (.pr (.x (.i .i64)) (.pr (.x .b) (.pr (.x (.i .i64)) (.pr (.x (.i .i64)) (.pr (.x (.sl y0)) (.pr (.mp (.i .i64) (.sl y3)) (.pr (.mp (.i .i64) (.i .i64)) (.pr (.pb y7 (.st (.pr (.os (.i .i64)) .ni))) (.pr (.os y9) (.pr (.mp (.i .i64) (.i .i64)) .ni))))))))))))),(false,.x (.i .i64)),(false,.x y4)],[([.x (.sl y5),.x (.i .i64)],[.pb y8 (.st (.pr (.x (.i .i64)) (.pr (.x (.i .i64)) (.pr (.x .b) (.pr (.x (.i .i64)) (.pr (.x (.i .i64)) (.pr (.x (.sl y0)) (.pr (.mp (.i .i64) (.sl y3)) (.pr (.mp (.i .i64) (.i .i64)) (.pr (.pb y7 (.st (.pr (.os (.i .i64)) .ni))) (.pr (.os y9) (.pr (.mp (.i .i64) (.i .i64)) .ni))))))))))))])],false,[true,false,false],fun p=>match p with|(a_0_sw,a_0_room,a_0_up,a_0_life,a_0_u,a_0_table,a_0_staged,a_0_armed,a_0_wait_l,a_0_done,a_0_dead,now_1,m_2)=>lx a_0_sw a_0_room a_0_up a_0_life a_0_u a_0_table a_0_staged a_0_armed a_0_wait_l a_0_done a_0_dead now_1 m_2⟩
theorem Pa:bf prog 46 Oq:=aX bp bw (bq:=bq) (np:=3) (an:=[(7,{e:=[(.normal,{vs:=[(0,.op 0 y8 [])],gs:=(.co (.op 0 y8 []) .ni),os:=[.bx y8 (.rc (.co (.x (.i .i64)) (.co (.x (.i .i64)) (.co (.x .b) (.co (.x (.i .i64)) (.co (.x (.i .i64)) (.co (.x (.sl y0)) (.co (.om 1) (.co (.om 2) (.co (.op 3 y7 []) (.co (.so 4) (.co (.om 5) .ni)))))))))))),.mp (.i .i64) (.sl y3),.mp (.i .i64) (.i .i64),.bx y7 (.rc (.co (.so 6) .ni)),.ar y9,.mp (.i .i64) (.i .i64),.ar (.i .i64)],kl:=[0,7,8,9,10,11,12]})]})]) (.cons OJ (.cons Ph (.cons Pf (.cons Pc (.cons Pb .nil))))) (by kernel_rfl) (by kernel_rfl)
def jR(a_0_sw:Int)(a_0_room:Int)(a_0_up:Bool)(a_0_life:Int)(a_0_u:Int)(a_0_table:Sl ae)(a_0_staged:Mp Int (Sl ai))(a_0_armed:Mp Int Int)(a_0_wait_l:Sl Int)(a_0_done:Sl av)(a_0_dead:Mp Int Int)(now_1:Int)(m_2:af):Option (af×Bool×Sl bF×Int×Int×Bool×Int×Int×Sl ae×Mp Int (Sl ai)×Mp Int Int×Sl Int×Sl av×Mp Int Int):=
 ((k_ a_0_sw a_0_room a_0_up a_0_life a_0_u a_0_table a_0_staged a_0_armed a_0_wait_l a_0_done a_0_dead).bind fun(r1,q2,q3,q4,q5,q6,q7,q8,q9,s10,s11,q12)=>
 bif(!r1)then(some (true,q2,q3,q4,q5,q6,q7,q8,q9,s11,q12,s10))else
 ((nU m_2).bind fun r13=>
 some (((((!r13)||((af.Sw m_2) !=q2))||((af.fx m_2)==2))||(decide ((af.fx m_2)>=7))),q2,q3,q4,q5,q6,q7,q8,q9,s11,q12,s10)):Option (Bool×Int×Int×Bool×Int×Int×Sl ae×Mp Int (Sl ai)×Mp Int Int×Sl av×Mp Int Int×Sl Int)).bind fun(b14,i15,i16,b17,i18,i19,s20,m21,m22,s23,m24,s25)=>
 bif b14 then(some ((⟨0,0,0,0,0,0,0,0,0,Sl.nil⟩:af),false,Sl.nil,i15,i16,b17,i18,i19,s20,m21,m22,s25,s23,m24))else
 ((je i15 i16 b17 i18 i19 s20 m21 m22 s25 s23 m24 now_1).bind fun(s26,q27,q28,q29,q30,q31,q32,q33,q34,s35,s36,q37)=>
 bif((af.fx m_2)==1)then(some ((⟨2,q27,0,0,af.T1 m_2,now_1,q30,0,0,Sl.nil⟩:af),true,s26,q27,q28,q29,q30,q31,q32,q33,q34,s35,s36,q37))else
 ((lx q27 q28 q29 q30 q31 q32 q33 q34 s35 s36 q37 now_1 m_2).bind fun(r38,r39,q40,q41,q42,q43,q44,q45,q46,q47,s48,s49,q50)=>
 (bif(r39 !=0)then(some (⟨8,q40,af.U m_2,af.Rd m_2,0,0,q43,af.fx m_2,r39,Sl.nil⟩:af))else
 (some (⟨7,q40,af.U m_2,af.Rd m_2,0,0,q43,af.fx m_2,0,Sl.nil⟩:af)):Option af).bind fun x51=>
 (mi (s26.l++r38.l)).bind fun l52=>
 some (x51,true,(tg s26 r38.l l52),q40,q41,q42,q43,q44,q45,q46,q47,s48,s49,q50)))
def Oo:fZ:=⟨[(true,.pb y8 (.st (.pr (.x (.i .i64)) (.pr (.x (.i .i64)) (.pr (.x .b) (.pr (.x (.i .i64)) (.pr (.x (.i .i64)) (.pr (.x (.sl y0)) (.pr (.mp (.i .i64) (.sl y3)) (.pr (.mp (.i .i64) (.i .i64)) (.pr (.pb y7 (.st (.pr (.os (.i .i64)) .ni))) (.pr (.os y9) (.pr (.mp (.i .i64) (.i .i64)) .ni))))))))))))),(false,.x (.i .i64)),(false,.x y4)],[([.x y4,.x .b,.x (.sl y5)],[.pb y8 (.st (.pr (.x (.i .i64)) (.pr (.x (.i .i64)) (.pr (.x .b) (.pr (.x (.i .i64)) (.pr (.x (.i .i64)) (.pr (.x (.sl y0)) (.pr (.mp (.i .i64) (.sl y3)) (.pr (.mp (.i .i64) (.i .i64)) (.pr (.pb y7 (.st (.pr (.os (.i .i64)) .ni))) (.pr (.os y9) (.pr (.mp (.i .i64) (.i .i64)) .ni))))))))))))])],false,[true,false,false],fun p=>match p with|(a_0_sw,a_0_room,a_0_up,a_0_life,a_0_u,a_0_table,a_0_staged,a_0_armed,a_0_wait_l,a_0_done,a_0_dead,now_1,m_2)=>jR a_0_sw a_0_room a_0_up a_0_life a_0_u a_0_table a_0_staged a_0_armed a_0_wait_l a_0_done a_0_dead now_1 m_2⟩
theorem O_:bf prog 23 Oo:=aX bp bw (bq:=bq) (np:=3) (an:=[(4,{j:=some {vs:=[(0,.op 0 y8 []),(39,.x .b)],gs:=(.co (.op 0 y8 []) .ni),os:=[.bx y8 (.rc (.co (.x (.i .i64)) (.co (.x (.i .i64)) (.co (.x .b) (.co (.x (.i .i64)) (.co (.x (.i .i64)) (.co (.x (.sl y0)) (.co (.om 1) (.co (.om 2) (.co (.op 3 y7 []) (.co (.so 4) (.co (.om 5) .ni)))))))))))),.mp (.i .i64) (.sl y3),.mp (.i .i64) (.i .i64),.bx y7 (.rc (.co (.so 6) .ni)),.ar y9,.mp (.i .i64) (.i .i64),.ar (.i .i64)],kl:=[0,7,8,9,10,11,12]}}),(18,{e:=[(.normal,{vs:=[(12,.op 0 y4 [])],os:=[.bx y4 (.x y4)],kl:=[15000049]})]})]) (.cons OZ (.cons O5 (.cons OK (.cons Pa .nil)))) (by kernel_rfl) (by kernel_rfl)
def nc(a_0_sw:Int)(a_0_room:Int)(a_0_up:Bool)(a_0_life:Int)(a_0_u:Int)(a_0_table:Sl ae)(a_0_staged:Mp Int (Sl ai))(a_0_armed:Mp Int Int)(a_0_wait_l:Sl Int)(a_0_done:Sl av)(a_0_dead:Mp Int Int):Option (Sl ae×Int×Int×Bool×Int×Int×Sl ae×Mp Int (Sl ai)×Mp Int Int×Sl Int×Sl av×Mp Int Int):=
 (fm a_0_table).bind fun r1=>
 some (r1,a_0_sw,a_0_room,a_0_up,a_0_life,a_0_u,a_0_table,a_0_staged,a_0_armed,a_0_wait_l,a_0_done,a_0_dead)
def On:fZ:=⟨[(true,.pb y8 (.st (.pr (.x (.i .i64)) (.pr (.x (.i .i64)) (.pr (.x .b) (.pr (.x (.i .i64)) (.pr (.x (.i .i64)) (.pr (.x (.sl y0)) (.pr (.mp (.i .i64) (.sl y3)) (.pr (.mp (.i .i64) (.i .i64)) (.pr (.pb y7 (.st (.pr (.os (.i .i64)) .ni))) (.pr (.os y9) (.pr (.mp (.i .i64) (.i .i64)) .ni)))))))))))))],[([.x (.sl y0)],[.pb y8 (.st (.pr (.x (.i .i64)) (.pr (.x (.i .i64)) (.pr (.x .b) (.pr (.x (.i .i64)) (.pr (.x (.i .i64)) (.pr (.x (.sl y0)) (.pr (.mp (.i .i64) (.sl y3)) (.pr (.mp (.i .i64) (.i .i64)) (.pr (.pb y7 (.st (.pr (.os (.i .i64)) .ni))) (.pr (.os y9) (.pr (.mp (.i .i64) (.i .i64)) .ni))))))))))))])],false,[true],fun p=>match p with|(a_0_sw,a_0_room,a_0_up,a_0_life,a_0_u,a_0_table,a_0_staged,a_0_armed,a_0_wait_l,a_0_done,a_0_dead)=>nc a_0_sw a_0_room a_0_up a_0_life a_0_u a_0_table a_0_staged a_0_armed a_0_wait_l a_0_done a_0_dead⟩
theorem O9:bf prog 11 On:=aX bp bw (bq:=bq) (np:=1) (an:=[]) (.cons O1 .nil) (by kernel_rfl) (by kernel_rfl)
def kV:Option Bool:=
 (mb 1 1 10 2).bind fun r1=>
 (t6 0 (Sl.mk [r1]) 4).bind fun
 |.inl r2=>((mb 1 1 10 5).bind fun r3=>
 (fW 3 (⟨3,0,1,2,0,0,0,0,0,(Sl.mk [(⟨3,r3,false⟩:ai)])⟩:af)).bind fun(r4,r5,r6)=>
 (fW 3 (⟨4,0,1,2,0,10,0,0,0,Sl.nil⟩:af)).bind fun(r7,r8,r9)=>
 (ed 9).bind fun s10=>
 (ed 10).bind fun s11=>
 (iW).bind fun r12=>
 (bif(((((((r2==0)&&r5)&&r8)&&((af.fx r4)==7))&&((af.fx r7)==7))&&((s10.l.length:Int)==0))&&((s11.l.length:Int)==1))then((fw 0 s11.l.length).bind fun n13=>
 bif((decide ((gt s11.l n13)=(⟨1,2⟩:bF)))&&((r12.l.length:Int)==1))then((fw 0 r12.l.length).bind fun n14=>
 bif((((ae.pd (gt r12.l n14)).l).length:Int)==1)then((fw 0 r12.l.length).bind fun n15=>
 (fw 0 ((ae.pd (gt r12.l n15)).l).length).bind fun n16=>
 some ((bY.V (gt ((ae.pd (gt r12.l n15)).l) n16))==5))else
 (some false))else
 (some false))else
 (some false):Option Bool).bind fun b17=>
 some b17)
 |.inr (r18,r19,r20,r21,r22,r23,r24,r25,s26,s27,r28,r29)=>((mb 1 1 10 5).bind fun r30=>
 (jR r18 r19 r20 r21 r22 r23 r24 r25 s26 s27 r28 3 (⟨3,0,1,2,0,0,0,0,0,(Sl.mk [(⟨3,r30,false⟩:ai)])⟩:af)).bind fun(r31,r32,r33,q34,q35,q36,q37,q38,q39,q40,q41,s42,s43,q44)=>
 (jR q34 q35 q36 q37 q38 q39 q40 q41 s42 s43 q44 3 (⟨4,0,1,2,0,10,0,0,0,Sl.nil⟩:af)).bind fun(r45,r46,r47,q48,q49,q50,q51,q52,q53,q54,q55,s56,s57,q58)=>
 (je q48 q49 q50 q51 q52 q53 q54 q55 s56 s57 q58 9).bind fun(s59,q60,q61,q62,q63,q64,q65,q66,q67,s68,s69,q70)=>
 (je q60 q61 q62 q63 q64 q65 q66 q67 s68 s69 q70 10).bind fun(s71,q72,q73,q74,q75,q76,q77,q78,q79,s80,s81,q82)=>
 (nc q72 q73 q74 q75 q76 q77 q78 q79 s80 s81 q82).bind fun(r83,q84,q85,q86,q87,q88,q89,q90,q91,s92,s93,q94)=>
 (bif(((((((r29==0)&&r32)&&r46)&&((af.fx r31)==7))&&((af.fx r45)==7))&&((s59.l.length:Int)==0))&&((s71.l.length:Int)==1))then((fw 0 s71.l.length).bind fun n95=>
 bif((decide ((gt s71.l n95)=(⟨1,2⟩:bF)))&&((r83.l.length:Int)==1))then((fw 0 r83.l.length).bind fun n96=>
 bif((((ae.pd (gt r83.l n96)).l).length:Int)==1)then((fw 0 r83.l.length).bind fun n97=>
 (fw 0 ((ae.pd (gt r83.l n97)).l).length).bind fun n98=>
 some ((bY.V (gt ((ae.pd (gt r83.l n97)).l) n98))==5))else
 (some false))else
 (some false))else
 (some false):Option Bool).bind fun b99=>
 some b99)
def Om:fZ:=⟨[],[([.x .b],[])],true,[],fun p=>match p with|_=>kV⟩
theorem O8:bf prog 10 Om:=aX bp bw (bq:=bq) (np:=0) (an:=[(13,{j:=some {vs:=[(0,.x .b)]}})]) (.cons Sf (.cons Sa (.cons O4 (.cons KR (.cons O3 (.cons O_ (.cons OK (.cons O9 .nil)))))))) (by kernel_rfl) (by kernel_rfl)
def oD(now_0:Int)(m_1:af)(p_2:Arr 4 Int):Option Bool:=
 (nw).bind fun _=>
 (nv).bind fun _=>
 (fW now_0 m_1).bind fun(r1,r2,r3)=>
 (ol now_0 0 p_2).bind fun(r4,r5)=>
 (bif(!r2)then((ed now_0).bind fun s6=>
 (iW).bind fun r7=>
 (nd).bind fun r8=>
 (ny).bind fun r9=>
 (ot).bind fun r10=>
 (oq).bind fun r11=>
 (qk).bind fun r12=>
 bif((wr .i64 ((wr .i64 ((wr .i64 ((wr .i64 ((wr .i64 ((wr .i64 ((wr .i64 ((wr .i64 ((wr .i64 ((r3.l.length:Int)+(r4.l.length:Int)))+(r5.l.length:Int)))+(s6.l.length:Int)))+(r7.l.length:Int)))+(r8.l.length:Int)))+(r9.l.length:Int)))+(r10.l.length:Int)))+r11))+r12))==0)then((fS).bind fun r13=>
 bif(!r13)then((kV).bind fun r14=>
 some r14)else
 (some false))else
 (some false))else
 (some false):Option Bool).bind fun b15=>
 some b15
def Ol:fZ:=⟨[(false,.x (.i .i64)),(false,.x y4),(false,.x (.ar 4 (.i .i64)))],[([.x .b],[])],true,[],fun p=>match p with|(now_0,m_1,p_2)=>oD now_0 m_1 p_2⟩
theorem O7:bf prog 7 Ol:=aX bp bw (bq:=bq) (np:=3) (an:=[(13,{j:=some {vs:=[(6,.x .b)]}})]) (.cons TG (.cons TF (.cons O4 (.cons Sq (.cons KR (.cons O3 (.cons Sp (.cons So (.cons Sn (.cons Sm (.cons Sk (.cons Pm (.cons O8 .nil))))))))))))) (by kernel_rfl) (by kernel_rfl)
end Go.Proofs.YtjjajcecekocdaaGreat.A
