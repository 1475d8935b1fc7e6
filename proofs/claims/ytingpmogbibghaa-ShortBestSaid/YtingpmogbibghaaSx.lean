/- (ShortBest, ShortTree) What functions of the program compute, and that the model's run computes it. Conditions: as stated. -/
import Derived.Test.YtingpmogbibghaaS
import Derived.Test.YtingpmogbibghaaSwl
import Derived.Test.YtingpmogbibghaaChecked
import Derived.KernelRfl
open Go.Ev Go
noncomputable section
namespace Go.Proofs.Ytingpmogbibghaa.S
def ZR:Cq:=fun f=>if f=9 then(true,[])else if f=10 then(true,[])else if f=11 then(true,[])else if f=12 then(true,[])else if f=13 then(true,[])else if f=15 then(true,[])else if f=18 then(true,[])else if f=19 then(true,[])else if f=22 then(true,[])else if f=33 then(true,[])else if f=51 then(true,[])else if f=56 then(true,[])else if f=57 then(true,[])else if f=58 then(true,[])else if f=61 then(true,[])else if f=64 then(true,[])else if f=71 then(true,[])else if f=72 then(true,[])else if f=73 then(true,[])else if f=74 then(true,[])else if f=75 then(true,[])else if f=76 then(true,[])else if f=77 then(true,[])else if f=79 then(true,[])else if f=81 then(true,[])else if f=85 then(true,[])else if f=89 then(true,[])else if f=90 then(true,[])else if f=91 then(true,[])else if f=92 then(true,[])else if f=102 then(true,[])else if f=106 then(true,[])else if f=107 then(true,[])else if f=109 then(true,[])else if f=110 then(true,[true,false])else if f=111 then(true,[])else if f=113 then(true,[])else if f=115 then(true,[])else if f=117 then(true,[])else if f=118 then(true,[])else if f=120 then(true,[])else if f=121 then(true,[])else if f=124 then(true,[])else if f=126 then(true,[])else if f=127 then(true,[])else if f=130 then(true,[])else if f=134 then(true,[])else if f=135 then(true,[])else if f=136 then(true,[true,false,false])else if f=137 then(true,[true,false])else if f=138 then(true,[])else if f=139 then(true,[])else if f=140 then(true,[])else if f=141 then(true,[])else if f=143 then(true,[])else if f=144 then(true,[])else if f=145 then(true,[])else if f=146 then(true,[])else if f=147 then(true,[])else if f=148 then(true,[])else if f=153 then(true,[])else if f=154 then(true,[])else if f=156 then(true,[])else if f=157 then(true,[true,false,false,false])else if f=158 then(true,[true,false,false,false,false])else if f=159 then(true,[true,false,false,false,false])else if f=160 then(true,[])else if f=161 then(true,[])else if f=162 then(true,[true,false,false,false,false])else if f=163 then(true,[true,false,false,false,false])else if f=164 then(true,[])else if f=165 then(true,[true,false,false,false,false])else if f=166 then(true,[true,false,false,false])else if f=175 then(true,[])else if f=178 then(true,[true,false,false,false,false])else(false,[])
def Y3(w:Sl Nat)(ls:Sl Int):Option Nat:=Zf o3 w ls
def ZP:kD:=⟨[(false,.x (.sl (.f .f64))),(false,.x (.sl (.i .i64)))],[([.x (.f .f64)],[])],true,[],fun p=>match p with|(w,ls)=>Y3 w ls⟩
theorem ZT:cm prog 73 ZP:=Zy (ro':=true) SL
def YV(t_0:aj)(ports_3:Sl Int)(r5:Sl Nat):(Int×Int×Sl Int)->Option ((Int×Int×Sl Int)⊕(Int×Sl Int)):=fun(i11,i12,s13)=>
 bif decide (i12<(ports_3.l.length:Int))then(((cZ i12 ports_3.l.length).bind fun n14=>
 (sX t_0 i11 (gt ports_3.l n14)).bind fun(r15,r16,r17,r18)=>
 (bif r18 then((tU r5 r17).bind fun r19=>
 some r19)else
 (some false):Option Bool).bind fun b20=>
 bif b20 then((m_ (s13.l++[r17])).bind fun l21=>
 some (r15,(Sl.mk l21)))else
 (some (i11,s13)):Option (Int×Sl Int)).bind fun(i22,s23)=>
 some (.inl (i22,wr .i64 (i12+1),s23)))else
 (some (.inr (i11,s13)))
def Y1(t_0:aj)(bits_1:Sl Int)(from_2:Int)(ports_3:Sl Int):Option Bool:=
 ((ri t_0 bits_1).bind fun r1=>
 bif(!r1)then(some true)else
 ((mj t_0 bits_1).bind fun r2=>
 some ((((!r2)||(decide (from_2<0)))||(decide (from_2>=(aj.ah t_0))))||(decide ((ports_3.l.length:Int)>12)))):Option Bool).bind fun b3=>
 bif b3 then((mr).bind fun r4=>
 some r4)else
 ((vS bits_1).bind fun r5=>
 (aY (YV t_0 ports_3 r5) (from_2,0,Sl.nil)).bind fun(i24,s25)=>
 (gD t_0 r5 i24).bind fun r26=>
 (bif((r26.l.length:Int)==(aj.ah t_0))then((cZ i24 r26.l.length).bind fun n27=>
 bif DH .f64 (gt r26.l n27) 0 then((cZ from_2 r26.l.length).bind fun n28=>
 (Y3 r5 s25).bind fun r29=>
 bif(MW .f64 (gt r26.l n28) r29||DH .f64 (gt r26.l n28) r29)then((mr).bind fun r30=>
 some r30)else
 (some false))else
 (some false))else
 (some false):Option Bool).bind fun b31=>
 some b31)
def ZO:kD:=⟨[(false,.x y0),(false,.x (.sl (.i .u64))),(false,.x (.i .i64)),(false,.x (.sl (.i .i64)))],[([.x .b],[])],true,[],fun p=>match p with|(t_0,bits_1,from_2,ports_3)=>Y1 t_0 bits_1 from_2 ports_3⟩
theorem ZS:cm prog 11 ZO:=bM cM cN (cE:=ZR) (np:=4) (an:=[(4,{j:=some {vs:=[(42,.x .b)]}}),(16,{j:=some {vs:=[(10,.x (.i .i64)),(11,.so 0),(12,.x (.i .i64))],os:=[.ar (.i .i64)]},e:=[(.exit 0,{vs:=[(10,.x (.i .i64)),(11,.so 0)],os:=[.ar (.i .i64)]})]}),(20,{e:=[(.normal,{vs:=[(10,.x (.i .i64)),(11,.so 0)],os:=[.ar (.i .i64)],kl:=[2]})]}),(24,{j:=some {vs:=[(70,.x .b)]}}),(32,{j:=some {vs:=[(8,.x .b)]}})]) (.cons Wn (.cons U9 (.cons U5 (.cons U3 (.cons UY (.cons U_ (.cons QU (.cons SL (.cons ZT .nil))))))))) (by kernel_rfl) (by kernel_rfl)
end Go.Proofs.Ytingpmogbibghaa.S
