/- (ShortBest, ShortTree) What functions of the program compute, and that the model's run computes it. Conditions: as stated. -/
import Derived.Test.YtingpmogbibghaaS
import Derived.Test.YtingpmogbibghaaSwl
import Derived.Test.YtingpmogbibghaaChecked
import Derived.KernelRfl
open Go.Ev Go
noncomputable section
namespace Go.Proofs.Ytingpmogbibghaa.S
def ZR:Cq:=fun f=>if f=9 then(true,[])else if f=10 then(true,[])else if f=11 then(true,[])else if f=12 then(true,[])else if f=13 then(true,[])else if f=15 then(true,[])else if f=18 then(true,[])else if f=19 then(true,[])else if f=22 then(true,[])else if f=33 then(true,[])else if f=51 then(true,[])else if f=56 then(true,[])else if f=57 then(true,[])else if f=58 then(true,[])else if f=61 then(true,[])else if f=64 then(true,[])else if f=71 then(true,[])else if f=72 then(true,[])else if f=73 then(true,[])else if f=74 then(true,[])else if f=75 then(true,[])else if f=76 then(true,[])else if f=77 then(true,[])else if f=79 then(true,[])else if f=81 then(true,[])else if f=85 then(true,[])else if f=89 then(true,[])else if f=90 then(true,[])else if f=91 then(true,[])else if f=92 then(true,[])else if f=102 then(true,[])else if f=106 then(true,[])else if f=107 then(true,[])else if f=109 then(true,[])else if f=110 then(true,[true,false])else if f=111 then(true,[])else if f=113 then(true,[])else if f=115 then(true,[])else if f=117 then(true,[])else if f=118 then(true,[])else if f=120 then(true,[])else if f=121 then(true,[])else if f=124 then(true,[])else if f=126 then(true,[])else if f=127 then(true,[])else if f=130 then(true,[])else if f=134 then(true,[])else if f=135 then(true,[])else if f=136 then(true,[true,false,false])else if f=137 then(true,[true,false])else if f=138 then(true,[])else if f=139 then(true,[])else if f=140 then(true,[])else if f=141 then(true,[])else if f=143 then(true,[])else if f=144 then(true,[])else if f=145 then(true,[])else if f=146 then(true,[])else if f=147 then(true,[])else if f=148 then(true,[])else if f=153 then(true,[])else if f=154 then(true,[])else if f=156 then(true,[])else if f=157 then(true,[true,false,false,false])else if f=158 then(true,[true,false,false,false,false])else if f=159 then(true,[true,false,false,false,false])else if f=160 then(true,[])else if f=161 then(true,[])else if f=162 then(true,[true,false,false,false,false])else if f=163 then(true,[true,false,false,false,false])else if f=164 then(true,[])else if f=165 then(true,[true,false,false,false,false])else if f=166 then(true,[true,false,false,false])else if f=175 then(true,[])else if f=178 then(true,[true,false,false,false,false])else(false,[])
def Y3(w:Sl Nat)(ls:Sl Int):Option Nat:=Zf o3 w ls
def ZP:kD:=⟨[(false,.x (.sl (.f .f64))),(false,.x (.sl (.i .i64)))],[([.x (.f .f64)],[])],true,[],fun p=>match p with|(w,ls)=>Y3 w ls⟩
theorem ZT:cm prog 73 ZP:=Zy (ro':=true) SL
def ZY(t_0:aj)(r5:Sl Nat)(r6:Sl Int)(n8:Nat):(Int×Int×Sl Int)->Option ((Int×Int×Sl Int)⊕(Bool⊕(Sl Int))):=fun(i19,i20,s21)=>
 bif(i19 !=(dQ.At (gt ((aj.bg t_0).l) n8)))then(bif decide (i20>=(aj.ah t_0))then(some (.inr (.inl false)))else
 ((cZ i19 r6.l.length).bind fun n22=>
 (Xc t_0 i19 (gt r6.l n22)).bind fun(r23,r24,r25,r26)=>
 (bif(!r26)then(some true)else
 ((tU r5 r25).bind fun r27=>
 some (!r27)):Option Bool).bind fun b28=>
 bif b28 then(some (.inr (.inl false)))else
 ((m_ (s21.l++[r25])).bind fun l29=>
 some (.inl (r23,wr .i64 (i20+1),(Sl.mk l29))))))else
 (some (.inr (.inr s21)))
def Z1(t_0:aj)(bits_1:Sl Int)(h_2:Int)(from_3:Int):Option Bool:=
 ((ri t_0 bits_1).bind fun r1=>
 bif(!r1)then(some true)else
 ((mj t_0 bits_1).bind fun r2=>
 some (((((!r2)||(decide (h_2<0)))||(decide (h_2>=(((aj.bg t_0).l).length:Int))))||(decide (from_3<0)))||(decide (from_3>=(aj.ah t_0))))):Option Bool).bind fun b3=>
 bif b3 then((mr).bind fun r4=>
 some r4)else
 ((vS bits_1).bind fun r5=>
 (kp t_0 r5 h_2).bind fun(r6,r7)=>
 (cZ h_2 ((aj.bg t_0).l).length).bind fun n8=>
 (gD t_0 r5 (dQ.At (gt ((aj.bg t_0).l) n8))).bind fun r9=>
 bif(((r7 !=0)||((r6.l.length:Int) !=(aj.ah t_0)))||((r9.l.length:Int) !=(aj.ah t_0)))then(some false)else
 ((cZ from_3 r6.l.length).bind fun n10=>
 bif((gt r6.l n10)==(-1))then(((tU r9 from_3).bind fun r11=>
 bif(!r11)then((mr).bind fun r12=>
 some r12)else
 (some false):Option Bool).bind fun b13=>
 some b13)else
 ((aY (ZY t_0 r5 r6 n8) (from_3,0,Sl.nil)).bind fun
 |.inl b30=>(some b30)
 |.inr s31=>(((Y3 r5 s31).bind fun r32=>
 (cZ from_3 r9.l.length).bind fun n33=>
 bif((DH .f64 r32 (gt r9.l n33))&&(decide ((s31.l.length:Int)<(aj.ah t_0))))then((cZ (dQ.At (gt ((aj.bg t_0).l) n8)) r6.l.length).bind fun n34=>
 (cZ h_2 ((aj.bg t_0).l).length).bind fun n35=>
 bif((gt r6.l n34)==(dQ.f_ (gt ((aj.bg t_0).l) n35)))then((mr).bind fun r36=>
 some r36)else
 (some false))else
 (some false):Option Bool).bind fun b37=>
 some b37))))
def aaf:kD:=⟨[(false,.x y0),(false,.x (.sl (.i .u64))),(false,.x (.i .i64)),(false,.x (.i .i64))],[([.x .b],[])],true,[],fun p=>match p with|(t_0,bits_1,h_2,from_3)=>Z1 t_0 bits_1 h_2 from_3⟩
theorem aag:cm prog 12 aaf:=bM cM cN (cE:=ZR) (np:=4) (an:=[(4,{j:=some {vs:=[(51,.x .b)]}}),(24,{j:=some {vs:=[(8,.x .b)]}}),(32,{j:=some {vs:=[(14,.x (.i .i64)),(15,.so 0),(16,.x (.i .i64))],os:=[.ar (.i .i64)]},e:=[(.ret,{vs:=[(8,.x .b)]}),(.exit 0,{vs:=[(15,.so 0)],os:=[.ar (.i .i64)]})]}),(46,{j:=some {vs:=[(129,.x .b)]}}),(54,{j:=some {vs:=[(8,.x .b)]}})]) (.cons Wn (.cons U9 (.cons U5 (.cons U3 (.cons SG (.cons QU (.cons U_ (.cons YM (.cons ZT .nil))))))))) (by kernel_rfl) (by kernel_rfl)
end Go.Proofs.Ytingpmogbibghaa.S
