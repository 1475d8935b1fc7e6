/- What functions of the program compute, and that the model's run computes it. Conditions: as stated. -/
import Derived.Test.YthcplpfiidlinaaDoorJS
import Derived.Test.YthcplpfiidlinaaDoorChecked
import Derived.KernelRfl
open Option.some renaming inj->aa
open Go.Ev Go
noncomputable section
namespace Go.Proofs.YthcplpfiidlinaaDoor.J
abbrev prog:Program:=Tryd.prog
theorem mixed:prog.follows .mixedOrders=true:=by kernel_rfl
def Ii:Arr 32 Int:=⟨[0,1,28,2,29,14,24,3,30,22,20,15,25,17,4,8,31,27,13,23,21,19,16,7,26,12,18,6,11,5,10,9],rfl⟩
theorem dM:lQ:=HH (v:=.pt (.ar 32 (.i .u8)) Ii) (fun g w h=>by
 unfold L6 at h;split at h
 .rename_i e;exact⟨e,(aa h).symm⟩
 .cases h) rfl (fun h n=>⟨ct (dY rfl ⟨rfl,rfl⟩),trivial,rfl⟩)
def df:AB:=fun f=>if f=3 then(true,[])else if f=4 then(true,[])else if f=6 then(true,[])else if f=7 then(true,[])else if f=8 then(true,[])else if f=9 then(true,[])else if f=10 then(true,[])else if f=14 then(true,[])else if f=15 then(true,[])else if f=16 then(true,[])else if f=18 then(true,[])else if f=19 then(true,[])else if f=20 then(true,[])else if f=24 then(true,[])else if f=27 then(false,[true])else if f=28 then(false,[true])else if f=29 then(false,[true])else if f=34 then(true,[])else if f=35 then(true,[])else if f=37 then(true,[])else if f=38 then(true,[])else if f=39 then(true,[])else if f=42 then(false,[true,false])else if f=45 then(false,[true])else if f=46 then(false,[true])else if f=47 then(true,[])else if f=49 then(true,[])else if f=50 then(true,[])else if f=51 then(true,[])else if f=52 then(true,[])else if f=54 then(true,[])else if f=56 then(true,[])else if f=57 then(false,[true,false,false,false,false])else if f=58 then(true,[])else if f=59 then(true,[])else if f=61 then(true,[])else if f=62 then(false,[true,false,false,false])else if f=63 then(true,[])else if f=64 then(true,[])else if f=65 then(true,[])else if f=66 then(true,[])else if f=69 then(true,[])else if f=70 then(true,[])else if f=71 then(true,[])else if f=72 then(true,[])else if f=74 then(true,[])else if f=75 then(true,[])else if f=76 then(true,[])else if f=85 then(true,[])else if f=87 then(true,[])else if f=88 then(true,[])else if f=89 then(true,[])else if f=90 then(true,[])else if f=91 then(true,[])else if f=92 then(true,[])else if f=93 then(true,[])else if f=95 then(true,[])else if f=96 then(true,[])else if f=97 then(true,[])else if f=98 then(true,[])else if f=99 then(true,[])else if f=100 then(true,[])else if f=101 then(true,[])else if f=122 then(true,[])else if f=124 then(true,[])else if f=125 then(true,[])else if f=134 then(true,[])else if f=135 then(true,[])else if f=138 then(true,[])else(false,[])
def T6:AB:=fun f=>if f=1000000000 then(true,[])else df f
@[reducible] def bz:Type:=Int×Int×Int×Int×Int×Int
@[reducible] def bz.A (x:bz):Int:=x.1
@[reducible] def bz.nF (x:bz):Int:=x.2.1
@[reducible] def bz.B (x:bz):Int:=x.2.2.1
@[reducible] def bz.nE (x:bz):Int:=x.2.2.2.1
@[reducible] def bz.xr (x:bz):Int:=x.2.2.2.2.1
@[reducible] def bz.p9 (x:bz):Int:=x.2.2.2.2.2
@[reducible] def fU:Type:=Int×Int
@[reducible] def fU.At (x:fU):Int:=x.1
@[reducible] def fU.oe (x:fU):Int:=x.2
@[reducible] def ah:Type:=Int×Sl bz×Sl fU
@[reducible] def ah.br (x:ah):Int:=x.1
@[reducible] def ah.bW (x:ah):Sl bz:=x.2.1
@[reducible] def ah.bf (x:ah):Sl fU:=x.2.2
@[reducible] def jF:Type:=Int×Int×Int×Int
@[reducible] def jF.Sw (x:jF):Int:=x.1
@[reducible] def jF.mI (x:jF):Int:=x.2.1
@[reducible] def jF.oe (x:jF):Int:=x.2.2.1
@[reducible] def jF.uv (x:jF):Int:=x.2.2.2
@[reducible] def ki:Type:=Int×Int×Sl Int
@[reducible] def ki.No (x:ki):Int:=x.1
@[reducible] def ki.At (x:ki):Int:=x.2.1
@[reducible] def ki.RW (x:ki):Sl Int:=x.2.2
@[reducible] def bK:Type:=Sl jF×Sl ki×Int×Int×Int×Int
@[reducible] def bK.i_ (x:bK):Sl jF:=x.1
@[reducible] def bK.eN (x:bK):Sl ki:=x.2.1
@[reducible] def bK.AD (x:bK):Int:=x.2.2.1
@[reducible] def bK.G1 (x:bK):Int:=x.2.2.2.1
@[reducible] def bK.pT (x:bK):Int:=x.2.2.2.2.1
@[reducible] def bK.To (x:bK):Int:=x.2.2.2.2.2
@[reducible] def y1:Ty:=.st (.pr (.i .i64) (.pr (.i .i64) (.pr (.i .i64) (.pr (.i .i64) (.pr (.i .i64) (.i .i64))))))
@[reducible] def y2:Ty:=.st (.pr (.i .i64) (.i .i64))
@[reducible] def y0:Ty:=.st (.pr (.i .i64) (.pr (.sl y1) (.sl y2)))
@[reducible] def y4:Ty:=.st (.pr (.i .i64) (.pr (.i .i64) (.pr (.i .i64) (.i .i64))))
@[reducible] def y5:Ty:=.st (.pr (.i .i64) (.pr (.i .i64) (.sl (.i .i64))))
@[reducible] def y3:Ty:=.st (.pr (.sl y4) (.pr (.sl y5) (.pr (.i .i64) (.pr (.i .i64) (.pr (.i .i64) (.i .i64))))))
@[reducible] def ae:Type:=Int×Int×Int×Int
@[reducible] def ae.Sw (x:ae):Int:=x.1
@[reducible] def ae.mI (x:ae):Int:=x.2.1
@[reducible] def ae.oe (x:ae):Int:=x.2.2.1
@[reducible] def ae.uv (x:ae):Int:=x.2.2.2
@[reducible] def aj:Type:=Int×Int×Sl Int
@[reducible] def aj.No (x:aj):Int:=x.1
@[reducible] def aj.At (x:aj):Int:=x.2.1
@[reducible] def aj.RW (x:aj):Sl Int:=x.2.2
@[reducible] def aK:Type:=Sl ae×Sl aj×Int×Int×Int×Int
@[reducible] def aK.i_ (x:aK):Sl ae:=x.1
@[reducible] def aK.eN (x:aK):Sl aj:=x.2.1
@[reducible] def aK.AD (x:aK):Int:=x.2.2.1
@[reducible] def aK.G1 (x:aK):Int:=x.2.2.2.1
@[reducible] def aK.pT (x:aK):Int:=x.2.2.2.2.1
@[reducible] def aK.To (x:aK):Int:=x.2.2.2.2.2
@[reducible] def bo:Type:=Int×Int
@[reducible] def bo.sw (x:bo):Int:=x.1
@[reducible] def bo.Ag (x:bo):Int:=x.2
@[reducible] def am:Type:=Int×Int×Int
@[reducible] def am.K (x:am):Int:=x.2.1
@[reducible] def am.H (x:am):Int:=x.2.2
@[reducible] def bh:Type:=ah×Sl (Sl Int)×Sl (Sl Int)×aK×Sl am
@[reducible] def bh.t (x:bh):ah:=x.1
@[reducible] def bh.old (x:bh):Sl (Sl Int):=x.2.1
@[reducible] def bh.now (x:bh):Sl (Sl Int):=x.2.2.1
@[reducible] def bh.p (x:bh):aK:=x.2.2.2.1
@[reducible] def bh.eg (x:bh):Sl am:=x.2.2.2.2
@[reducible] def y7:Ty:=.st (.pr (.i .i64) (.pr (.i .i64) (.i .i64)))
@[reducible] def y6:Ty:=.st (.pr y0 (.pr (.sl (.sl (.i .i64))) (.pr (.sl (.sl (.i .i64))) (.pr y3 (.sl y7)))))
@[reducible] def aQ:Type:=Int×Int
@[reducible] def aQ.pT (x:aQ):Int:=x.1
@[reducible] def aQ.To (x:aQ):Int:=x.2
@[reducible] def bI:Type:=Int×Int×Int
@[reducible] def bI.I (x:bI):Int:=x.1
@[reducible] def bI.J (x:bI):Int:=x.2.1
@[reducible] def bI.Tb (x:bI):Int:=x.2.2
def m_(r_1:Sl (Sl Int)):Int->Option (Int⊕(Bool⊕Unit)):=fun i2=>
 bif decide (i2<(r_1.l.length:Int))then((fk i2 r_1.l.length).bind fun n3=>
 bif decide ((((gt r_1.l n3).l).length:Int)>12)then(some (.inr (.inl false)))else
 (some (.inl (wr .i64 (i2+1)))))else
 (some (.inr (.inr ())))
def lh(t_0:ah)(r_1:Sl (Sl Int)):Option Bool:=
 (bE (m_ r_1) 0).bind fun
 |.inl b4=>(some b4)
 |.inr _=>(some (((decide ((((ah.bW t_0).l).length:Int)<=30))&&(decide ((((ah.bf t_0).l).length:Int)<=12)))&&(decide ((r_1.l.length:Int)<=12))))
def S5:lD:=⟨[(false,.x y0),(false,.x (.sl (.sl (.i .i64))))],[([.x .b],[])],true,[],fun p=>match p with|(t_0,r_1)=>lh t_0 r_1⟩
theorem S7:cY prog 19 S5:=cH mixed dM (df:=df) (np:=2) (an:=[(5,{j:=some {vs:=[(5,.x (.i .i64))]},e:=[(.ret,{vs:=[(4,.x .b)]}),(.exit 0,{})]})]) .nil (by kernel_rfl) (by kernel_rfl)
def ld(t_0:ah):(Int×Sl bo)->Option ((Int×Sl bo)⊕(Sl bo)):=fun(i4,s5)=>
 bif decide (i4<(((ah.bW t_0).l).length:Int))then((fk i4 ((ah.bW t_0).l).length).bind fun n6=>
 (iI (s5.l++[(⟨bz.A (gt ((ah.bW t_0).l) n6),bz.nF (gt ((ah.bW t_0).l) n6)⟩:bo),(⟨bz.B (gt ((ah.bW t_0).l) n6),bz.nE (gt ((ah.bW t_0).l) n6)⟩:bo)])).bind fun l7=>
 some (.inl (wr .i64 (i4+1),(Sl.mk l7))))else
 (some (.inr s5))
def lc(t_0:ah):(Int×Sl bo)->Option ((Int×Sl bo)⊕(Sl bo)):=fun(i11,s12)=>
 bif decide (i11<(((ah.bf t_0).l).length:Int))then((fk i11 ((ah.bf t_0).l).length).bind fun n13=>
 (iI (s12.l++[gt ((ah.bf t_0).l) n13])).bind fun l14=>
 some (.inl (wr .i64 (i11+1),(Sl.mk l14))))else
 (some (.inr s12))
def mK(t_0:ah):Option (Sl bo):=
 (bE (ld t_0) (0,Sl.nil)).bind fun s8=>
 (bE (lc t_0) (0,s8)).bind fun s15=>
 some s15
def TU:lD:=⟨[(false,.x y0)],[([.x (.sl y2)],[])],false,[],fun p=>match p with|t_0=>mK t_0⟩
theorem UJ:cY prog 94 TU:=cH mixed dM (df:=df) (np:=1) (an:=[(7,{j:=some {vs:=[(3,.so 0),(11,.x (.i .i64))],os:=[.ar y2]},e:=[(.exit 0,{vs:=[(3,.so 0)],os:=[.ar y2]})]}),(19,{j:=some {vs:=[(3,.so 0),(32,.x (.i .i64))],os:=[.ar y2],kl:=[1]},e:=[(.exit 2,{vs:=[(3,.so 0)],os:=[.ar y2],kl:=[1]})]})]) .nil (by kernel_rfl) (by kernel_rfl)
def lY(t_0:ah):Int->Option (Int⊕(Bool⊕Unit)):=fun i2=>
 bif decide (i2<(((ah.bW t_0).l).length:Int))then((fk i2 ((ah.bW t_0).l).length).bind fun n3=>
 bif(((((bz.A (gt ((ah.bW t_0).l) n3))==(bz.B (gt ((ah.bW t_0).l) n3)))||(decide ((bz.xr (gt ((ah.bW t_0).l) n3))<1)))||(decide ((bz.xr (gt ((ah.bW t_0).l) n3))>(bz.p9 (gt ((ah.bW t_0).l) n3)))))||(decide ((bz.p9 (gt ((ah.bW t_0).l) n3))>1000)))then(some (.inr (.inl false)))else
 (some (.inl (wr .i64 (i2+1)))))else
 (some (.inr (.inr ())))
def iJ(t_0:ah)(r5:Sl bo):(Int×Mp bo Int)->Option ((Int×Mp bo Int)⊕(Bool⊕Unit)):=fun(i9,m10)=>
 bif decide (i9<(r5.l.length:Int))then((fk i9 r5.l.length).bind fun n11=>
 (vv ((mb m10 0 (gt r5.l n11)).1) ((mb m10 0 (gt r5.l n11)).2.2) (wr .i64 ((o6 m10 0 (gt r5.l n11))+1))).bind fun m12=>
 bif(((((decide ((bo.sw (gt r5.l n11))<0))||(decide ((bo.sw (gt r5.l n11))>=(ah.br t_0))))||(decide ((bo.Ag (gt r5.l n11))<0)))||(decide ((bo.Ag (gt r5.l n11))>=8)))||(decide ((o6 m12 0 (gt r5.l n11))>1)))then(some (.inr (.inl false)))else
 (some (.inl (wr .i64 (i9+1),m12))))else
 (some (.inr (.inr ())))
def nH(t_0:ah):Option Bool:=
 bif((((decide ((ah.br t_0)<1))||(decide ((ah.br t_0)>8)))||(decide ((((ah.bW t_0).l).length:Int)>24)))||(decide ((((ah.bf t_0).l).length:Int)>8)))then(some false)else
 ((bE (lY t_0) 0).bind fun
 |.inl b4=>(some b4)
 |.inr _=>((mK t_0).bind fun r5=>
 (bE (iJ t_0 r5) (0,(Mp.none:Mp bo Int))).bind fun
 |.inl b13=>(some b13)
 |.inr _=>(some true)))
def TJ:lD:=⟨[(false,.x y0)],[([.x .b],[])],true,[],fun p=>match p with|t_0=>nH t_0⟩
theorem UC:cY prog 69 TJ:=cH mixed dM (df:=df) (np:=1) (an:=[(10,{j:=some {vs:=[(31,.x (.i .i64))]},e:=[(.ret,{vs:=[(2,.x .b)]}),(.exit 0,{})]}),(27,{j:=some {vs:=[(5,.om 0),(62,.x (.i .i64))],os:=[.mp y2 (.i .i64)],kl:=[1]},e:=[(.ret,{vs:=[(2,.x .b)],kl:=[1]}),(.exit 2,{kl:=[1]})]})]) (.cons UJ .nil) (by kernel_rfl) (by kernel_rfl)
def qs(p_0:Int):Option Bool:=some ((decide (p_0<0))||(decide (p_0>=8)))
def Vl:lD:=⟨[(false,.x (.i .i64))],[([.x .b],[])],true,[],fun p=>match p with|p_0=>qs p_0⟩
theorem Vr:cY prog 71 Vl:=cH mixed dM (df:=df) (np:=1) (an:=[]) .nil (by kernel_rfl) (by kernel_rfl)
def cL(s_0:Sl Int):Int->Option (Int⊕(Int⊕Unit)):=fun i2=>
 bif decide (i2<(s_0.l.length:Int))then((fk i2 s_0.l.length).bind fun n3=>
 (qs (gt s_0.l n3)).bind fun r4=>
 bif r4 then(some (.inr (.inl i2)))else
 (some (.inl (wr .i64 (i2+1)))))else
 (some (.inr (.inr ())))
def c9(s_0:Sl Int):Option Int:=
 (bE (cL s_0) 0).bind fun
 |.inl i5=>(some i5)
 |.inr _=>(some (-1))
def Vk:lD:=⟨[(false,.x (.sl (.i .i64))),(false,.fn 71 .ni)],[([.x (.i .i64)],[])],true,[],fun p=>match p with|s_0=>c9 s_0⟩
theorem Vq:cY prog 95 Vk:=cH mixed dM (df:=df) (np:=2) (an:=[(5,{j:=some {vs:=[(8,.x (.i .i64))]},e:=[(.ret,{vs:=[(4,.x (.i .i64))]}),(.exit 0,{})]})]) (.cons Vr .nil) (by kernel_rfl) (by kernel_rfl)
def bV(s_0:Sl Int):Option Bool:=
 (c9 s_0).bind fun r1=>
 some (decide (r1>=0))
def Vj:lD:=⟨[(false,.x (.sl (.i .i64))),(false,.fn 71 .ni)],[([.x .b],[])],true,[],fun p=>match p with|s_0=>bV s_0⟩
theorem Vp:cY prog 70 Vj:=cH mixed dM (df:=df) (np:=2) (an:=[]) (.cons Vq .nil) (by kernel_rfl) (by kernel_rfl)
def j3(t_0:ah)(r_1:Sl (Sl Int)):Int->Option (Int⊕(Bool⊕Unit)):=fun i3=>
 bif decide (i3<(r_1.l.length:Int))then((fk i3 r_1.l.length).bind fun n4=>
 (bif((((gt r_1.l n4).l).length:Int) !=(((ah.bf t_0).l).length:Int))then(some true)else
 ((bV (gt r_1.l n4)).bind fun r5=>
 some r5):Option Bool).bind fun b6=>
 bif b6 then(some (.inr (.inl false)))else
 (some (.inl (wr .i64 (i3+1)))))else
 (some (.inr (.inr ())))
def ju(t_0:ah)(r_1:Sl (Sl Int)):Option Bool:=
 (nH t_0).bind fun r1=>
 bif((!r1)||((r_1.l.length:Int) !=(ah.br t_0)))then(some false)else
 ((bE (j3 t_0 r_1) 0).bind fun
 |.inl b7=>(some b7)
 |.inr _=>(some true))
def Vi:lD:=⟨[(false,.x y0),(false,.x (.sl (.sl (.i .i64))))],[([.x .b],[])],true,[],fun p=>match p with|(t_0,r_1)=>ju t_0 r_1⟩
theorem Us:cY prog 34 Vi:=cH mixed dM (df:=df) (np:=2) (an:=[(10,{j:=some {vs:=[(19,.x (.i .i64))]},e:=[(.ret,{vs:=[(4,.x .b)]}),(.exit 0,{})]}),(18,{j:=some {vs:=[(32,.x .b)]}})]) (.cons UC (.cons Vp .nil)) (by kernel_rfl) (by kernel_rfl)
def mD(r_0:Sl (Sl Int))(sw_1:Int)(h_2:Int):Option (Int×Bool):=
 (bif(((decide (sw_1<0))||(decide (sw_1>=(r_0.l.length:Int))))||(decide (h_2<0)))then(some true)else
 ((fk sw_1 r_0.l.length).bind fun n1=>
 some (decide (h_2>=(((gt r_0.l n1).l).length:Int)))):Option Bool).bind fun b2=>
 bif b2 then(some (0,false))else
 ((fk sw_1 r_0.l.length).bind fun n3=>
 (fk h_2 ((gt r_0.l n3).l).length).bind fun n4=>
 some (gt ((gt r_0.l n3).l) n4,true))
def Vh:lD:=⟨[(false,.x (.sl (.sl (.i .i64)))),(false,.x (.i .i64)),(false,.x (.i .i64))],[([.x (.i .i64),.x .b],[])],true,[],fun p=>match p with|(r_0,sw_1,h_2)=>mD r_0 sw_1 h_2⟩
theorem Vb:cY prog 96 Vh:=cH mixed dM (df:=df) (np:=3) (an:=[(4,{j:=some {vs:=[(28,.x .b)]}})]) .nil (by kernel_rfl) (by kernel_rfl)
def gf(s_0:Sl Int)(v_1:Int):Int->Option (Int⊕(Int⊕Unit)):=fun i2=>
 bif decide (i2<(s_0.l.length:Int))then((fk i2 s_0.l.length).bind fun n3=>
 bif(v_1==(gt s_0.l n3))then(some (.inr (.inl i2)))else
 (some (.inl (wr .i64 (i2+1)))))else
 (some (.inr (.inr ())))
def ia(s_0:Sl Int)(v_1:Int):Option Int:=
 (bE (gf s_0 v_1) 0).bind fun
 |.inl i4=>(some i4)
 |.inr _=>(some (-1))
def Vg:lD:=⟨[(false,.x (.sl (.i .i64))),(false,.x (.i .i64))],[([.x (.i .i64)],[])],true,[],fun p=>match p with|(s_0,v_1)=>ia s_0 v_1⟩
theorem Vo:cY prog 72 Vg:=cH mixed dM (df:=df) (np:=2) (an:=[(5,{j:=some {vs:=[(8,.x (.i .i64))]},e:=[(.ret,{vs:=[(4,.x (.i .i64))]}),(.exit 0,{})]})]) .nil (by kernel_rfl) (by kernel_rfl)
def cO(s_0:Sl Int)(v_1:Int):Option Bool:=
 (ia s_0 v_1).bind fun r1=>
 some (decide (r1>=0))
def T5:lD:=⟨[(false,.x (.sl (.i .i64))),(false,.x (.i .i64))],[([.x .b],[])],true,[],fun p=>match p with|(s_0,v_1)=>cO s_0 v_1⟩
theorem Og:cY prog 35 T5:=cH mixed dM (df:=df) (np:=2) (an:=[]) (.cons Vo .nil) (by kernel_rfl) (by kernel_rfl)
def iu(l_0:Sl Int):Option Bool:=
 (bif decide ((l_0.l.length:Int)>0)then((qE l_0.l 0 (wr .i64 ((l_0.l.length:Int)-1))).bind fun l1=>
 (fk (wr .i64 ((l_0.l.length:Int)-1)) l_0.l.length).bind fun n2=>
 (cO (l_0.to l1) (gt l_0.l n2)).bind fun r3=>
 some r3)else
 (some false):Option Bool).bind fun b4=>
 some b4
def T4:lD:=⟨[(false,.x (.sl (.i .i64)))],[([.x .b],[])],true,[],fun p=>match p with|l_0=>iu l_0⟩
theorem UO:cY prog 97 T4:=cH mixed dM (df:=df) (np:=1) (an:=[(3,{j:=some {vs:=[(2,.x .b)]}})]) (.cons Og .nil) (by kernel_rfl) (by kernel_rfl)
def mY(t_0:ah)(sw_1:Int)(port_2:Int):Int->Option (Int⊕((Int×Int×Int×Bool)⊕Unit)):=fun i2=>
 bif decide (i2<(((ah.bW t_0).l).length:Int))then((fk i2 ((ah.bW t_0).l).length).bind fun n3=>
 bif decide ((⟨sw_1,port_2⟩:bo)=(⟨bz.A (gt ((ah.bW t_0).l) n3),bz.nF (gt ((ah.bW t_0).l) n3)⟩:bo))then(some (.inr (.inl (bz.B (gt ((ah.bW t_0).l) n3),bz.nE (gt ((ah.bW t_0).l) n3),i2,true))))else
 (bif decide ((⟨sw_1,port_2⟩:bo)=(⟨bz.B (gt ((ah.bW t_0).l) n3),bz.nE (gt ((ah.bW t_0).l) n3)⟩:bo))then(some (.inr (.inl (bz.A (gt ((ah.bW t_0).l) n3),bz.nF (gt ((ah.bW t_0).l) n3),i2,true))))else
 (some (.inl (wr .i64 (i2+1))))))else
 (some (.inr (.inr ())))
def nI(t_0:ah)(sw_1:Int)(port_2:Int):Option (Int×Int×Int×Bool):=
 (bE (mY t_0 sw_1 port_2) 0).bind fun
 |.inl (i4,i5,i6,b7)=>(some (i4,i5,i6,b7))
 |.inr _=>(some (0,0,0,false))
def T3:lD:=⟨[(false,.x y0),(false,.x (.i .i64)),(false,.x (.i .i64))],[([.x (.i .i64),.x (.i .i64),.x (.i .i64),.x .b],[])],true,[],fun p=>match p with|(t_0,sw_1,port_2)=>nI t_0 sw_1 port_2⟩
theorem Sr:cY prog 89 T3:=cH mixed dM (df:=df) (np:=3) (an:=[(7,{j:=some {vs:=[(21,.x (.i .i64))]},e:=[(.ret,{vs:=[(6,.x (.i .i64)),(7,.x (.i .i64)),(8,.x (.i .i64)),(9,.x .b)]}),(.exit 0,{})]})]) .nil (by kernel_rfl) (by kernel_rfl)
def nO(t_0:ah)(r_1:Sl (Sl Int))(sw_2:Int)(h_3:Int):Option (Int×Bool):=
 (mD r_1 sw_2 h_3).bind fun(r1,r2)=>
 bif(!r2)then(some (0,false))else
 ((nI t_0 sw_2 r1).bind fun(r3,r4,r5,r6)=>
 some (r3,r6))
def T2:lD:=⟨[(false,.x y0),(false,.x (.sl (.sl (.i .i64)))),(false,.x (.i .i64)),(false,.x (.i .i64))],[([.x (.i .i64),.x .b],[])],true,[],fun p=>match p with|(t_0,r_1,sw_2,h_3)=>nO t_0 r_1 sw_2 h_3⟩
theorem UN:cY prog 98 T2:=cH mixed dM (df:=df) (np:=4) (an:=[]) (.cons Vb (.cons Sr .nil)) (by kernel_rfl) (by kernel_rfl)
def er(t_0:ah)(r_1:Sl (Sl Int))(h_3:Int):(Sl Int)->Option (Sl Int⊕((Int×Sl Int)⊕Unit)):=fun s6=>
 (iu s6).bind fun r7=>
 bif(!r7)then((fk (wr .i64 ((s6.l.length:Int)-1)) s6.l.length).bind fun n8=>
 (fk h_3 ((ah.bf t_0).l).length).bind fun n9=>
 (fk (gt s6.l n8) r_1.l.length).bind fun n10=>
 (fk h_3 ((gt r_1.l n10).l).length).bind fun n11=>
 bif decide ((gt ((ah.bf t_0).l) n9)=(⟨gt s6.l n8,gt ((gt r_1.l n10).l) n11⟩:fU))then(some (.inr (.inl (0,s6))))else
 ((nO t_0 r_1 (gt s6.l n8) h_3).bind fun(r12,r13)=>
 bif(!r13)then(some (.inr (.inl (13,Sl.nil))))else
 ((iI (s6.l++[r12])).bind fun l14=>
 some (.inl (Sl.mk l14)))))else
 (some (.inr (.inr ())))
def jE(t_0:ah)(r_1:Sl (Sl Int))(sw_2:Int)(h_3:Int):Option (Sl Int×Int):=
 (mD r_1 sw_2 h_3).bind fun(r1,r2)=>
 (bif(!r2)then(some true)else
 ((ju t_0 r_1).bind fun r3=>
 some (!r3)):Option Bool).bind fun b4=>
 bif b4 then(some (Sl.nil,2))else
 ((bE (er t_0 r_1 h_3) (Sl.mk [sw_2])).bind fun
 |.inl (i15,s16)=>(some (s16,i15))
 |.inr _=>(some (Sl.nil,12)))
def T1:lD:=⟨[(false,.x y0),(false,.x (.sl (.sl (.i .i64)))),(false,.x (.i .i64)),(false,.x (.i .i64))],[([.x (.sl (.i .i64)),.x (.i .i64)],[])],false,[],fun p=>match p with|(t_0,r_1,sw_2,h_3)=>jE t_0 r_1 sw_2 h_3⟩
theorem UM:cY prog 73 T1:=cH mixed dM (df:=df) (np:=4) (an:=[(6,{j:=some {vs:=[(30,.x .b)]}}),(12,{j:=some {vs:=[(12,.so 0)],os:=[.ar (.i .i64)],kl:=[3]},e:=[(.ret,{vs:=[(8,.so 0),(9,.x (.i .i64))],os:=[.ar (.i .i64)],kl:=[3]}),(.exit 0,{kl:=[3]})]})]) (.cons Vb (.cons Us (.cons UO (.cons UN .nil)))) (by kernel_rfl) (by kernel_rfl)
def gA(t_0:ah)(r_1:Sl (Sl Int))(h_2:Int):(Int×Sl Int)->Option ((Int×Sl Int)⊕(Sl Int)):=fun(i5,s6)=>
 bif decide (i5<(r_1.l.length:Int))then((jE t_0 r_1 i5 h_2).bind fun(r7,r8)=>
 (iI (s6.l++[wr .i64 ((r7.l.length:Int)-1)])).bind fun l9=>
 some (.inl (wr .i64 (i5+1),(Sl.mk l9))))else
 (some (.inr s6))
def lF(t_0:ah)(r_1:Sl (Sl Int))(h_2:Int):Option (Sl Int):=
 (ju t_0 r_1).bind fun r1=>
 bif(((!r1)||(decide (h_2<0)))||(decide (h_2>=(((ah.bf t_0).l).length:Int))))then(some Sl.nil)else
 ((bE (gA t_0 r_1 h_2) (0,Sl.nil)).bind fun s10=>
 some s10)
def T0:lD:=⟨[(false,.x y0),(false,.x (.sl (.sl (.i .i64)))),(false,.x (.i .i64))],[([.x (.sl (.i .i64))],[])],false,[],fun p=>match p with|(t_0,r_1,h_2)=>lF t_0 r_1 h_2⟩
theorem Sq:cY prog 36 T0:=cH mixed dM (df:=df) (np:=3) (an:=[(12,{j:=some {vs:=[(7,.so 0),(28,.x (.i .i64))],os:=[.ar (.i .i64)]},e:=[(.exit 0,{vs:=[(7,.so 0)],os:=[.ar (.i .i64)]})]})]) (.cons Us (.cons UM .nil)) (by kernel_rfl) (by kernel_rfl)
def gZ(t_0:ah)(r_1:Sl (Sl Int)):Int->Option (Int⊕(Bool⊕Unit)):=fun i3=>
 bif decide (i3<(((ah.bf t_0).l).length:Int))then((lF t_0 r_1 i3).bind fun r4=>
 (cO r4 (-1)).bind fun r5=>
 bif r5 then(some (.inr (.inl false)))else
 (some (.inl (wr .i64 (i3+1)))))else
 (some (.inr (.inr ())))
def iv(t_0:ah)(r_1:Sl (Sl Int)):Option Bool:=
 (ju t_0 r_1).bind fun r1=>
 bif(!r1)then(some false)else
 ((bE (gZ t_0 r_1) 0).bind fun
 |.inl b6=>(some b6)
 |.inr _=>(some true))
def TZ:lD:=⟨[(false,.x y0),(false,.x (.sl (.sl (.i .i64))))],[([.x .b],[])],true,[],fun p=>match p with|(t_0,r_1)=>iv t_0 r_1⟩
theorem Sp:cY prog 16 TZ:=cH mixed dM (df:=df) (np:=2) (an:=[(10,{j:=some {vs:=[(13,.x (.i .i64))]},e:=[(.ret,{vs:=[(4,.x .b)]}),(.exit 0,{})]})]) (.cons Us (.cons Sq (.cons Og .nil))) (by kernel_rfl) (by kernel_rfl)
def kr(r_0:aj)(m_1:ae):Option Bool:=
 (bif((ae.uv m_1)==(aj.No r_0))then((cO (aj.RW r_0) (ae.Sw m_1)).bind fun r1=>
 some r1)else
 (some false):Option Bool).bind fun b2=>
 some b2
def TY:lD:=⟨[(false,.x y5),(false,.x y4)],[([.x .b],[])],true,[],fun p=>match p with|(r_0,m_1)=>kr r_0 m_1⟩
theorem So:cY prog 61 TY:=cH mixed dM (df:=df) (np:=2) (an:=[(3,{j:=some {vs:=[(4,.x .b)]}})]) (.cons Og .nil) (by kernel_rfl) (by kernel_rfl)
def iB(r_0:aj)(c_1:ae):Option Bool:=
 (kr r_0 c_1).bind fun r1=>
 some r1
def TX:lD:=⟨[(false,.x y5),(false,.pt y4)],[([.x .b],[])],true,[],fun p=>match p with|(r_0,c_1)=>iB r_0 c_1⟩
theorem UL:cY prog 88 TX:=cH mixed dM (df:=df) (np:=2) (an:=[]) (.cons So .nil) (by kernel_rfl) (by kernel_rfl)
def bg(s_0:Sl aj)(f_1_c0:ae):Int->Option (Int⊕(Int⊕Unit)):=fun i2=>
 bif decide (i2<(s_0.l.length:Int))then((fk i2 s_0.l.length).bind fun n3=>
 (iB (gt s_0.l n3) f_1_c0).bind fun r4=>
 bif r4 then(some (.inr (.inl i2)))else
 (some (.inl (wr .i64 (i2+1)))))else
 (some (.inr (.inr ())))
def bD(s_0:Sl aj)(f_1_c0:ae):Option Int:=
 (bE (bg s_0 f_1_c0) 0).bind fun
 |.inl i5=>(some i5)
 |.inr _=>(some (-1))
def TW:lD:=⟨[(false,.x (.sl y5)),(false,.fn 88 (.pr (.pt y4) .ni))],[([.x (.i .i64)],[])],true,[],fun p=>match p with|(s_0,f_1_c0)=>bD s_0 f_1_c0⟩
theorem UK:cY prog 124 TW:=cH mixed dM (df:=df) (np:=2) (an:=[(5,{j:=some {vs:=[(8,.x (.i .i64))]},e:=[(.ret,{vs:=[(4,.x (.i .i64))]}),(.exit 0,{})]})]) (.cons UL .nil) (by kernel_rfl) (by kernel_rfl)
def bt(s_0:Sl aj)(f_1_c0:ae):Option Bool:=
 (bD s_0 f_1_c0).bind fun r1=>
 some (decide (r1>=0))
def TT:lD:=⟨[(false,.x (.sl y5)),(false,.fn 88 (.pr (.pt y4) .ni))],[([.x .b],[])],true,[],fun p=>match p with|(s_0,f_1_c0)=>bt s_0 f_1_c0⟩
theorem UI:cY prog 87 TT:=cH mixed dM (df:=df) (np:=2) (an:=[]) (.cons UK .nil) (by kernel_rfl) (by kernel_rfl)
def fh(x_0:bh)(m_1:ae):Option Bool:=
 (bt (aK.eN (bh.p x_0)) m_1).bind fun r1=>
 some r1
def TS:lD:=⟨[(false,.pt y6),(false,.x y4)],[([.x .b],[])],true,[],fun p=>match p with|(x_0,m_1)=>fh x_0 m_1⟩
theorem UH:cY prog 56 TS:=cH mixed dM (df:=df) (np:=2) (an:=[]) (.cons UI .nil) (by kernel_rfl) (by kernel_rfl)
def bG(x_0_t:ah)(x_0_old:Sl (Sl Int))(x_0_now:Sl (Sl Int))(x_0_p_Moves:Sl ae)(x_0_p_Rounds:Sl aj)(x_0_p_Miss:Int)(x_0_p_Life:Int)(x_0_p_From:Int)(x_0_p_To:Int)(x_0_out:Sl am)(is_1:Bool)(kind_2:Int)(k_3:Int)(h_4:Int):Option (ah×Sl (Sl Int)×Sl (Sl Int)×Sl ae×Sl aj×Int×Int×Int×Int×Sl am):=
 bif is_1 then((iI (x_0_out.l++[(⟨kind_2,k_3,h_4⟩:am)])).bind fun l1=>
 some (x_0_t,x_0_old,x_0_now,x_0_p_Moves,x_0_p_Rounds,x_0_p_Miss,x_0_p_Life,x_0_p_From,x_0_p_To,(Sl.mk l1)))else
 (some (x_0_t,x_0_old,x_0_now,x_0_p_Moves,x_0_p_Rounds,x_0_p_Miss,x_0_p_Life,x_0_p_From,x_0_p_To,x_0_out))
def TR:lD:=⟨[(true,.pb y6 (.st (.pr (.x y0) (.pr (.x (.sl (.sl (.i .i64)))) (.pr (.x (.sl (.sl (.i .i64)))) (.pr (.st (.pr (.x (.sl y4)) (.pr (.x (.sl y5)) (.pr (.x (.i .i64)) (.pr (.x (.i .i64)) (.pr (.x (.i .i64)) (.pr (.x (.i .i64)) .ni))))))) (.pr (.os y7) .ni))))))),(false,.x .b),(false,.x (.i .i64)),(false,.x (.i .i64)),(false,.x (.i .i64))],[([],[.pb y6 (.st (.pr (.x y0) (.pr (.x (.sl (.sl (.i .i64)))) (.pr (.x (.sl (.sl (.i .i64)))) (.pr (.st (.pr (.x (.sl y4)) (.pr (.x (.sl y5)) (.pr (.x (.i .i64)) (.pr (.x (.i .i64)) (.pr (.x (.i .i64)) (.pr (.x (.i .i64)) .ni))))))) (.pr (.os y7) .ni))))))])],false,[true,false,false,false,false],fun p=>match p with|(x_0_t,x_0_old,x_0_now,x_0_p_Moves,x_0_p_Rounds,x_0_p_Miss,x_0_p_Life,x_0_p_From,x_0_p_To,x_0_out,is_1,kind_2,k_3,h_4)=>bG x_0_t x_0_old x_0_now x_0_p_Moves x_0_p_Rounds x_0_p_Miss x_0_p_Life x_0_p_From x_0_p_To x_0_out is_1 kind_2 k_3 h_4⟩
theorem Qv:cY prog 57 TR:=cH mixed dM (df:=df) (np:=5) (an:=[]) .nil (by kernel_rfl) (by kernel_rfl)
def fE(x_0:bh)(m_1:ae):Option Bool:=some ((((decide ((ae.Sw m_1)>=0))&&(decide ((ae.Sw m_1)<(ah.br (bh.t x_0)))))&&(decide ((ae.mI m_1)>=0)))&&(decide ((ae.mI m_1)<(((ah.bf (bh.t x_0)).l).length:Int))))
def TQ:lD:=⟨[(false,.pt y6),(false,.x y4)],[([.x .b],[])],true,[],fun p=>match p with|(x_0,m_1)=>fE x_0 m_1⟩
theorem Sn:cY prog 58 TQ:=cH mixed dM (df:=df) (np:=2) (an:=[]) .nil (by kernel_rfl) (by kernel_rfl)
def d_(i13:Int)(s47:Sl am)(i43:Int)(i45:Int)(i46:Int)(n48:Nat)(s16:Sl (Sl Int))(n24:Nat)(i37:Int)(x38:ah)(s39:Sl (Sl Int))(s40:Sl (Sl Int))(s41:Sl ae)(s42:Sl aj)(i44:Int):(Int×Int)->Option ((Int×Int)⊕Int):=fun(i51,i52)=>
 bif decide (i52<(s41.l.length:Int))then(((fk i52 s41.l.length).bind fun n53=>
 (bif((((ae.Sw (gt s41.l n53))==i13)&&((ae.mI (gt s41.l n53))==i37))&&((ae.oe (gt s41.l n53))==(gt ((gt s16.l n24).l) n48)))then((fh (⟨x38,s39,s40,(⟨s41,s42,i43,i44,i45,i46⟩:bK),s47⟩:bh) (gt s41.l n53)).bind fun r54=>
 some r54)else
 (some false):Option Bool).bind fun b55=>
 bif b55 then(some (wr .i64 (i51+1)))else
 (some i51):Option Int).bind fun i56=>
 some (.inl (i56,wr .i64 (i52+1))))else
 (some (.inr i51))
def e_(i13:Int)(s16:Sl (Sl Int))(n24:Nat):(Int×ah×Sl (Sl Int)×Sl (Sl Int)×Sl ae×Sl aj×Int×Int×Int×Int×Sl am)->Option ((Int×ah×Sl (Sl Int)×Sl (Sl Int)×Sl ae×Sl aj×Int×Int×Int×Int×Sl am)⊕(ah×Sl (Sl Int)×Sl (Sl Int)×Sl ae×Sl aj×Int×Int×Int×Int×Sl am)):=fun(i37,x38,s39,s40,s41,s42,i43,i44,i45,i46,s47)=>
 bif decide (i37<(((gt s16.l n24).l).length:Int))then((fk i37 ((gt s16.l n24).l).length).bind fun n48=>
 (bE (d_ i13 s47 i43 i45 i46 n48 s16 n24 i37 x38 s39 s40 s41 s42 i44) (0,0)).bind fun i57=>
 (fk i13 s39.l.length).bind fun n58=>
 (fk i37 ((gt s39.l n58).l).length).bind fun n59=>
 (bG x38 s39 s40 s41 s42 i43 i44 i45 i46 s47 (((gt ((gt s16.l n24).l) n48) !=(gt ((gt s39.l n58).l) n59))&&(i57 !=1)) 2 i13 i37).bind fun(q60,q61,q62,q63,q64,q65,q66,q67,q68,s69)=>
 some (.inl (wr .i64 (i37+1),q60,q61,q62,q63,q64,q65,q66,q67,q68,s69)))else
 (some (.inr (x38,s39,s40,s41,s42,i43,i44,i45,i46,s47)))
def e9(x_0_now:Sl (Sl Int)):(Int×ah×Sl (Sl Int)×Sl (Sl Int)×Sl ae×Sl aj×Int×Int×Int×Int×Sl am)->Option ((Int×ah×Sl (Sl Int)×Sl (Sl Int)×Sl ae×Sl aj×Int×Int×Int×Int×Sl am)⊕(ah×Sl (Sl Int)×Sl (Sl Int)×Sl ae×Sl aj×Int×Int×Int×Int×Sl am)):=fun(i13,x14,s15,s16,s17,s18,i19,i20,i21,i22,s23)=>
 bif decide (i13<(x_0_now.l.length:Int))then((fk i13 s16.l.length).bind fun n24=>
 (bE (e_ i13 s16 n24) (0,x14,s15,s16,s17,s18,i19,i20,i21,i22,s23)).bind fun(x70,s71,s72,s73,s74,i75,i76,i77,i78,s79)=>
 some (.inl (wr .i64 (i13+1),x70,s71,s72,s73,s74,i75,i76,i77,i78,s79)))else
 (some (.inr (x14,s15,s16,s17,s18,i19,i20,i21,i22,s23)))
def eZ(s83:Sl ae):(Int×ah×Sl (Sl Int)×Sl (Sl Int)×Sl ae×Sl aj×Int×Int×Int×Int×Sl am)->Option ((Int×ah×Sl (Sl Int)×Sl (Sl Int)×Sl ae×Sl aj×Int×Int×Int×Int×Sl am)⊕(ah×Sl (Sl Int)×Sl (Sl Int)×Sl ae×Sl aj×Int×Int×Int×Int×Sl am)):=fun(i102,x103,s104,s105,s106,s107,i108,i109,i110,i111,s112)=>
 bif decide (i102<(s83.l.length:Int))then((fk i102 s83.l.length).bind fun n113=>
 ((fE (⟨x103,s104,s105,(⟨s106,s107,i108,i109,i110,i111⟩:bK),s112⟩:bh) (gt s83.l n113)).bind fun r114=>
 bif(!r114)then((bG x103 s104 s105 s106 s107 i108 i109 i110 i111 s112 true 3 i102 (ae.mI (gt s83.l n113))).bind fun(q115,q116,q117,q118,q119,q120,q121,q122,q123,s124)=>
 some (q115,q116,q117,q118,q119,q120,q121,q122,q123,s124))else
 ((fk (ae.Sw (gt s83.l n113)) s105.l.length).bind fun n125=>
 (fk (ae.mI (gt s83.l n113)) ((gt s105.l n125).l).length).bind fun n126=>
 bif((gt ((gt s105.l n125).l) n126) !=(ae.oe (gt s83.l n113)))then((bG x103 s104 s105 s106 s107 i108 i109 i110 i111 s112 true 3 i102 (ae.mI (gt s83.l n113))).bind fun(q127,q128,q129,q130,q131,q132,q133,q134,q135,s136)=>
 some (q127,q128,q129,q130,q131,q132,q133,q134,q135,s136))else
 ((fk (ae.Sw (gt s83.l n113)) s104.l.length).bind fun n137=>
 (fk (ae.mI (gt s83.l n113)) ((gt s104.l n137).l).length).bind fun n138=>
 bif((gt ((gt s104.l n137).l) n138)==(ae.oe (gt s83.l n113)))then((bG x103 s104 s105 s106 s107 i108 i109 i110 i111 s112 true 3 i102 (ae.mI (gt s83.l n113))).bind fun(q139,q140,q141,q142,q143,q144,q145,q146,q147,s148)=>
 some (q139,q140,q141,q142,q143,q144,q145,q146,q147,s148))else
 ((fh (⟨x103,s104,s105,(⟨s106,s107,i108,i109,i110,i111⟩:bK),s112⟩:bh) (gt s83.l n113)).bind fun r149=>
 (bG x103 s104 s105 s106 s107 i108 i109 i110 i111 s112 (!r149) 3 i102 (ae.mI (gt s83.l n113))).bind fun(q150,q151,q152,q153,q154,q155,q156,q157,q158,s159)=>
 some (q150,q151,q152,q153,q154,q155,q156,q157,q158,s159)))):Option (ah×Sl (Sl Int)×Sl (Sl Int)×Sl ae×Sl aj×Int×Int×Int×Int×Sl am)).bind fun(x160,s161,s162,s163,s164,i165,i166,i167,i168,s169)=>
 some (.inl (wr .i64 (i102+1),x160,s161,s162,s163,s164,i165,i166,i167,i168,s169)))else
 (some (.inr (x103,s104,s105,s106,s107,i108,i109,i110,i111,s112)))
def gb(x_0_t:ah)(x_0_old:Sl (Sl Int))(x_0_now:Sl (Sl Int))(x_0_p_Moves:Sl ae)(x_0_p_Rounds:Sl aj)(x_0_p_Miss:Int)(x_0_p_Life:Int)(x_0_p_From:Int)(x_0_p_To:Int)(x_0_out:Sl am):Option (ah×Sl (Sl Int)×Sl (Sl Int)×Sl ae×Sl aj×Int×Int×Int×Int×Sl am):=
 (bE (e9 x_0_now) (0,x_0_t,x_0_old,x_0_now,x_0_p_Moves,x_0_p_Rounds,x_0_p_Miss,x_0_p_Life,x_0_p_From,x_0_p_To,x_0_out)).bind fun(x80,s81,s82,s83,s84,i85,i86,i87,i88,s89)=>
 (bE (eZ s83) (0,x80,s81,s82,s83,s84,i85,i86,i87,i88,s89)).bind fun(x170,s171,s172,s173,s174,i175,i176,i177,i178,s179)=>
 some (x170,s171,s172,s173,s174,i175,i176,i177,i178,s179)
def TP:lD:=⟨[(true,.pb y6 (.st (.pr (.x y0) (.pr (.x (.sl (.sl (.i .i64)))) (.pr (.x (.sl (.sl (.i .i64)))) (.pr (.st (.pr (.x (.sl y4)) (.pr (.x (.sl y5)) (.pr (.x (.i .i64)) (.pr (.x (.i .i64)) (.pr (.x (.i .i64)) (.pr (.x (.i .i64)) .ni))))))) (.pr (.os y7) .ni)))))))],[([],[.pb y6 (.st (.pr (.x y0) (.pr (.x (.sl (.sl (.i .i64)))) (.pr (.x (.sl (.sl (.i .i64)))) (.pr (.st (.pr (.x (.sl y4)) (.pr (.x (.sl y5)) (.pr (.x (.i .i64)) (.pr (.x (.i .i64)) (.pr (.x (.i .i64)) (.pr (.x (.i .i64)) .ni))))))) (.pr (.os y7) .ni))))))])],false,[true],fun p=>match p with|(x_0_t,x_0_old,x_0_now,x_0_p_Moves,x_0_p_Rounds,x_0_p_Miss,x_0_p_Life,x_0_p_From,x_0_p_To,x_0_out)=>gb x_0_t x_0_old x_0_now x_0_p_Moves x_0_p_Rounds x_0_p_Miss x_0_p_Life x_0_p_From x_0_p_To x_0_out⟩
theorem UG:cY prog 27 TP:=cH mixed dM (df:=df) (np:=1) (an:=[(3,{j:=some {vs:=[(0,.op 0 y6 []),(15,.x (.i .i64))],gs:=(.co (.op 0 y6 []) .ni),os:=[.bx y6 (.rc (.co (.x y0) (.co (.x (.sl (.sl (.i .i64)))) (.co (.x (.sl (.sl (.i .i64)))) (.co (.rc (.co (.x (.sl y4)) (.co (.x (.sl y5)) (.co (.x (.i .i64)) (.co (.x (.i .i64)) (.co (.x (.i .i64)) (.co (.x (.i .i64)) .ni))))))) (.co (.so 1) .ni)))))),.ar y7],kl:=[0,12]},e:=[(.exit 0,{vs:=[(0,.op 0 y6 [])],gs:=(.co (.op 0 y6 []) .ni),os:=[.bx y6 (.rc (.co (.x y0) (.co (.x (.sl (.sl (.i .i64)))) (.co (.x (.sl (.sl (.i .i64)))) (.co (.rc (.co (.x (.sl y4)) (.co (.x (.sl y5)) (.co (.x (.i .i64)) (.co (.x (.i .i64)) (.co (.x (.i .i64)) (.co (.x (.i .i64)) .ni))))))) (.co (.so 1) .ni)))))),.ar y7],kl:=[0,12]})]}),(12,{j:=some {vs:=[(0,.op 0 y6 []),(26,.x (.i .i64))],gs:=(.co (.op 0 y6 []) .ni),os:=[.bx y6 (.rc (.co (.x y0) (.co (.x (.sl (.sl (.i .i64)))) (.co (.x (.sl (.sl (.i .i64)))) (.co (.rc (.co (.x (.sl y4)) (.co (.x (.sl y5)) (.co (.x (.i .i64)) (.co (.x (.i .i64)) (.co (.x (.i .i64)) (.co (.x (.i .i64)) .ni))))))) (.co (.so 1) .ni)))))),.ar y7],kl:=[13,14]},e:=[(.exit 2,{vs:=[(0,.op 0 y6 [])],gs:=(.co (.op 0 y6 []) .ni),os:=[.bx y6 (.rc (.co (.x y0) (.co (.x (.sl (.sl (.i .i64)))) (.co (.x (.sl (.sl (.i .i64)))) (.co (.rc (.co (.x (.sl y4)) (.co (.x (.sl y5)) (.co (.x (.i .i64)) (.co (.x (.i .i64)) (.co (.x (.i .i64)) (.co (.x (.i .i64)) .ni))))))) (.co (.so 1) .ni)))))),.ar y7],kl:=[13,14]})]}),(24,{j:=some {vs:=[(5,.x (.i .i64)),(37,.x (.i .i64))]},e:=[(.exit 4,{vs:=[(5,.x (.i .i64))]})]}),(28,{e:=[(.normal,{vs:=[(5,.x (.i .i64))]})]}),(32,{j:=some {vs:=[(61,.x .b)]}}),(40,{j:=some {vs:=[(0,.op 0 y6 []),(93,.x (.i .i64))],gs:=(.co (.op 0 y6 []) .ni),os:=[.bx y6 (.rc (.co (.x y0) (.co (.x (.sl (.sl (.i .i64)))) (.co (.x (.sl (.sl (.i .i64)))) (.co (.rc (.co (.x (.sl y4)) (.co (.x (.sl y5)) (.co (.x (.i .i64)) (.co (.x (.i .i64)) (.co (.x (.i .i64)) (.co (.x (.i .i64)) .ni))))))) (.co (.so 1) .ni)))))),.ar y7],kl:=[13,14]},e:=[(.exit 6,{gs:=(.co (.op 0 y6 []) .ni),os:=[.bx y6 (.rc (.co (.x y0) (.co (.x (.sl (.sl (.i .i64)))) (.co (.x (.sl (.sl (.i .i64)))) (.co (.rc (.co (.x (.sl y4)) (.co (.x (.sl y5)) (.co (.x (.i .i64)) (.co (.x (.i .i64)) (.co (.x (.i .i64)) (.co (.x (.i .i64)) .ni))))))) (.co (.so 1) .ni)))))),.ar y7],kl:=[13,14]})]}),(47,{j:=some {vs:=[(0,.op 0 y6 [])],gs:=(.co (.op 0 y6 []) .ni),os:=[.bx y6 (.rc (.co (.x y0) (.co (.x (.sl (.sl (.i .i64)))) (.co (.x (.sl (.sl (.i .i64)))) (.co (.rc (.co (.x (.sl y4)) (.co (.x (.sl y5)) (.co (.x (.i .i64)) (.co (.x (.i .i64)) (.co (.x (.i .i64)) (.co (.x (.i .i64)) .ni))))))) (.co (.so 1) .ni)))))),.ar y7],kl:=[15,16]}})]) (.cons UH (.cons Qv (.cons Sn .nil))) (by kernel_rfl) (by kernel_rfl)
def jp(t_0:ah):(Int×Int)->Option ((Int×Int)⊕Int):=fun(i3,i4)=>
 bif decide (i4<(((ah.bW t_0).l).length:Int))then((fk i4 ((ah.bW t_0).l).length).bind fun n5=>
 some (.inl ((if(bz.p9 (gt ((ah.bW t_0).l) n5))>i3 then(bz.p9 (gt ((ah.bW t_0).l) n5))else i3),wr .i64 (i4+1))))else
 (some (.inr i3))
def lE(t_0:ah):Option Int:=
 (bE (jp t_0) (0,0)).bind fun i6=>
 some i6
def TO:lD:=⟨[(false,.x y0)],[([.x (.i .i64)],[])],true,[],fun p=>match p with|t_0=>lE t_0⟩
theorem UF:cY prog 85 TO:=cH mixed dM (df:=df) (np:=1) (an:=[(7,{j:=some {vs:=[(3,.x (.i .i64)),(9,.x (.i .i64))]},e:=[(.exit 0,{vs:=[(3,.x (.i .i64))]})]})]) .nil (by kernel_rfl) (by kernel_rfl)
def nQ(t_0:ah):Option Int:=
 (lE t_0).bind fun r1=>
 some (wr .i64 ((ah.br t_0)*r1))
def TN:lD:=⟨[(false,.x y0)],[([.x (.i .i64)],[])],true,[],fun p=>match p with|t_0=>nQ t_0⟩
theorem Sm:cY prog 52 TN:=cH mixed dM (df:=df) (np:=1) (an:=[]) (.cons UF .nil) (by kernel_rfl) (by kernel_rfl)
def ow(t_0:ah)(miss_1:Int):Option Int:=
 (nQ t_0).bind fun r1=>
 some (wr .i64 ((wr .i64 ((wr .i64 (2*miss_1))+r1))+1))
def TM:lD:=⟨[(false,.x y0),(false,.x (.i .i64))],[([.x (.i .i64)],[])],true,[],fun p=>match p with|(t_0,miss_1)=>ow t_0 miss_1⟩
theorem Sk:cY prog 54 TM:=cH mixed dM (df:=df) (np:=2) (an:=[]) (.cons Sm .nil) (by kernel_rfl) (by kernel_rfl)
def jx(n_0:Int):Option Int:=some (if 1125899906842624<(if(-1125899906842624)>n_0 then(-1125899906842624)else n_0)then 1125899906842624 else(if(-1125899906842624)>n_0 then(-1125899906842624)else n_0))
def TL:lD:=⟨[(false,.x (.i .i64))],[([.x (.i .i64)],[])],true,[],fun p=>match p with|n_0=>jx n_0⟩
theorem UE:cY prog 59 TL:=cH mixed dM (df:=df) (np:=1) (an:=[]) .nil (by kernel_rfl) (by kernel_rfl)
def dZ(r1:Int):(Int×ah×Sl (Sl Int)×Sl (Sl Int)×Sl ae×Sl aj×Int×Int×Int×Int×Sl am)->Option ((Int×ah×Sl (Sl Int)×Sl (Sl Int)×Sl ae×Sl aj×Int×Int×Int×Int×Sl am)⊕(ah×Sl (Sl Int)×Sl (Sl Int)×Sl ae×Sl aj×Int×Int×Int×Int×Sl am)):=fun(i14,x15,s16,s17,s18,s19,i20,i21,i22,i23,s24)=>
 bif decide (i14<(s19.l.length:Int))then((fk i14 s19.l.length).bind fun n25=>
 (jx (aj.At (gt s19.l n25))).bind fun r26=>
 (fk (wr .i64 (i14-1)) s19.l.length).bind fun n27=>
 (jx (aj.At (gt s19.l n27))).bind fun r28=>
 (bG x15 s16 s17 s18 s19 i20 i21 i22 i23 s24 (decide ((wr .i64 (r26-r28))<r1)) 4 i14 0).bind fun(q29,q30,q31,q32,q33,q34,q35,q36,q37,s38)=>
 some (.inl (wr .i64 (i14+1),q29,q30,q31,q32,q33,q34,q35,q36,q37,s38)))else
 (some (.inr (x15,s16,s17,s18,s19,i20,i21,i22,i23,s24)))
def ga(x_0_t:ah)(x_0_old:Sl (Sl Int))(x_0_now:Sl (Sl Int))(x_0_p_Moves:Sl ae)(x_0_p_Rounds:Sl aj)(x_0_p_Miss:Int)(x_0_p_Life:Int)(x_0_p_From:Int)(x_0_p_To:Int)(x_0_out:Sl am):Option (ah×Sl (Sl Int)×Sl (Sl Int)×Sl ae×Sl aj×Int×Int×Int×Int×Sl am):=
 (ow x_0_t (if 1048576<(if 0>x_0_p_Miss then 0 else x_0_p_Miss)then 1048576 else(if 0>x_0_p_Miss then 0 else x_0_p_Miss))).bind fun r1=>
 (bE (dZ r1) (1,x_0_t,x_0_old,x_0_now,x_0_p_Moves,x_0_p_Rounds,x_0_p_Miss,x_0_p_Life,x_0_p_From,x_0_p_To,x_0_out)).bind fun(x39,s40,s41,s42,s43,i44,i45,i46,i47,s48)=>
 some (x39,s40,s41,s42,s43,i44,i45,i46,i47,s48)
def TK:lD:=⟨[(true,.pb y6 (.st (.pr (.x y0) (.pr (.x (.sl (.sl (.i .i64)))) (.pr (.x (.sl (.sl (.i .i64)))) (.pr (.st (.pr (.x (.sl y4)) (.pr (.x (.sl y5)) (.pr (.x (.i .i64)) (.pr (.x (.i .i64)) (.pr (.x (.i .i64)) (.pr (.x (.i .i64)) .ni))))))) (.pr (.os y7) .ni)))))))],[([],[.pb y6 (.st (.pr (.x y0) (.pr (.x (.sl (.sl (.i .i64)))) (.pr (.x (.sl (.sl (.i .i64)))) (.pr (.st (.pr (.x (.sl y4)) (.pr (.x (.sl y5)) (.pr (.x (.i .i64)) (.pr (.x (.i .i64)) (.pr (.x (.i .i64)) (.pr (.x (.i .i64)) .ni))))))) (.pr (.os y7) .ni))))))])],false,[true],fun p=>match p with|(x_0_t,x_0_old,x_0_now,x_0_p_Moves,x_0_p_Rounds,x_0_p_Miss,x_0_p_Life,x_0_p_From,x_0_p_To,x_0_out)=>ga x_0_t x_0_old x_0_now x_0_p_Moves x_0_p_Rounds x_0_p_Miss x_0_p_Life x_0_p_From x_0_p_To x_0_out⟩
theorem UD:cY prog 28 TK:=cH mixed dM (df:=df) (np:=1) (an:=[(6,{j:=some {vs:=[(0,.op 0 y6 []),(4,.x (.i .i64))],gs:=(.co (.op 0 y6 []) .ni),os:=[.bx y6 (.rc (.co (.x y0) (.co (.x (.sl (.sl (.i .i64)))) (.co (.x (.sl (.sl (.i .i64)))) (.co (.rc (.co (.x (.sl y4)) (.co (.x (.sl y5)) (.co (.x (.i .i64)) (.co (.x (.i .i64)) (.co (.x (.i .i64)) (.co (.x (.i .i64)) .ni))))))) (.co (.so 1) .ni)))))),.ar y7],kl:=[0,12]},e:=[(.exit 0,{gs:=(.co (.op 0 y6 []) .ni),os:=[.bx y6 (.rc (.co (.x y0) (.co (.x (.sl (.sl (.i .i64)))) (.co (.x (.sl (.sl (.i .i64)))) (.co (.rc (.co (.x (.sl y4)) (.co (.x (.sl y5)) (.co (.x (.i .i64)) (.co (.x (.i .i64)) (.co (.x (.i .i64)) (.co (.x (.i .i64)) .ni))))))) (.co (.so 1) .ni)))))),.ar y7],kl:=[0,12]})]})]) (.cons Sk (.cons UE (.cons Qv .nil))) (by kernel_rfl) (by kernel_rfl)
def jt(s_0:Sl Int):Option (Sl Int):=
 bif s_0.fS then(some Sl.nil)else
 ((iI ([]++s_0.l)).bind fun l1=>
 some (kR (Sl.mk []) s_0.l l1))
def TI:lD:=⟨[(false,.x (.sl (.i .i64)))],[([.os (.i .i64)],[])],false,[],fun p=>match p with|s_0=>jt s_0⟩
theorem UB:cY prog 60 TI:=cH mixed dM (df:=df) (np:=1) (an:=[]) .nil (by kernel_rfl) (by kernel_rfl)
def kc(n_0:Int)(l_1:Sl aQ):Int->Option (Int⊕(Bool⊕Unit)):=fun i2=>
 bif decide (i2<(l_1.l.length:Int))then((fk i2 l_1.l.length).bind fun n3=>
 bif((((decide ((aQ.pT (gt l_1.l n3))<0))||(decide ((aQ.pT (gt l_1.l n3))>=n_0)))||(decide ((aQ.To (gt l_1.l n3))<0)))||(decide ((aQ.To (gt l_1.l n3))>=n_0)))then(some (.inr (.inl false)))else
 (some (.inl (wr .i64 (i2+1)))))else
 (some (.inr (.inr ())))
def lk(n_0:Int)(l_1:Sl aQ):Option Bool:=
 bif((decide (n_0<0))||(decide (n_0>16)))then(some false)else
 ((bE (kc n_0 l_1) 0).bind fun
 |.inl b4=>(some b4)
 |.inr _=>(some true))
def TH:lD:=⟨[(false,.x (.i .i64)),(false,.x (.sl y2))],[([.x .b],[])],true,[],fun p=>match p with|(n_0,l_1)=>lk n_0 l_1⟩
theorem UA:cY prog 47 TH:=cH mixed dM (df:=df) (np:=2) (an:=[(10,{j:=some {vs:=[(15,.x (.i .i64))]},e:=[(.ret,{vs:=[(4,.x .b)]}),(.exit 0,{})]})]) .nil (by kernel_rfl) (by kernel_rfl)
def kJ(l_1:Sl aQ):(Int×Sl Int)->Option ((Int×Sl Int)⊕(Sl Int)):=fun(i5,s6)=>
 bif decide (i5<(l_1.l.length:Int))then((fk i5 l_1.l.length).bind fun n7=>
 (fk (aQ.pT (gt l_1.l n7)) s6.l.length).bind fun n8=>
 (yp .u16 1 (aQ.To (gt l_1.l n7))).bind fun i9=>
 (fk (aQ.pT (gt l_1.l n7)) s6.l.length).bind fun n10=>
 some (.inl (wr .i64 (i5+1),(Sl.mk (s6.l.set n10 (RS .u16 (gt s6.l n8) i9))))))else
 (some (.inr s6))
def nW(n_0:Int)(l_1:Sl aQ):Option (Sl Int):=
 (zV 0 n_0 n_0).bind fun l1=>
 (bE (kJ l_1) (0,(Sl.mk l1))).bind fun s11=>
 some s11
def TG:lD:=⟨[(false,.x (.i .i64)),(false,.x (.sl y2))],[([.x (.sl (.i .u16))],[])],false,[],fun p=>match p with|(n_0,l_1)=>nW n_0 l_1⟩
theorem Uz:cY prog 48 TG:=cH mixed dM (df:=df) (np:=2) (an:=[(7,{j:=some {vs:=[(5,.so 0),(12,.x (.i .i64))],os:=[.ar (.i .u16)],kl:=[0]},e:=[(.exit 0,{vs:=[(5,.so 0)],os:=[.ar (.i .u16)],kl:=[0]})]})]) .nil (by kernel_rfl) (by kernel_rfl)
def dJ(x_0:Int):Option Int:=
 bif(x_0==0)then(some 16)else
 ((fk (J2 .u32 (wr .u32 ((wr .u32 (J3 .u16 x_0 (wr .u16 (0-x_0))))*125613361)) 27) 32).bind fun n1=>
 some (wr .i64 (gt Ii.1 n1)))
def TF:lD:=⟨[(false,.x (.i .u16))],[([.x (.i .i64)],[])],true,[],fun p=>match p with|x_0=>dJ x_0⟩
theorem Sj:cY prog 50 TF:=cH mixed dM (df:=df) (np:=1) (an:=[]) .nil (by kernel_rfl) (by kernel_rfl)
def kK:(Int×Sl Int)->Option ((Int×Sl Int)⊕(Sl Int)):=fun(i4,s5)=>
 bif(i4 !=0)then((dJ i4).bind fun r6=>
 (iI (s5.l++[r6])).bind fun l7=>
 some (.inl (J3 .u16 i4 (wr .u16 (i4-1)),(Sl.mk l7))))else
 (some (.inr s5))
def nX(set_0:Int):Option (Sl Int):=
 (bE (kK) (set_0,Sl.nil)).bind fun s8=>
 some s8
def TE:lD:=⟨[(false,.x (.i .u16))],[([.x (.sl (.i .i64))],[])],false,[],fun p=>match p with|set_0=>nX set_0⟩
theorem Uy:cY prog 84 TE:=cH mixed dM (df:=df) (np:=1) (an:=[(5,{j:=some {vs:=[(0,.x (.i .u16)),(3,.so 0)],os:=[.ar (.i .i64)]},e:=[(.exit 0,{vs:=[(3,.so 0)],os:=[.ar (.i .i64)]})]})]) (.cons Sj .nil) (by kernel_rfl) (by kernel_rfl)
def kI(to_0:Sl Int)(r1:Sl Int):(Int×Int)->Option ((Int×Int)⊕Int):=fun(i4,i5)=>
 bif decide (i5<(r1.l.length:Int))then((fk i5 r1.l.length).bind fun n6=>
 (fk (gt r1.l n6) to_0.l.length).bind fun n7=>
 some (.inl (RS .u16 i4 (gt to_0.l n7),wr .i64 (i5+1))))else
 (some (.inr i4))
def nV(to_0:Sl Int)(set_1:Int):Option Int:=
 (nX set_1).bind fun r1=>
 (bE (kI to_0 r1) (0,0)).bind fun i8=>
 some i8
def TD:lD:=⟨[(false,.x (.sl (.i .u16))),(false,.x (.i .u16))],[([.x (.i .u16)],[])],true,[],fun p=>match p with|(to_0,set_1)=>nV to_0 set_1⟩
theorem Ux:cY prog 49 TD:=cH mixed dM (df:=df) (np:=2) (an:=[(7,{j:=some {vs:=[(5,.x (.i .u16)),(11,.x (.i .i64))]},e:=[(.exit 0,{vs:=[(5,.x (.i .u16))]})]})]) (.cons Uy .nil) (by kernel_rfl) (by kernel_rfl)
def iX(r2:Sl Int):(Int×Sl Int)->Option ((Int×Sl Int)⊕(Bool⊕(Sl Int))):=fun(i7,s8)=>
 bif(i7 !=0)then((nV r2 i7).bind fun r9=>
 bif((rU .u16 i7 r9)==0)then(some (.inr (.inl false)))else
 ((dJ (rU .u16 i7 r9)).bind fun r10=>
 (iI (s8.l++[r10])).bind fun l11=>
 (yp .u16 1 r10).bind fun i12=>
 some (.inl (rU .u16 i7 i12,(Sl.mk l11)))))else
 (some (.inr (.inr s8)))
def iL(n_0:Int)(l_1:Sl aQ):Option (Sl Int×Bool):=
 (lk n_0 l_1).bind fun r1=>
 bif(!r1)then(some (Sl.nil,false))else
 ((nW n_0 l_1).bind fun r2=>
 (yp .u16 1 n_0).bind fun i3=>
 (bE (iX r2) (wr .u16 (i3-1),Sl.nil)).bind fun
 |.inl b13=>(some (Sl.nil,b13))
 |.inr s14=>(some (s14,true)))
def TC:lD:=⟨[(false,.x (.i .i64)),(false,.x (.sl y2))],[([.x (.sl (.i .i64)),.x .b],[])],false,[],fun p=>match p with|(n_0,l_1)=>iL n_0 l_1⟩
theorem Uw:cY prog 25 TC:=cH mixed dM (df:=df) (np:=2) (an:=[(14,{j:=some {vs:=[(7,.x (.i .u16)),(8,.so 0)],os:=[.ar (.i .i64)]},e:=[(.ret,{vs:=[(4,.nl 0),(5,.x .b)]}),(.exit 0,{vs:=[(8,.so 0)],os:=[.ar (.i .i64)]})]})]) (.cons UA (.cons Uz (.cons Ux (.cons Sj .nil)))) (by kernel_rfl) (by kernel_rfl)
def eE(x_0_t:ah)(ports_1:Sl (Sl Int))(h_3:Int)(i7:Int)(n9:Nat):(Bool×Int×Sl aQ)->Option ((Bool×Int×Sl aQ)⊕(Bool×Sl aQ)):=fun(b13,i14,s15)=>
 bif decide (i14<(((gt ports_1.l n9).l).length:Int))then(((fk i14 ((gt ports_1.l n9).l).length).bind fun n16=>
 (nI x_0_t i7 (gt ((gt ports_1.l n9).l) n16)).bind fun(r17,r18,r19,r20)=>
 bif r20 then((iI (s15.l++[(⟨i7,r17⟩:aQ)])).bind fun l21=>
 some (b13,(Sl.mk l21)))else
 ((fk h_3 ((ah.bf x_0_t).l).length).bind fun n22=>
 bif(!(decide ((gt ((ah.bf x_0_t).l) n22)=(⟨i7,gt ((gt ports_1.l n9).l) n16⟩:fU))))then(some (true,s15))else
 (some (b13,s15))):Option (Bool×Sl aQ)).bind fun(b23,s24)=>
 some (.inl (b23,wr .i64 (i14+1),s24)))else
 (some (.inr (b13,s15)))
def fA(x_0_t:ah)(ports_1:Sl (Sl Int))(h_3:Int):(Bool×Int×Sl aQ)->Option ((Bool×Int×Sl aQ)⊕(Bool×Sl aQ)):=fun(b6,i7,s8)=>
 bif decide (i7<(ports_1.l.length:Int))then((fk i7 ports_1.l.length).bind fun n9=>
 (bE (eE x_0_t ports_1 h_3 i7 n9) (b6,0,s8)).bind fun(b25,s26)=>
 some (.inl (b25,wr .i64 (i7+1),s26)))else
 (some (.inr (b6,s8)))
def ij(x_0_t:ah)(x_0_old:Sl (Sl Int))(x_0_now:Sl (Sl Int))(x_0_p_Moves:Sl ae)(x_0_p_Rounds:Sl aj)(x_0_p_Miss:Int)(x_0_p_Life:Int)(x_0_p_From:Int)(x_0_p_To:Int)(x_0_out:Sl am)(ports_1:Sl (Sl Int))(k_2:Int)(h_3:Int):Option (ah×Sl (Sl Int)×Sl (Sl Int)×Sl ae×Sl aj×Int×Int×Int×Int×Sl am):=
 (bE (fA x_0_t ports_1 h_3) (false,0,Sl.nil)).bind fun(b27,s28)=>
 (iL (ah.br x_0_t) s28).bind fun(r29,r30)=>
 (bG x_0_t x_0_old x_0_now x_0_p_Moves x_0_p_Rounds x_0_p_Miss x_0_p_Life x_0_p_From x_0_p_To x_0_out b27 5 k_2 h_3).bind fun(q31,q32,q33,q34,q35,q36,q37,q38,q39,s40)=>
 (bG q31 q32 q33 q34 q35 q36 q37 q38 q39 s40 (!r30) 6 k_2 h_3).bind fun(q41,q42,q43,q44,q45,q46,q47,q48,q49,s50)=>
 some (q41,q42,q43,q44,q45,q46,q47,q48,q49,s50)
def TB:lD:=⟨[(true,.pb y6 (.st (.pr (.x y0) (.pr (.x (.sl (.sl (.i .i64)))) (.pr (.x (.sl (.sl (.i .i64)))) (.pr (.st (.pr (.x (.sl y4)) (.pr (.x (.sl y5)) (.pr (.x (.i .i64)) (.pr (.x (.i .i64)) (.pr (.x (.i .i64)) (.pr (.x (.i .i64)) .ni))))))) (.pr (.os y7) .ni))))))),(false,.x (.sl (.sl (.i .i64)))),(false,.x (.i .i64)),(false,.x (.i .i64))],[([],[.pb y6 (.st (.pr (.x y0) (.pr (.x (.sl (.sl (.i .i64)))) (.pr (.x (.sl (.sl (.i .i64)))) (.pr (.st (.pr (.x (.sl y4)) (.pr (.x (.sl y5)) (.pr (.x (.i .i64)) (.pr (.x (.i .i64)) (.pr (.x (.i .i64)) (.pr (.x (.i .i64)) .ni))))))) (.pr (.os y7) .ni))))))])],false,[true,false,false,false],fun p=>match p with|(x_0_t,x_0_old,x_0_now,x_0_p_Moves,x_0_p_Rounds,x_0_p_Miss,x_0_p_Life,x_0_p_From,x_0_p_To,x_0_out,ports_1,k_2,h_3)=>ij x_0_t x_0_old x_0_now x_0_p_Moves x_0_p_Rounds x_0_p_Miss x_0_p_Life x_0_p_From x_0_p_To x_0_out ports_1 k_2 h_3⟩
theorem Uv:cY prog 62 TB:=cH mixed dM (df:=df) (np:=4) (an:=[(7,{j:=some {vs:=[(8,.so 0),(9,.x .b),(22,.x (.i .i64))],os:=[.ar y2]},e:=[(.exit 0,{vs:=[(8,.so 0),(9,.x .b)],os:=[.ar y2]})]}),(16,{j:=some {vs:=[(8,.so 0),(9,.x .b),(29,.x (.i .i64))],os:=[.ar y2],kl:=[13]},e:=[(.exit 2,{vs:=[(8,.so 0),(9,.x .b)],os:=[.ar y2],kl:=[13]})]}),(20,{e:=[(.normal,{vs:=[(8,.so 0),(9,.x .b)],os:=[.ar y2],kl:=[14]})]})]) (.cons Sr (.cons Uw (.cons Qv .nil))) (by kernel_rfl) (by kernel_rfl)
def fH(x_0_old:Sl (Sl Int)):(Int×Sl (Sl Int))->Option ((Int×Sl (Sl Int))⊕(Sl (Sl Int))):=fun(i5,s6)=>
 bif decide (i5<(x_0_old.l.length:Int))then((fk i5 x_0_old.l.length).bind fun n7=>
 (jt (gt x_0_old.l n7)).bind fun s8=>
 (fk i5 s6.l.length).bind fun n9=>
 some (.inl (wr .i64 (i5+1),(Sl.mk (s6.l.set n9 s8)))))else
 (some (.inr s6))
def fG(i50:Int)(s60:Sl (Sl Int)):(Int×Sl (Sl Int)×Sl (Sl Int))->Option ((Int×Sl (Sl Int)×Sl (Sl Int))⊕(Sl (Sl Int)×Sl (Sl Int))):=fun(i67,s68,s69)=>
 bif decide (i67<(s60.l.length:Int))then((fk i67 s68.l.length).bind fun n70=>
 (fk i50 ((gt s68.l n70).l).length).bind fun n71=>
 (fk i67 s69.l.length).bind fun n72=>
 some (.inl (wr .i64 (i67+1),(Sl.mk (s68.l.set n70 (gt s68.l n70))),(Sl.mk (s69.l.set n72 (Sl.mk [gt ((gt s68.l n70).l) n71]))))))else
 (some (.inr (s68,s69)))
def eK(x_0_p_Rounds:Sl aj)(n36:Nat)(s52:Sl (Sl Int))(s53:Sl (Sl Int))(s61:Sl am)(s55:Sl aj)(s54:Sl ae)(i50:Int)(x51:ah)(i56:Int)(i57:Int)(i58:Int)(i59:Int):(Int×Sl (Sl Int))->Option ((Int×Sl (Sl Int))⊕(Sl (Sl Int))):=fun(i78,s79)=>
 bif decide (i78<(s54.l.length:Int))then(((fk i78 s54.l.length).bind fun n80=>
 (bif((ae.mI (gt s54.l n80))==i50)then((fE (⟨x51,s52,s53,(⟨s54,s55,i56,i57,i58,i59⟩:bK),s61⟩:bh) (gt s54.l n80)).bind fun r81=>
 bif r81 then((kr (gt x_0_p_Rounds.l n36) (gt s54.l n80)).bind fun r82=>
 some r82)else
 (some false))else
 (some false):Option Bool).bind fun b83=>
 bif b83 then((fk (ae.Sw (gt s54.l n80)) s79.l.length).bind fun n84=>
 (iI (((gt s79.l n84).l)++[ae.oe (gt s54.l n80)])).bind fun l85=>
 (fk (ae.Sw (gt s54.l n80)) s79.l.length).bind fun n86=>
 bif Nat.beq n84 n86 then(some (Sl.mk (s79.l.set n86 (Sl.mk l85))))else(none))else
 (some s79):Option (Sl (Sl Int))).bind fun s87=>
 some (.inl (wr .i64 (i78+1),s87)))else
 (some (.inr s79))
def eJ(x_0_p_Rounds:Sl aj)(n36:Nat)(i24:Int)(x25:ah):(Int×ah×Sl (Sl Int)×Sl (Sl Int)×Sl ae×Sl aj×Int×Int×Int×Int×Sl (Sl Int)×Sl am)->Option ((Int×ah×Sl (Sl Int)×Sl (Sl Int)×Sl ae×Sl aj×Int×Int×Int×Int×Sl (Sl Int)×Sl am)⊕(ah×Sl (Sl Int)×Sl (Sl Int)×Sl ae×Sl aj×Int×Int×Int×Int×Sl (Sl Int)×Sl am)):=fun(i50,x51,s52,s53,s54,s55,i56,i57,i58,i59,s60,s61)=>
 bif decide (i50<(((ah.bf x25).l).length:Int))then((zV (Sl.nil:Sl Int) (s60.l.length:Int) (s60.l.length:Int)).bind fun l62=>
 (bE (fG i50 s60) (0,s60,(Sl.mk l62))).bind fun(s73,s74)=>
 (bE (eK x_0_p_Rounds n36 s52 s53 s61 s55 s54 i50 x51 i56 i57 i58 i59) (0,s74)).bind fun s88=>
 (ij x51 s52 s53 s54 s55 i56 i57 i58 i59 s61 s88 i24 i50).bind fun(q89,q90,q91,q92,q93,q94,q95,q96,q97,s98)=>
 some (.inl (wr .i64 (i50+1),q89,q90,q91,q92,q93,q94,q95,q96,q97,s73,s98)))else
 (some (.inr (x51,s52,s53,s54,s55,i56,i57,i58,i59,s60,s61)))
def eI(x_0_p_Rounds:Sl aj)(n36:Nat)(s100:Sl (Sl Int))(s102:Sl ae)(s109:Sl am)(x99:ah)(s101:Sl (Sl Int))(s103:Sl aj)(i104:Int)(i105:Int)(i106:Int)(i107:Int):(Int×Sl (Sl Int))->Option ((Int×Sl (Sl Int))⊕(Sl (Sl Int))):=fun(i113,s114)=>
 bif decide (i113<(s102.l.length:Int))then(((fk i113 s102.l.length).bind fun n115=>
 ((fE (⟨x99,s100,s101,(⟨s102,s103,i104,i105,i106,i107⟩:bK),s109⟩:bh) (gt s102.l n115)).bind fun r116=>
 bif r116 then((kr (gt x_0_p_Rounds.l n36) (gt s102.l n115)).bind fun r117=>
 some r117)else
 (some false):Option Bool).bind fun b118=>
 bif b118 then((fk (ae.Sw (gt s102.l n115)) s114.l.length).bind fun n119=>
 (fk (ae.mI (gt s102.l n115)) ((gt s114.l n119).l).length).bind fun n120=>
 some (Sl.mk (s114.l.set n119 (Sl.mk (((gt s114.l n119).l).set n120 (ae.oe (gt s102.l n115)))))))else
 (some s114):Option (Sl (Sl Int))).bind fun s121=>
 some (.inl (wr .i64 (i113+1),s121)))else
 (some (.inr s114))
def eH(x_0_p_Rounds:Sl aj):(Int×ah×Sl (Sl Int)×Sl (Sl Int)×Sl ae×Sl aj×Int×Int×Int×Int×Sl (Sl Int)×Sl am)->Option ((Int×ah×Sl (Sl Int)×Sl (Sl Int)×Sl ae×Sl aj×Int×Int×Int×Int×Sl (Sl Int)×Sl am)⊕(ah×Sl (Sl Int)×Sl (Sl Int)×Sl ae×Sl aj×Int×Int×Int×Int×Sl am)):=fun(i24,x25,s26,s27,s28,s29,i30,i31,i32,i33,s34,s35)=>
 bif decide (i24<(x_0_p_Rounds.l.length:Int))then((fk i24 x_0_p_Rounds.l.length).bind fun n36=>
 (bE (eJ x_0_p_Rounds n36 i24 x25) (0,x25,s26,s27,s28,s29,i30,i31,i32,i33,s34,s35)).bind fun(x99,s100,s101,s102,s103,i104,i105,i106,i107,s108,s109)=>
 (bE (eI x_0_p_Rounds n36 s100 s102 s109 x99 s101 s103 i104 i105 i106 i107) (0,s108)).bind fun s122=>
 some (.inl (wr .i64 (i24+1),x99,s100,s101,s102,s103,i104,i105,i106,i107,s122,s109)))else
 (some (.inr (x25,s26,s27,s28,s29,i30,i31,i32,i33,s35)))
def gH(x_0_t:ah)(x_0_old:Sl (Sl Int))(x_0_now:Sl (Sl Int))(x_0_p_Moves:Sl ae)(x_0_p_Rounds:Sl aj)(x_0_p_Miss:Int)(x_0_p_Life:Int)(x_0_p_From:Int)(x_0_p_To:Int)(x_0_out:Sl am):Option (ah×Sl (Sl Int)×Sl (Sl Int)×Sl ae×Sl aj×Int×Int×Int×Int×Sl am):=
 (zV (Sl.nil:Sl Int) (x_0_old.l.length:Int) (x_0_old.l.length:Int)).bind fun l1=>
 (bE (fH x_0_old) (0,(Sl.mk l1))).bind fun s10=>
 (bE (eH x_0_p_Rounds) (0,x_0_t,x_0_old,x_0_now,x_0_p_Moves,x_0_p_Rounds,x_0_p_Miss,x_0_p_Life,x_0_p_From,x_0_p_To,s10,x_0_out)).bind fun(x123,s124,s125,s126,s127,i128,i129,i130,i131,s132)=>
 some (x123,s124,s125,s126,s127,i128,i129,i130,i131,s132)
def TA:lD:=⟨[(true,.pb y6 (.st (.pr (.x y0) (.pr (.x (.sl (.sl (.i .i64)))) (.pr (.x (.sl (.sl (.i .i64)))) (.pr (.st (.pr (.x (.sl y4)) (.pr (.x (.sl y5)) (.pr (.x (.i .i64)) (.pr (.x (.i .i64)) (.pr (.x (.i .i64)) (.pr (.x (.i .i64)) .ni))))))) (.pr (.os y7) .ni)))))))],[([],[.pb y6 (.st (.pr (.x y0) (.pr (.x (.sl (.sl (.i .i64)))) (.pr (.x (.sl (.sl (.i .i64)))) (.pr (.st (.pr (.x (.sl y4)) (.pr (.x (.sl y5)) (.pr (.x (.i .i64)) (.pr (.x (.i .i64)) (.pr (.x (.i .i64)) (.pr (.x (.i .i64)) .ni))))))) (.pr (.os y7) .ni))))))])],false,[true],fun p=>match p with|(x_0_t,x_0_old,x_0_now,x_0_p_Moves,x_0_p_Rounds,x_0_p_Miss,x_0_p_Life,x_0_p_From,x_0_p_To,x_0_out)=>gH x_0_t x_0_old x_0_now x_0_p_Moves x_0_p_Rounds x_0_p_Miss x_0_p_Life x_0_p_From x_0_p_To x_0_out⟩
theorem Uu:cY prog 29 TA:=cH mixed dM (df:=T6) (np:=1) (an:=[(5,{j:=some {vs:=[(2,.sr 0),(25,.x (.i .i64))],os:=[.rw (.i .i64)],kl:=[13]},e:=[(.exit 0,{vs:=[(2,.sr 0)],os:=[.rw (.i .i64)],kl:=[13]})]}),(16,{j:=some {vs:=[(0,.op 0 y6 []),(2,.sr 1),(42,.x (.i .i64))],gs:=(.co (.op 0 y6 []) .ni),os:=[.bx y6 (.rc (.co (.x y0) (.co (.x (.sl (.sl (.i .i64)))) (.co (.x (.sl (.sl (.i .i64)))) (.co (.rc (.co (.x (.sl y4)) (.co (.x (.sl y5)) (.co (.x (.i .i64)) (.co (.x (.i .i64)) (.co (.x (.i .i64)) (.co (.x (.i .i64)) .ni))))))) (.co (.so 2) .ni)))))),.rw (.i .i64),.ar y7],kl:=[0,12,14]},e:=[(.exit 2,{gs:=(.co (.op 0 y6 []) .ni),os:=[.bx y6 (.rc (.co (.x y0) (.co (.x (.sl (.sl (.i .i64)))) (.co (.x (.sl (.sl (.i .i64)))) (.co (.rc (.co (.x (.sl y4)) (.co (.x (.sl y5)) (.co (.x (.i .i64)) (.co (.x (.i .i64)) (.co (.x (.i .i64)) (.co (.x (.i .i64)) .ni))))))) (.co (.so 1) .ni)))))),.ar y7],kl:=[0,12,14]})]}),(26,{j:=some {vs:=[(0,.op 0 y6 []),(2,.sr 1),(53,.x (.i .i64))],gs:=(.co (.op 0 y6 []) .ni),os:=[.bx y6 (.rc (.co (.x y0) (.co (.x (.sl (.sl (.i .i64)))) (.co (.x (.sl (.sl (.i .i64)))) (.co (.rc (.co (.x (.sl y4)) (.co (.x (.sl y5)) (.co (.x (.i .i64)) (.co (.x (.i .i64)) (.co (.x (.i .i64)) (.co (.x (.i .i64)) .ni))))))) (.co (.so 2) .ni)))))),.rw (.i .i64),.ar y7],kl:=[15,16,17]},e:=[(.exit 4,{vs:=[(0,.op 0 y6 []),(2,.sr 1)],gs:=(.co (.op 0 y6 []) .ni),os:=[.bx y6 (.rc (.co (.x y0) (.co (.x (.sl (.sl (.i .i64)))) (.co (.x (.sl (.sl (.i .i64)))) (.co (.rc (.co (.x (.sl y4)) (.co (.x (.sl y5)) (.co (.x (.i .i64)) (.co (.x (.i .i64)) (.co (.x (.i .i64)) (.co (.x (.i .i64)) .ni))))))) (.co (.so 2) .ni)))))),.rw (.i .i64),.ar y7],kl:=[15,16,17]})]}),(38,{j:=some {vs:=[(2,.sr 0),(8,.sr 1),(61,.x (.i .i64))],os:=[.rw (.i .i64),.rw (.i .i64)],kl:=[20,22]},e:=[(.exit 6,{vs:=[(2,.sr 0),(8,.sr 1)],os:=[.rw (.i .i64),.rw (.i .i64)],kl:=[20,22]})]}),(50,{j:=some {vs:=[(8,.sr 0),(82,.x (.i .i64))],os:=[.rw (.i .i64)],kl:=[24]},e:=[(.exit 8,{vs:=[(8,.sr 0)],os:=[.rw (.i .i64)],kl:=[24]})]}),(54,{e:=[(.normal,{vs:=[(8,.sr 0)],os:=[.rw (.i .i64)],kl:=[25]})]}),(58,{j:=some {vs:=[(99,.x .b)]}}),(65,{j:=some {vs:=[(2,.sr 0),(126,.x (.i .i64))],os:=[.rw (.i .i64)],kl:=[20]},e:=[(.exit 10,{vs:=[(2,.sr 0)],os:=[.rw (.i .i64)],kl:=[20]})]}),(69,{e:=[(.normal,{vs:=[(2,.sr 0)],os:=[.rw (.i .i64)],kl:=[22]})]}),(73,{j:=some {vs:=[(137,.x .b)]}})]) (.cons UB (.cons Sn (.cons So (.cons Uv .nil)))) (by kernel_rfl) (by kernel_rfl)
def fB(t_0:ah)(old_1:Sl (Sl Int))(now_2:Sl (Sl Int))(p_3:aK):Option (Sl am):=
 ((iv t_0 old_1).bind fun r1=>
 bif(!r1)then(some true)else
 ((iv t_0 now_2).bind fun r2=>
 some (!r2)):Option Bool).bind fun b3=>
 bif b3 then(some (Sl.mk [(⟨1,0,0⟩:am)]))else
 ((gb t_0 old_1 now_2 (aK.i_ p_3) (aK.eN p_3) (aK.AD p_3) (aK.G1 p_3) (aK.pT p_3) (aK.To p_3) Sl.nil).bind fun(q4,q5,q6,q7,q8,q9,q10,q11,q12,s13)=>
 (ga q4 q5 q6 q7 q8 q9 q10 q11 q12 s13).bind fun(q14,q15,q16,q17,q18,q19,q20,q21,q22,s23)=>
 (gH q14 q15 q16 q17 q18 q19 q20 q21 q22 s23).bind fun(q24,q25,q26,q27,q28,q29,q30,q31,q32,s33)=>
 some s33)
def Tz:lD:=⟨[(false,.x y0),(false,.x (.sl (.sl (.i .i64)))),(false,.x (.sl (.sl (.i .i64)))),(false,.x y3)],[([.x (.sl y7)],[])],false,[],fun p=>match p with|(t_0,old_1,now_2,p_3)=>fB t_0 old_1 now_2 p_3⟩
theorem Qu:cY prog 11 Tz:=cH mixed dM (df:=df) (np:=4) (an:=[(4,{j:=some {vs:=[(19,.x .b)]}})]) (.cons Sp (.cons UG (.cons UD (.cons Uu .nil)))) (by kernel_rfl) (by kernel_rfl)
def uR(kind_0:Int):Option ByteArray:=
 bif((decide (kind_0<1))||(decide (kind_0>6)))then(some (⟨#[63]⟩:ByteArray))else
 ((fk (wr .i64 (kind_0-1)) 6).bind fun n1=>
 some (gt ((Arr.set (Arr.set (Arr.set (Arr.set (Arr.set (Arr.set (sA (.ar 6 .s)) 0 (⟨#[119,114,111,110,103]⟩:ByteArray)) 1 (⟨#[109,105,115,115,105,110,103]⟩:ByteArray)) 2 (⟨#[101,120,116,114,97]⟩:ByteArray)) 3 (⟨#[99,108,111,115,101]⟩:ByteArray)) 4 (⟨#[104,111,108,101]⟩:ByteArray)) 5 (⟨#[108,111,111,112]⟩:ByteArray)).1) n1))
def Tx:lD:=⟨[(false,.x (.i .i64))],[([.x .s],[])],true,[],fun p=>match p with|kind_0=>uR kind_0⟩
theorem Ut:cY prog 14 Tx:=cH mixed dM (df:=df) (np:=1) (an:=[]) .nil (by kernel_rfl) (by kernel_rfl)
def gL:Option Bool:=
 (fB (⟨3,(Sl.mk [(⟨0,0,1,0,1,1⟩:bz),(⟨1,1,2,0,1,1⟩:bz),(⟨0,1,2,1,1,1⟩:bz)]),(Sl.mk [(⟨2,7⟩:fU)])⟩:ah) (Sl.mk [(Sl.mk [0]),(Sl.mk [1]),(Sl.mk [7])]) (Sl.mk [(Sl.mk [1]),(Sl.mk [1]),(Sl.mk [7])]) (⟨Sl.nil,Sl.nil,0,0,0,0⟩:aK)).bind fun r1=>
 (bif((r1.l.length:Int)==1)then((fk 0 r1.l.length).bind fun n2=>
 bif decide ((gt r1.l n2)=(⟨2,0,0⟩:am))then((uR 6).bind fun r3=>
 bif(r3.toList==(⟨#[108,111,111,112]⟩:ByteArray).toList)then((fB (⟨0,Sl.nil,Sl.nil⟩:ah) Sl.nil Sl.nil (⟨Sl.nil,Sl.nil,0,0,0,0⟩:aK)).bind fun r4=>
 some ((r4.l.length:Int)==1))else
 (some false))else
 (some false))else
 (some false):Option Bool).bind fun b5=>
 some b5
def Tw:lD:=⟨[],[([.x .b],[])],true,[],fun p=>match p with|_=>gL⟩
theorem Si:cY prog 9 Tw:=cH mixed dM (df:=df) (np:=0) (an:=[(7,{j:=some {vs:=[(0,.x .b)]}})]) (.cons Qu (.cons Ut .nil)) (by kernel_rfl) (by kernel_rfl)
def qe(n_0:Int)(most_1:Int):Option Bool:=some ((decide (n_0>=0))&&(decide (n_0<=most_1)))
def Tv:lD:=⟨[(false,.x (.i .i64)),(false,.x (.i .i64))],[([.x .b],[])],true,[],fun p=>match p with|(n_0,most_1)=>qe n_0 most_1⟩
theorem Ur:cY prog 51 Tv:=cH mixed dM (df:=df) (np:=2) (an:=[]) .nil (by kernel_rfl) (by kernel_rfl)
theorem Uq:cY prog 42 (BP y4 43 jN):=Im
def j6(old_1:Sl (Sl Int))(now_2:Sl (Sl Int))(i7:Int)(r9:Sl Int):(Int×Sl ae)->Option ((Int×Sl ae)⊕(Sl ae)):=fun(i12,s13)=>
 bif decide (i12<(now_2.l.length:Int))then(((fk i12 now_2.l.length).bind fun n14=>
 (fk i7 ((gt now_2.l n14).l).length).bind fun n15=>
 (fk i12 old_1.l.length).bind fun n16=>
 (fk i7 ((gt old_1.l n16).l).length).bind fun n17=>
 bif((gt ((gt now_2.l n14).l) n15) !=(gt ((gt old_1.l n16).l) n17))then((fk i12 now_2.l.length).bind fun n18=>
 (fk i7 ((gt now_2.l n18).l).length).bind fun n19=>
 (fk i12 r9.l.length).bind fun n20=>
 (iI (s13.l++[(⟨i12,i7,gt ((gt now_2.l n18).l) n19,gt r9.l n20⟩:ae)])).bind fun l21=>
 some (Sl.mk l21))else
 (some s13):Option (Sl ae)).bind fun s22=>
 some (.inl (wr .i64 (i12+1),s22)))else
 (some (.inr s13))
def m9(t_0:ah)(old_1:Sl (Sl Int))(now_2:Sl (Sl Int)):(Int×Sl ae)->Option ((Int×Sl ae)⊕(Sl ae)):=fun(i7,s8)=>
 bif decide (i7<(((ah.bf t_0).l).length:Int))then((lF t_0 now_2 i7).bind fun r9=>
 (bE (j6 old_1 now_2 i7 r9) (0,s8)).bind fun s23=>
 some (.inl (wr .i64 (i7+1),s23)))else
 (some (.inr s8))
def mO(t_0:ah)(old_1:Sl (Sl Int))(now_2:Sl (Sl Int)):Option (Sl ae×Int):=
 ((iv t_0 old_1).bind fun r1=>
 bif(!r1)then(some true)else
 ((iv t_0 now_2).bind fun r2=>
 some (!r2)):Option Bool).bind fun b3=>
 bif b3 then(some (Sl.nil,2))else
 ((bE (m9 t_0 old_1 now_2) (0,Sl.nil)).bind fun s24=>
 (ui jN s24).bind fun s25=>
 (Al s25 s24).bind fun _=>
 some (s25,0))
def Tu:lD:=⟨[(false,.x y0),(false,.x (.sl (.sl (.i .i64)))),(false,.x (.sl (.sl (.i .i64))))],[([.x (.sl y4),.x (.i .i64)],[])],false,[],fun p=>match p with|(t_0,old_1,now_2)=>mO t_0 old_1 now_2⟩
theorem Up:cY prog 22 Tu:=cH mixed dM (df:=df) (np:=3) (an:=[(4,{j:=some {vs:=[(21,.x .b)]}}),(12,{j:=some {vs:=[(8,.so 0),(25,.x (.i .i64))],os:=[.ar y4]},e:=[(.exit 0,{vs:=[(8,.so 0)],os:=[.ar y4]})]}),(23,{j:=some {vs:=[(8,.so 0),(34,.x (.i .i64))],os:=[.ar y4],kl:=[1]},e:=[(.exit 2,{vs:=[(8,.so 0)],os:=[.ar y4],kl:=[1]})]}),(27,{e:=[(.normal,{vs:=[(8,.so 0)],os:=[.ar y4],kl:=[3]})]})]) (.cons Sp (.cons Sq (.cons Uq .nil))) (by kernel_rfl) (by kernel_rfl)
theorem Uo:cY prog 45 (yl (.i .i64) rq):=Kv
theorem Un:cY prog 46 (Cp (.i .i64) sh):=MR
def mr(l_0:Sl ae):(Int×Sl Int)->Option ((Int×Sl Int)⊕(Sl Int)):=fun(i4,s5)=>
 bif decide (i4<(l_0.l.length:Int))then((fk i4 l_0.l.length).bind fun n6=>
 (iI (s5.l++[ae.uv (gt l_0.l n6)])).bind fun l7=>
 some (.inl (wr .i64 (i4+1),(Sl.mk l7))))else
 (some (.inr s5))
def m8(l_0:Sl ae):Option (Sl Int):=
 (bE (mr l_0) (0,Sl.nil)).bind fun s8=>
 (ui rq s8).bind fun s9=>
 (Al s9 s8).bind fun _=>
 (ML sh s9).bind fun s10=>
 some s10
def Tt:lD:=⟨[(false,.x (.sl y4))],[([.x (.sl (.i .i64))],[])],false,[],fun p=>match p with|l_0=>m8 l_0⟩
theorem Um:cY prog 41 Tt:=cH mixed dM (df:=df) (np:=1) (an:=[(7,{j:=some {vs:=[(3,.so 0),(8,.x (.i .i64))],os:=[.ar (.i .i64)]},e:=[(.exit 0,{vs:=[(3,.so 0)],os:=[.ar (.i .i64)]})]})]) (.cons Uo (.cons Un .nil)) (by kernel_rfl) (by kernel_rfl)
def rP(a_0:bI)(c_1:Int):Option Bool:=some ((((((decide ((bI.I a_0)<0))||(decide ((bI.I a_0)>=c_1)))||(decide ((bI.J a_0)<0)))||(decide ((bI.J a_0)>=c_1)))||(decide ((bI.Tb a_0)<(-1073741824))))||(decide ((bI.Tb a_0)>1073741824)))
def Ts:lD:=⟨[(false,.x y7),(false,.pt (.i .i64))],[([.x .b],[])],true,[],fun p=>match p with|(a_0,c_1)=>rP a_0 c_1⟩
theorem Ul:cY prog 135 Ts:=cH mixed dM (df:=df) (np:=2) (an:=[]) .nil (by kernel_rfl) (by kernel_rfl)
def ci(s_0:Sl bI)(f_1_c0:Int):Int->Option (Int⊕(Int⊕Unit)):=fun i2=>
 bif decide (i2<(s_0.l.length:Int))then((fk i2 s_0.l.length).bind fun n3=>
 (rP (gt s_0.l n3) f_1_c0).bind fun r4=>
 bif r4 then(some (.inr (.inl i2)))else
 (some (.inl (wr .i64 (i2+1)))))else
 (some (.inr (.inr ())))
def dq(s_0:Sl bI)(f_1_c0:Int):Option Int:=
 (bE (ci s_0 f_1_c0) 0).bind fun
 |.inl i5=>(some i5)
 |.inr _=>(some (-1))
def Tq:lD:=⟨[(false,.x (.sl y7)),(false,.fn 135 (.pr (.pt (.i .i64)) .ni))],[([.x (.i .i64)],[])],true,[],fun p=>match p with|(s_0,f_1_c0)=>dq s_0 f_1_c0⟩
theorem Uk:cY prog 138 Tq:=cH mixed dM (df:=df) (np:=2) (an:=[(5,{j:=some {vs:=[(8,.x (.i .i64))]},e:=[(.ret,{vs:=[(4,.x (.i .i64))]}),(.exit 0,{})]})]) (.cons Ul .nil) (by kernel_rfl) (by kernel_rfl)
def dj(s_0:Sl bI)(f_1_c0:Int):Option Bool:=
 (dq s_0 f_1_c0).bind fun r1=>
 some (decide (r1>=0))
def Tp:lD:=⟨[(false,.x (.sl y7)),(false,.fn 135 (.pr (.pt (.i .i64)) .ni))],[([.x .b],[])],true,[],fun p=>match p with|(s_0,f_1_c0)=>dj s_0 f_1_c0⟩
theorem Uj:cY prog 134 Tp:=cH mixed dM (df:=df) (np:=2) (an:=[]) (.cons Uk .nil) (by kernel_rfl) (by kernel_rfl)
def rQ(n_0:Int)(l_1:Sl bI):Option Bool:=
 bif(((decide (n_0<0))||(decide (n_0>64)))||(decide ((l_1.l.length:Int)>256)))then(some false)else
 ((dj l_1 n_0).bind fun r1=>
 some (!r1))
def Tn:lD:=⟨[(false,.x (.i .i64)),(false,.x (.sl y7))],[([.x .b],[])],true,[],fun p=>match p with|(n_0,l_1)=>rQ n_0 l_1⟩
theorem Ui:cY prog 122 Tn:=cH mixed dM (df:=df) (np:=2) (an:=[]) (.cons Uj .nil) (by kernel_rfl) (by kernel_rfl)
def iH(l_1:Sl bI):(Int×Int×Sl Int×Sl Int)->Option ((Int×Int×Sl Int×Sl Int)⊕(Int×Sl Int×Sl Int)):=fun(i19,i20,s21,s22)=>
 bif decide (i20<(l_1.l.length:Int))then(((fk i20 l_1.l.length).bind fun n23=>
 (fk (bI.I (gt l_1.l n23)) s21.l.length).bind fun n24=>
 (fk (bI.J (gt l_1.l n23)) s21.l.length).bind fun n25=>
 bif decide ((wr .i64 ((gt s21.l n24)+(bI.Tb (gt l_1.l n23))))>(gt s21.l n25))then((fk (bI.J (gt l_1.l n23)) s21.l.length).bind fun n26=>
 (fk (bI.J (gt l_1.l n23)) s22.l.length).bind fun n27=>
 some (bI.J (gt l_1.l n23),(Sl.mk (s21.l.set n26 (wr .i64 ((gt s21.l n24)+(bI.Tb (gt l_1.l n23)))))),(Sl.mk (s22.l.set n27 i20))))else
 (some (i19,s21,s22)):Option (Int×Sl Int×Sl Int)).bind fun(i28,s29,s30)=>
 some (.inl (i28,wr .i64 (i20+1),s29,s30)))else
 (some (.inr (i19,s21,s22)))
def nu(n_0:Int)(l_1:Sl bI):(Int×Int×Sl Int×Sl Int)->Option ((Int×Int×Sl Int×Sl Int)⊕(Int×Sl Int×Sl Int)):=fun(i9,i10,s11,s12)=>
 bif decide (i10<(wr .i64 (n_0+1)))then((bE (iH l_1) ((-1),0,s11,s12)).bind fun(i31,s32,s33)=>
 bif decide (i31<0)then(some (.inr (i31,s32,s33)))else
 (some (.inl (i31,wr .i64 (i10+1),s32,s33))))else
 (some (.inr (i9,s11,s12)))
def tZ(n_0:Int)(l_1:Sl bI):Option (Sl Int×Sl Int×Int):=
 (zV 0 n_0 n_0).bind fun l1=>
 (zV 0 n_0 n_0).bind fun l2=>
 (bE (nu n_0 l_1) ((-1),0,(Sl.mk l1),(Sl.mk l2))).bind fun(i34,s35,s36)=>
 some (s35,s36,i34)
def Tm:lD:=⟨[(false,.x (.i .i64)),(false,.x (.sl y7))],[([.x (.sl (.i .i64)),.x (.sl (.i .i64)),.x (.i .i64)],[])],false,[],fun p=>match p with|(n_0,l_1)=>tZ n_0 l_1⟩
theorem Uh:cY prog 123 Tm:=cH mixed dM (df:=df) (np:=2) (an:=[(10,{j:=some {vs:=[(7,.so 0),(8,.so 1),(9,.x (.i .i64)),(19,.x (.i .i64))],os:=[.ar (.i .i64),.ar (.i .i64)],kl:=[1000000,3000000]},e:=[(.exit 0,{vs:=[(7,.so 0),(8,.so 1),(9,.x (.i .i64))],os:=[.ar (.i .i64),.ar (.i .i64)],kl:=[1000000,3000000]})]}),(20,{j:=some {vs:=[(7,.so 0),(8,.so 1),(9,.x (.i .i64)),(23,.x (.i .i64))],os:=[.ar (.i .i64),.ar (.i .i64)],kl:=[6000000,6000001]},e:=[(.exit 2,{vs:=[(7,.so 0),(8,.so 1),(9,.x (.i .i64))],os:=[.ar (.i .i64),.ar (.i .i64)],kl:=[6000000,6000001]})]}),(24,{e:=[(.normal,{vs:=[(7,.so 0),(8,.so 1),(9,.x (.i .i64))],os:=[.ar (.i .i64),.ar (.i .i64)],kl:=[6000002,6000003]})]})]) .nil (by kernel_rfl) (by kernel_rfl)
def qD(n_0:Int)(l_1:Sl bI):Option (Sl Int×Bool):=
 (rQ n_0 l_1).bind fun r1=>
 bif(!r1)then(some (Sl.nil,false))else
 ((tZ n_0 l_1).bind fun(r2,r3,r4)=>
 bif decide (r4>=0)then(some (Sl.nil,false))else
 (some (r2,true)))
def Tl:lD:=⟨[(false,.x (.i .i64)),(false,.x (.sl y7))],[([.x (.sl (.i .i64)),.x .b],[])],false,[],fun p=>match p with|(n_0,l_1)=>qD n_0 l_1⟩
theorem Ug:cY prog 86 Tl:=cH mixed dM (df:=df) (np:=2) (an:=[]) (.cons Ui (.cons Uh .nil)) (by kernel_rfl) (by kernel_rfl)
def ma(n_0:Int)(gap_1:Int):(Int×Sl bI)->Option ((Int×Sl bI)⊕(Sl bI)):=fun(i4,s5)=>
 bif decide (i4<n_0)then((iI (s5.l++[(⟨wr .i64 (i4-1),i4,gap_1⟩:bI)])).bind fun l6=>
 some (.inl (wr .i64 (i4+1),(Sl.mk l6))))else
 (some (.inr s5))
def pC(n_0:Int)(gap_1:Int):Option (Sl Int):=
 (bE (ma n_0 gap_1) (1,Sl.nil)).bind fun s7=>
 (qD n_0 s7).bind fun(r8,r9)=>
 some r8
def Tk:lD:=⟨[(false,.x (.i .i64)),(false,.x (.i .i64))],[([.x (.sl (.i .i64))],[])],false,[],fun p=>match p with|(n_0,gap_1)=>pC n_0 gap_1⟩
theorem Uf:cY prog 53 Tk:=cH mixed dM (df:=df) (np:=2) (an:=[(7,{j:=some {vs:=[(5,.so 0),(6,.x (.i .i64))],os:=[.ar y7]},e:=[(.exit 0,{vs:=[(5,.so 0)],os:=[.ar y7]})]})]) (.cons Ug .nil) (by kernel_rfl) (by kernel_rfl)
def lf(l_0:Sl ae)(round_1:Int):(Int×Sl Int)->Option ((Int×Sl Int)⊕(Sl Int)):=fun(i4,s5)=>
 bif decide (i4<(l_0.l.length:Int))then(((fk i4 l_0.l.length).bind fun n6=>
 (bif((ae.uv (gt l_0.l n6))==round_1)then((cO s5 (ae.Sw (gt l_0.l n6))).bind fun r7=>
 some (!r7))else
 (some false):Option Bool).bind fun b8=>
 bif b8 then((iI (s5.l++[ae.Sw (gt l_0.l n6)])).bind fun l9=>
 some (Sl.mk l9))else
 (some s5):Option (Sl Int)).bind fun s10=>
 some (.inl (wr .i64 (i4+1),s10)))else
 (some (.inr s5))
def vi(l_0:Sl ae)(round_1:Int):Option (Sl Int):=
 (bE (lf l_0 round_1) (0,Sl.nil)).bind fun s11=>
 some s11
def Tj:lD:=⟨[(false,.x (.sl y4)),(false,.x (.i .i64))],[([.x (.sl (.i .i64))],[])],false,[],fun p=>match p with|(l_0,round_1)=>vi l_0 round_1⟩
theorem Ue:cY prog 55 Tj:=cH mixed dM (df:=df) (np:=2) (an:=[(7,{j:=some {vs:=[(5,.so 0),(10,.x (.i .i64))],os:=[.ar (.i .i64)]},e:=[(.exit 0,{vs:=[(5,.so 0)],os:=[.ar (.i .i64)]})]}),(11,{e:=[(.normal,{vs:=[(5,.so 0)],os:=[.ar (.i .i64)],kl:=[0]})]}),(15,{j:=some {vs:=[(24,.x .b)]}})]) (.cons Og .nil) (by kernel_rfl) (by kernel_rfl)
def m7(at_3:Int)(miss_4:Int)(lead_5:Int)(r5:Sl ae)(r7:Int)(r8:Sl Int)(r10:Sl Int):(Int×Sl ae×Int×Int×Int×Int×Sl aj)->Option ((Int×Sl ae×Int×Int×Int×Int×Sl aj)⊕(Sl ae×Int×Int×Int×Int×Sl aj)):=fun(i19,s20,i21,i22,i23,i24,s25)=>
 bif decide (i19<(r10.l.length:Int))then((fk i19 r10.l.length).bind fun n26=>
 (fk i19 r8.l.length).bind fun n27=>
 (fk i19 r8.l.length).bind fun n28=>
 (vi r5 (gt r8.l n28)).bind fun r29=>
 (iI (s25.l++[(⟨gt r8.l n27,wr .i64 ((wr .i64 ((wr .i64 ((wr .i64 ((wr .i64 (at_3+lead_5))+miss_4))+r7))+1))+(gt r10.l n26)),r29⟩:aj)])).bind fun l30=>
 some (.inl (wr .i64 (i19+1),s20,i21,i22,i23,i24,(Sl.mk l30))))else
 (some (.inr (s20,i21,i22,i23,i24,s25)))
def kH(t_0:ah)(old_1:Sl (Sl Int))(now_2:Sl (Sl Int))(at_3:Int)(miss_4:Int)(lead_5:Int):Option (aK×Int):=
 ((qe at_3 1099511627776).bind fun r1=>
 bif(!r1)then(some true)else
 ((qe miss_4 1048576).bind fun r2=>
 bif(!r2)then(some true)else
 ((qe lead_5 1048576).bind fun r3=>
 some (!r3))):Option Bool).bind fun b4=>
 bif b4 then(some ((⟨Sl.nil,Sl.nil,0,0,0,0⟩:aK),2))else
 ((mO t_0 old_1 now_2).bind fun(r5,r6)=>
 bif(r6 !=0)then(some ((⟨Sl.nil,Sl.nil,0,0,0,0⟩:aK),r6))else
 (bif((r5.l.length:Int)==0)then(some ((⟨Sl.nil,Sl.nil,0,0,0,0⟩:aK),7))else
 ((nQ t_0).bind fun r7=>
 (m8 r5).bind fun r8=>
 (ow t_0 miss_4).bind fun r9=>
 (pC (r8.l.length:Int) r9).bind fun r10=>
 (bE (m7 at_3 miss_4 lead_5 r5 r7 r8 r10) (0,r5,miss_4,r7,0,0,Sl.nil)).bind fun(s31,i32,i33,i34,i35,s36)=>
 (fk (wr .i64 ((s36.l.length:Int)-1)) s36.l.length).bind fun n37=>
 bif decide ((wr .i64 ((aj.At (gt s36.l n37))+miss_4))>1099511627776)then(some ((⟨Sl.nil,Sl.nil,0,0,0,0⟩:aK),11))else
 (some ((⟨s31,s36,i32,i33,wr .i64 ((wr .i64 ((wr .i64 ((wr .i64 ((wr .i64 ((wr .i64 (at_3+lead_5))+miss_4))+r7))+1))-miss_4))-i33),wr .i64 ((aj.At (gt s36.l n37))+miss_4)⟩:bK),0)))))
def Ti:lD:=⟨[(false,.x y0),(false,.x (.sl (.sl (.i .i64)))),(false,.x (.sl (.sl (.i .i64)))),(false,.x (.i .i64)),(false,.x (.i .i64)),(false,.x (.i .i64))],[([.x y3,.x (.i .i64)],[])],false,[],fun p=>match p with|(t_0,old_1,now_2,at_3,miss_4,lead_5)=>kH t_0 old_1 now_2 at_3 miss_4 lead_5⟩
theorem Sg:cY prog 26 Ti:=cH mixed dM (df:=df) (np:=6) (an:=[(4,{j:=some {vs:=[(33,.x .b)]}}),(27,{j:=some {vs:=[(16,.op 0 y3 []),(75,.x (.i .i64))],os:=[.bx y3 (.rc (.co (.x (.sl y4)) (.co (.so 1) (.co (.x (.i .i64)) (.co (.x (.i .i64)) (.co (.x (.i .i64)) (.co (.x (.i .i64)) .ni))))))),.ar y5],kl:=[5]},e:=[(.exit 1,{vs:=[(16,.op 0 y3 [])],os:=[.bx y3 (.rc (.co (.x (.sl y4)) (.co (.so 1) (.co (.x (.i .i64)) (.co (.x (.i .i64)) (.co (.x (.i .i64)) (.co (.x (.i .i64)) .ni))))))),.ar y5],kl:=[5]})]})]) (.cons Ur (.cons Up (.cons Sm (.cons Um (.cons Sk (.cons Uf (.cons Ue .nil))))))) (by kernel_rfl) (by kernel_rfl)
def nT(t_0:ah)(old_1:Sl (Sl Int))(now_2:Sl (Sl Int))(at_3:Int)(miss_4:Int)(lead_5:Int):Option Bool:=
 ((lh t_0 old_1).bind fun r1=>
 bif(!r1)then(some true)else
 ((lh t_0 now_2).bind fun r2=>
 some (!r2)):Option Bool).bind fun b3=>
 bif b3 then((gL).bind fun r4=>
 some r4)else
 ((kH t_0 old_1 now_2 at_3 miss_4 lead_5).bind fun(r5,r6)=>
 bif(r6 !=0)then((gL).bind fun r7=>
 some r7)else
 (((fB t_0 old_1 now_2 r5).bind fun r8=>
 bif((r8.l.length:Int)==0)then((gL).bind fun r9=>
 some r9)else
 (some false):Option Bool).bind fun b10=>
 some b10))
def Th:lD:=⟨[(false,.x y0),(false,.x (.sl (.sl (.i .i64)))),(false,.x (.sl (.sl (.i .i64)))),(false,.x (.i .i64)),(false,.x (.i .i64)),(false,.x (.i .i64))],[([.x .b],[])],true,[],fun p=>match p with|(t_0,old_1,now_2,at_3,miss_4,lead_5)=>nT t_0 old_1 now_2 at_3 miss_4 lead_5⟩
theorem Vn:cY prog 6 Th:=cH mixed dM (df:=df) (np:=6) (an:=[(4,{j:=some {vs:=[(24,.x .b)]}}),(15,{j:=some {vs:=[(12,.x .b)]}})]) (.cons S7 (.cons Si (.cons Sg (.cons Qu .nil)))) (by kernel_rfl) (by kernel_rfl)
def nR(t_0:ah)(old_1:Sl (Sl Int))(now_2:Sl (Sl Int))(at_3:Int)(miss_4:Int)(lead_5:Int)(k_6:Int):Option Bool:=
 ((lh t_0 old_1).bind fun r1=>
 bif(!r1)then(some true)else
 ((lh t_0 now_2).bind fun r2=>
 some (!r2)):Option Bool).bind fun b3=>
 bif b3 then((gL).bind fun r4=>
 some r4)else
 ((kH t_0 old_1 now_2 at_3 miss_4 lead_5).bind fun(r5,r6)=>
 bif(((r6 !=0)||(decide (k_6<0)))||(decide (k_6>=(((aK.i_ r5).l).length:Int))))then((gL).bind fun r7=>
 some r7)else
 ((qE ((aK.i_ r5).l) 0 k_6).bind fun l8=>
 (iI ([]++(((aK.i_ r5).to l8).l))).bind fun l9=>
 (qE ((aK.i_ r5).l) (wr .i64 (k_6+1)) ((aK.i_ r5).l).length).bind fun l10=>
 (iI (((kR Sl.nil (((aK.i_ r5).to l8).l) l9).l)++(((aK.i_ r5).to l10).l))).bind fun l11=>
 (fB t_0 old_1 now_2 (⟨(kR (kR Sl.nil (((aK.i_ r5).to l8).l) l9) (((aK.i_ r5).to l10).l) l11),aK.eN r5,aK.AD r5,aK.G1 r5,aK.pT r5,aK.To r5⟩:bK)).bind fun r12=>
 (bif((r12.l.length:Int)==0)then(some true)else
 ((fk 0 r12.l.length).bind fun n13=>
 (fk k_6 ((aK.i_ r5).l).length).bind fun n14=>
 (fk k_6 ((aK.i_ r5).l).length).bind fun n15=>
 some (!(decide ((gt r12.l n13)=(⟨2,ae.Sw (gt ((aK.i_ r5).l) n14),ae.mI (gt ((aK.i_ r5).l) n15)⟩:am))))):Option Bool).bind fun b16=>
 bif b16 then(some false)else
 (bif((k_6==0)||(decide (k_6>=(((aK.eN r5).l).length:Int))))then((gL).bind fun r17=>
 some r17)else
 ((iI ([]++((aK.eN r5).l))).bind fun l18=>
 (fk (wr .i64 (k_6-1)) ((kR Sl.nil ((aK.eN r5).l) l18).l).length).bind fun n19=>
 (fk k_6 ((kR Sl.nil ((aK.eN r5).l) l18).l).length).bind fun n20=>
 (fB t_0 old_1 now_2 (⟨aK.i_ r5,(Sl.mk (((kR Sl.nil ((aK.eN r5).l) l18).l).set n20 (⟨aj.No (gt ((kR Sl.nil ((aK.eN r5).l) l18).l) n20),aj.At (gt ((kR Sl.nil ((aK.eN r5).l) l18).l) n19),aj.RW (gt ((kR Sl.nil ((aK.eN r5).l) l18).l) n20)⟩:aj))),aK.AD r5,aK.G1 r5,aK.pT r5,aK.To r5⟩:bK)).bind fun r21=>
 (bif((r21.l.length:Int)==1)then((fk 0 r21.l.length).bind fun n22=>
 bif decide ((gt r21.l n22)=(⟨4,k_6,0⟩:am))then((gL).bind fun r23=>
 some r23)else
 (some false))else
 (some false):Option Bool).bind fun b24=>
 some b24))))
def Tg:lD:=⟨[(false,.x y0),(false,.x (.sl (.sl (.i .i64)))),(false,.x (.sl (.sl (.i .i64)))),(false,.x (.i .i64)),(false,.x (.i .i64)),(false,.x (.i .i64)),(false,.x (.i .i64))],[([.x .b],[])],true,[],fun p=>match p with|(t_0,old_1,now_2,at_3,miss_4,lead_5,k_6)=>nR t_0 old_1 now_2 at_3 miss_4 lead_5 k_6⟩
theorem Ud:cY prog 7 Tg:=cH mixed dM (df:=df) (np:=7) (an:=[(4,{j:=some {vs:=[(29,.x .b)]}}),(28,{j:=some {vs:=[(97,.x .b)]}}),(47,{j:=some {vs:=[(14,.x .b)]}})]) (.cons S7 (.cons Si (.cons Sg (.cons Qu .nil)))) (by kernel_rfl) (by kernel_rfl)
end Go.Proofs.YthcplpfiidlinaaDoor.J
