/- What functions of the program compute, and that the model's run computes it. Conditions: as stated. -/
import Derived.Test.YthcplpfiidlinaaDoorKm
import Derived.Test.YthcplpfiidlinaaDoorChecked
import Derived.KernelRfl
open Go.Ev Go
noncomputable section
open Option.some renaming inj->aa
namespace Go.Proofs.YthcplpfiidlinaaDoor.J
abbrev prog:Program:=Tryd.prog
theorem cQ:prog.follows .mixedOrders=true:=by kernel_rfl
def Ml:Arr 32 Int:=⟨[0,1,28,2,29,14,24,3,30,22,20,15,25,17,4,8,31,27,13,23,21,19,16,7,26,12,18,6,11,5,10,9],rfl⟩
theorem cS:mn:=M7 (v:=.pt (.ar 32 (.i .u8)) Ml) (fun g w h=>by
 unfold M8 at h;split at h
 .rename_i e;exact⟨e,(aa h).symm⟩
 .cases h) rfl (fun h n=>⟨cu (dX rfl ⟨rfl,rfl⟩),trivial,rfl⟩)
def cH:Bz:=fun f=>if f=3 then(true,[])else if f=4 then(true,[])else if f=8 then(true,[])else if f=9 then(true,[])else if f=10 then(true,[])else if f=14 then(true,[])else if f=15 then(true,[])else if f=16 then(true,[])else if f=18 then(true,[])else if f=19 then(true,[])else if f=20 then(true,[])else if f=24 then(true,[])else if f=27 then(false,[true])else if f=28 then(false,[true])else if f=29 then(false,[true])else if f=34 then(true,[])else if f=35 then(true,[])else if f=37 then(true,[])else if f=38 then(true,[])else if f=39 then(true,[])else if f=47 then(true,[])else if f=49 then(true,[])else if f=50 then(true,[])else if f=52 then(true,[])else if f=54 then(true,[])else if f=56 then(true,[])else if f=57 then(false,[true,false,false,false,false])else if f=58 then(true,[])else if f=59 then(true,[])else if f=61 then(true,[])else if f=62 then(false,[true,false,false,false])else if f=63 then(true,[])else if f=64 then(true,[])else if f=65 then(true,[])else if f=66 then(true,[])else if f=69 then(true,[])else if f=70 then(true,[])else if f=71 then(true,[])else if f=72 then(true,[])else if f=74 then(true,[])else if f=75 then(true,[])else if f=76 then(true,[])else if f=85 then(true,[])else if f=87 then(true,[])else if f=88 then(true,[])else if f=89 then(true,[])else if f=90 then(true,[])else if f=91 then(true,[])else if f=92 then(true,[])else if f=93 then(true,[])else if f=95 then(true,[])else if f=96 then(true,[])else if f=97 then(true,[])else if f=98 then(true,[])else if f=99 then(true,[])else if f=100 then(true,[])else if f=101 then(true,[])else if f=124 then(true,[])else if f=125 then(true,[])else(false,[])
def So:Bz:=fun f=>if f=1000000000 then(true,[])else cH f
@[reducible] def bi:Type:=Int×Int×Int×Int×Int×Int
@[reducible] def bi.A (x:bi):Int:=x.1
@[reducible] def bi.j3 (x:bi):Int:=x.2.1
@[reducible] def bi.B (x:bi):Int:=x.2.2.1
@[reducible] def bi.jZ (x:bi):Int:=x.2.2.2.1
@[reducible] def bi.pw (x:bi):Int:=x.2.2.2.2.1
@[reducible] def bi.lS (x:bi):Int:=x.2.2.2.2.2
@[reducible] def cW:Type:=Int×Int
@[reducible] def cW.At (x:cW):Int:=x.1
@[reducible] def cW.h_ (x:cW):Int:=x.2
@[reducible] def af:Type:=Int×Sl bi×Sl cW
@[reducible] def af.aU (x:af):Int:=x.1
@[reducible] def af.aY (x:af):Sl bi:=x.2.1
@[reducible] def af.aN (x:af):Sl cW:=x.2.2
@[reducible] def aZ:Type:=Int×Int×Int×Int
@[reducible] def aZ.Sw (x:aZ):Int:=x.1
@[reducible] def aZ.jF (x:aZ):Int:=x.2.1
@[reducible] def aZ.h_ (x:aZ):Int:=x.2.2.1
@[reducible] def aZ.zU (x:aZ):Int:=x.2.2.2
@[reducible] def dE:Type:=Int×Int×Sl Int
@[reducible] def dE.No (x:dE):Int:=x.1
@[reducible] def dE.At (x:dE):Int:=x.2.1
@[reducible] def dE.Of (x:dE):Sl Int:=x.2.2
@[reducible] def am:Type:=Sl aZ×Sl dE×Int×Int×Int×Int
@[reducible] def am.aJ (x:am):Sl aZ:=x.1
@[reducible] def am.az (x:am):Sl dE:=x.2.1
@[reducible] def am.j4 (x:am):Int:=x.2.2.1
@[reducible] def am.EK (x:am):Int:=x.2.2.2.1
@[reducible] def am.mV (x:am):Int:=x.2.2.2.2.1
@[reducible] def am.To (x:am):Int:=x.2.2.2.2.2
@[reducible] def y1:Ty:=.st (.pr (.i .i64) (.pr (.i .i64) (.pr (.i .i64) (.pr (.i .i64) (.pr (.i .i64) (.i .i64))))))
@[reducible] def y2:Ty:=.st (.pr (.i .i64) (.i .i64))
@[reducible] def y0:Ty:=.st (.pr (.i .i64) (.pr (.sl y1) (.sl y2)))
@[reducible] def y4:Ty:=.st (.pr (.i .i64) (.pr (.i .i64) (.pr (.i .i64) (.i .i64))))
@[reducible] def y5:Ty:=.st (.pr (.i .i64) (.pr (.i .i64) (.sl (.i .i64))))
@[reducible] def y3:Ty:=.st (.pr (.sl y4) (.pr (.sl y5) (.pr (.i .i64) (.pr (.i .i64) (.pr (.i .i64) (.i .i64))))))
@[reducible] def ah:Type:=Int×Int×Int×Int
@[reducible] def ah.Sw (x:ah):Int:=x.1
@[reducible] def ah.jF (x:ah):Int:=x.2.1
@[reducible] def ah.h_ (x:ah):Int:=x.2.2.1
@[reducible] def ah.zU (x:ah):Int:=x.2.2.2
@[reducible] def aj:Type:=Int×Int×Sl Int
@[reducible] def aj.No (x:aj):Int:=x.1
@[reducible] def aj.At (x:aj):Int:=x.2.1
@[reducible] def aj.Of (x:aj):Sl Int:=x.2.2
@[reducible] def bB:Type:=Sl ah×Sl aj×Int×Int×Int×Int
@[reducible] def bB.aJ (x:bB):Sl ah:=x.1
@[reducible] def bB.az (x:bB):Sl aj:=x.2.1
@[reducible] def bB.j4 (x:bB):Int:=x.2.2.1
@[reducible] def bB.EK (x:bB):Int:=x.2.2.2.1
@[reducible] def bB.mV (x:bB):Int:=x.2.2.2.2.1
@[reducible] def bB.To (x:bB):Int:=x.2.2.2.2.2
@[reducible] def bp:Type:=Int×Int
@[reducible] def bp.sw (x:bp):Int:=x.1
@[reducible] def bp.Ae (x:bp):Int:=x.2
@[reducible] def ak:Type:=Int×Int×Int
@[reducible] def ak.L1 (x:ak):Int:=x.1
@[reducible] def ak.K (x:ak):Int:=x.2.1
@[reducible] def ak.H (x:ak):Int:=x.2.2
@[reducible] def bH:Type:=af×Sl (Sl Int)×Sl (Sl Int)×bB×Sl ak
@[reducible] def bH.t (x:bH):af:=x.1
@[reducible] def bH.p (x:bH):bB:=x.2.2.2.1
@[reducible] def y7:Ty:=.st (.pr (.i .i64) (.pr (.i .i64) (.i .i64)))
@[reducible] def y6:Ty:=.st (.pr y0 (.pr (.sl (.sl (.i .i64))) (.pr (.sl (.sl (.i .i64))) (.pr y3 (.sl y7)))))
@[reducible] def aS:Type:=Int×Int
@[reducible] def aS.mV (x:aS):Int:=x.1
@[reducible] def aS.To (x:aS):Int:=x.2
@[reducible] def aL:Type:=Int×Int×Int
@[reducible] def aL.L1 (x:aL):Int:=x.1
@[reducible] def aL.K (x:aL):Int:=x.2.1
@[reducible] def aL.H (x:aL):Int:=x.2.2
@[reducible] def bD:Type:=Int×Int
@[reducible] def bD.mV (x:bD):Int:=x.1
@[reducible] def bD.To (x:bD):Int:=x.2
def ng(r_1:Sl (Sl Int)):Int->Option (Int⊕(Bool⊕Unit)):=fun i2=>
 bif decide (i2<(r_1.l.length:Int))then((df i2 r_1.l.length).bind fun n3=>
 bif decide ((((gt r_1.l n3).l).length:Int)>12)then(some (.inr (.inl false)))else
 (some (.inl (wr .i64 (i2+1)))))else
 (some (.inr (.inr ())))
def oS(t_0:af)(r_1:Sl (Sl Int)):Option Bool:=
 (bc (ng r_1) 0).bind fun
 |.inl b4=>(some b4)
 |.inr _=>(some (((decide ((((af.aY t_0).l).length:Int)<=30))&&(decide ((((af.aN t_0).l).length:Int)<=12)))&&(decide ((r_1.l.length:Int)<=12))))
def TN:j8:=⟨[(false,.x y0),(false,.x (.sl (.sl (.i .i64))))],[([.x .b],[])],true,[],fun p=>match p with|(t_0,r_1)=>oS t_0 r_1⟩
theorem Ud:cJ prog 19 TN:=bU cQ cS (cH:=cH) (np:=2) (an:=[(5,{j:=some {vs:=[(5,.x (.i .i64))]},e:=[(.ret,{vs:=[(4,.x .b)]}),(.exit 0,{})]})]) .nil (by kernel_rfl) (by kernel_rfl)
def nf(p_3:am):Int->Option (Int⊕(Bool⊕Unit)):=fun i2=>
 bif decide (i2<(((am.az p_3).l).length:Int))then((df i2 ((am.az p_3).l).length).bind fun n3=>
 bif decide ((((dE.Of (gt ((am.az p_3).l) n3)).l).length:Int)>20)then(some (.inr (.inl false)))else
 (some (.inl (wr .i64 (i2+1)))))else
 (some (.inr (.inr ())))
def oR(t_0:af)(old_1:Sl (Sl Int))(now_2:Sl (Sl Int))(p_3:am):Option Bool:=
 (bc (nf p_3) 0).bind fun
 |.inl b4=>(some b4)
 |.inr _=>(((oS t_0 old_1).bind fun r5=>
 bif r5 then((oS t_0 now_2).bind fun r6=>
 some ((r6&&(decide ((((am.aJ p_3).l).length:Int)<=40)))&&(decide ((((am.az p_3).l).length:Int)<=12))))else
 (some false):Option Bool).bind fun b7=>
 some b7)
def T5:j8:=⟨[(false,.x y0),(false,.x (.sl (.sl (.i .i64)))),(false,.x (.sl (.sl (.i .i64)))),(false,.x y3)],[([.x .b],[])],true,[],fun p=>match p with|(t_0,old_1,now_2,p_3)=>oR t_0 old_1 now_2 p_3⟩
theorem Uc:cJ prog 8 T5:=bU cQ cS (cH:=cH) (np:=4) (an:=[(5,{j:=some {vs:=[(9,.x (.i .i64))]},e:=[(.ret,{vs:=[(8,.x .b)]}),(.exit 0,{})]}),(16,{j:=some {vs:=[(8,.x .b)]}})]) (.cons Ud .nil) (by kernel_rfl) (by kernel_rfl)
def k7(t_0:af):(Int×Sl bp)->Option ((Int×Sl bp)⊕(Sl bp)):=fun(i4,s5)=>
 bif decide (i4<(((af.aY t_0).l).length:Int))then((df i4 ((af.aY t_0).l).length).bind fun n6=>
 (fF (s5.l++[(⟨bi.A (gt ((af.aY t_0).l) n6),bi.j3 (gt ((af.aY t_0).l) n6)⟩:bp),(⟨bi.B (gt ((af.aY t_0).l) n6),bi.jZ (gt ((af.aY t_0).l) n6)⟩:bp)])).bind fun l7=>
 some (.inl (wr .i64 (i4+1),(Sl.mk l7))))else
 (some (.inr s5))
def kZ(t_0:af):(Int×Sl bp)->Option ((Int×Sl bp)⊕(Sl bp)):=fun(i11,s12)=>
 bif decide (i11<(((af.aN t_0).l).length:Int))then((df i11 ((af.aN t_0).l).length).bind fun n13=>
 (fF (s12.l++[gt ((af.aN t_0).l) n13])).bind fun l14=>
 some (.inl (wr .i64 (i11+1),(Sl.mk l14))))else
 (some (.inr s12))
def mI(t_0:af):Option (Sl bp):=
 (bc (k7 t_0) (0,Sl.nil)).bind fun s8=>
 (bc (kZ t_0) (0,s8)).bind fun s15=>
 some s15
def T4:j8:=⟨[(false,.x y0)],[([.x (.sl y2)],[])],false,[],fun p=>match p with|t_0=>mI t_0⟩
theorem Ub:cJ prog 94 T4:=bU cQ cS (cH:=cH) (np:=1) (an:=[(7,{j:=some {vs:=[(3,.so 0),(11,.x (.i .i64))],os:=[.ar y2]},e:=[(.exit 0,{vs:=[(3,.so 0)],os:=[.ar y2]})]}),(19,{j:=some {vs:=[(3,.so 0),(32,.x (.i .i64))],os:=[.ar y2],kl:=[1]},e:=[(.exit 2,{vs:=[(3,.so 0)],os:=[.ar y2],kl:=[1]})]})]) .nil (by kernel_rfl) (by kernel_rfl)
def lW(t_0:af):Int->Option (Int⊕(Bool⊕Unit)):=fun i2=>
 bif decide (i2<(((af.aY t_0).l).length:Int))then((df i2 ((af.aY t_0).l).length).bind fun n3=>
 bif(((((bi.A (gt ((af.aY t_0).l) n3))==(bi.B (gt ((af.aY t_0).l) n3)))||(decide ((bi.pw (gt ((af.aY t_0).l) n3))<1)))||(decide ((bi.pw (gt ((af.aY t_0).l) n3))>(bi.lS (gt ((af.aY t_0).l) n3)))))||(decide ((bi.lS (gt ((af.aY t_0).l) n3))>1000)))then(some (.inr (.inl false)))else
 (some (.inl (wr .i64 (i2+1)))))else
 (some (.inr (.inr ())))
def iE(t_0:af)(r5:Sl bp):(Int×Mp bp Int)->Option ((Int×Mp bp Int)⊕(Bool⊕Unit)):=fun(i9,m10)=>
 bif decide (i9<(r5.l.length:Int))then((df i9 r5.l.length).bind fun n11=>
 (vL ((md m10 0 (gt r5.l n11)).1) ((md m10 0 (gt r5.l n11)).2.2) (wr .i64 ((pp m10 0 (gt r5.l n11))+1))).bind fun m12=>
 bif(((((decide ((bp.sw (gt r5.l n11))<0))||(decide ((bp.sw (gt r5.l n11))>=(af.aU t_0))))||(decide ((bp.Ae (gt r5.l n11))<0)))||(decide ((bp.Ae (gt r5.l n11))>=8)))||(decide ((pp m12 0 (gt r5.l n11))>1)))then(some (.inr (.inl false)))else
 (some (.inl (wr .i64 (i9+1),m12))))else
 (some (.inr (.inr ())))
def nI(t_0:af):Option Bool:=
 bif((((decide ((af.aU t_0)<1))||(decide ((af.aU t_0)>8)))||(decide ((((af.aY t_0).l).length:Int)>24)))||(decide ((((af.aN t_0).l).length:Int)>8)))then(some false)else
 ((bc (lW t_0) 0).bind fun
 |.inl b4=>(some b4)
 |.inr _=>((mI t_0).bind fun r5=>
 (bc (iE t_0 r5) (0,(Mp.none:Mp bp Int))).bind fun
 |.inl b13=>(some b13)
 |.inr _=>(some true)))
def T3:j8:=⟨[(false,.x y0)],[([.x .b],[])],true,[],fun p=>match p with|t_0=>nI t_0⟩
theorem Ua:cJ prog 69 T3:=bU cQ cS (cH:=cH) (np:=1) (an:=[(10,{j:=some {vs:=[(31,.x (.i .i64))]},e:=[(.ret,{vs:=[(2,.x .b)]}),(.exit 0,{})]}),(27,{j:=some {vs:=[(5,.om 0),(62,.x (.i .i64))],os:=[.mp y2 (.i .i64)],kl:=[1]},e:=[(.ret,{vs:=[(2,.x .b)],kl:=[1]}),(.exit 2,{kl:=[1]})]})]) (.cons Ub .nil) (by kernel_rfl) (by kernel_rfl)
def qT(p_0:Int):Option Bool:=some ((decide (p_0<0))||(decide (p_0>=8)))
def T2:j8:=⟨[(false,.x (.i .i64))],[([.x .b],[])],true,[],fun p=>match p with|p_0=>qT p_0⟩
theorem T_:cJ prog 71 T2:=bU cQ cS (cH:=cH) (np:=1) (an:=[]) .nil (by kernel_rfl) (by kernel_rfl)
def cI(s_0:Sl Int):Int->Option (Int⊕(Int⊕Unit)):=fun i2=>
 bif decide (i2<(s_0.l.length:Int))then((df i2 s_0.l.length).bind fun n3=>
 (qT (gt s_0.l n3)).bind fun r4=>
 bif r4 then(some (.inr (.inl i2)))else
 (some (.inl (wr .i64 (i2+1)))))else
 (some (.inr (.inr ())))
def cV(s_0:Sl Int):Option Int:=
 (bc (cI s_0) 0).bind fun
 |.inl i5=>(some i5)
 |.inr _=>(some (-1))
def T1:j8:=⟨[(false,.x (.sl (.i .i64))),(false,.fn 71 .ni)],[([.x (.i .i64)],[])],true,[],fun p=>match p with|s_0=>cV s_0⟩
theorem T9:cJ prog 95 T1:=bU cQ cS (cH:=cH) (np:=2) (an:=[(5,{j:=some {vs:=[(8,.x (.i .i64))]},e:=[(.ret,{vs:=[(4,.x (.i .i64))]}),(.exit 0,{})]})]) (.cons T_ .nil) (by kernel_rfl) (by kernel_rfl)
def cf(s_0:Sl Int):Option Bool:=
 (cV s_0).bind fun r1=>
 some (decide (r1>=0))
def T0:j8:=⟨[(false,.x (.sl (.i .i64))),(false,.fn 71 .ni)],[([.x .b],[])],true,[],fun p=>match p with|s_0=>cf s_0⟩
theorem T8:cJ prog 70 T0:=bU cQ cS (cH:=cH) (np:=2) (an:=[]) (.cons T9 .nil) (by kernel_rfl) (by kernel_rfl)
def jO(t_0:af)(r_1:Sl (Sl Int)):Int->Option (Int⊕(Bool⊕Unit)):=fun i3=>
 bif decide (i3<(r_1.l.length:Int))then((df i3 r_1.l.length).bind fun n4=>
 (bif((((gt r_1.l n4).l).length:Int) !=(((af.aN t_0).l).length:Int))then(some true)else
 ((cf (gt r_1.l n4)).bind fun r5=>
 some r5):Option Bool).bind fun b6=>
 bif b6 then(some (.inr (.inl false)))else
 (some (.inl (wr .i64 (i3+1)))))else
 (some (.inr (.inr ())))
def jm(t_0:af)(r_1:Sl (Sl Int)):Option Bool:=
 (nI t_0).bind fun r1=>
 bif((!r1)||((r_1.l.length:Int) !=(af.aU t_0)))then(some false)else
 ((bc (jO t_0 r_1) 0).bind fun
 |.inl b7=>(some b7)
 |.inr _=>(some true))
def TZ:j8:=⟨[(false,.x y0),(false,.x (.sl (.sl (.i .i64))))],[([.x .b],[])],true,[],fun p=>match p with|(t_0,r_1)=>jm t_0 r_1⟩
theorem SC:cJ prog 34 TZ:=bU cQ cS (cH:=cH) (np:=2) (an:=[(10,{j:=some {vs:=[(19,.x (.i .i64))]},e:=[(.ret,{vs:=[(4,.x .b)]}),(.exit 0,{})]}),(18,{j:=some {vs:=[(32,.x .b)]}})]) (.cons Ua (.cons T8 .nil)) (by kernel_rfl) (by kernel_rfl)
def mz(r_0:Sl (Sl Int))(sw_1:Int)(h_2:Int):Option (Int×Bool):=
 (bif(((decide (sw_1<0))||(decide (sw_1>=(r_0.l.length:Int))))||(decide (h_2<0)))then(some true)else
 ((df sw_1 r_0.l.length).bind fun n1=>
 some (decide (h_2>=(((gt r_0.l n1).l).length:Int)))):Option Bool).bind fun b2=>
 bif b2 then(some (0,false))else
 ((df sw_1 r_0.l.length).bind fun n3=>
 (df h_2 ((gt r_0.l n3).l).length).bind fun n4=>
 some (gt ((gt r_0.l n3).l) n4,true))
def TY:j8:=⟨[(false,.x (.sl (.sl (.i .i64)))),(false,.x (.i .i64)),(false,.x (.i .i64))],[([.x (.i .i64),.x .b],[])],true,[],fun p=>match p with|(r_0,sw_1,h_2)=>mz r_0 sw_1 h_2⟩
theorem TR:cJ prog 96 TY:=bU cQ cS (cH:=cH) (np:=3) (an:=[(4,{j:=some {vs:=[(28,.x .b)]}})]) .nil (by kernel_rfl) (by kernel_rfl)
def fY(s_0:Sl Int)(v_1:Int):Int->Option (Int⊕(Int⊕Unit)):=fun i2=>
 bif decide (i2<(s_0.l.length:Int))then((df i2 s_0.l.length).bind fun n3=>
 bif(v_1==(gt s_0.l n3))then(some (.inr (.inl i2)))else
 (some (.inl (wr .i64 (i2+1)))))else
 (some (.inr (.inr ())))
def gY(s_0:Sl Int)(v_1:Int):Option Int:=
 (bc (fY s_0 v_1) 0).bind fun
 |.inl i4=>(some i4)
 |.inr _=>(some (-1))
def TX:j8:=⟨[(false,.x (.sl (.i .i64))),(false,.x (.i .i64))],[([.x (.i .i64)],[])],true,[],fun p=>match p with|(s_0,v_1)=>gY s_0 v_1⟩
theorem T7:cJ prog 72 TX:=bU cQ cS (cH:=cH) (np:=2) (an:=[(5,{j:=some {vs:=[(8,.x (.i .i64))]},e:=[(.ret,{vs:=[(4,.x (.i .i64))]}),(.exit 0,{})]})]) .nil (by kernel_rfl) (by kernel_rfl)
def cZ(s_0:Sl Int)(v_1:Int):Option Bool:=
 (gY s_0 v_1).bind fun r1=>
 some (decide (r1>=0))
def Sm:j8:=⟨[(false,.x (.sl (.i .i64))),(false,.x (.i .i64))],[([.x .b],[])],true,[],fun p=>match p with|(s_0,v_1)=>cZ s_0 v_1⟩
theorem OZ:cJ prog 35 Sm:=bU cQ cS (cH:=cH) (np:=2) (an:=[]) (.cons T7 .nil) (by kernel_rfl) (by kernel_rfl)
def il(l_0:Sl Int):Option Bool:=
 (bif decide ((l_0.l.length:Int)>0)then((uy l_0.l 0 (wr .i64 ((l_0.l.length:Int)-1))).bind fun l1=>
 (df (wr .i64 ((l_0.l.length:Int)-1)) l_0.l.length).bind fun n2=>
 (cZ (l_0.to l1) (gt l_0.l n2)).bind fun r3=>
 some r3)else
 (some false):Option Bool).bind fun b4=>
 some b4
def Sk:j8:=⟨[(false,.x (.sl (.i .i64)))],[([.x .b],[])],true,[],fun p=>match p with|l_0=>il l_0⟩
theorem Tu:cJ prog 97 Sk:=bU cQ cS (cH:=cH) (np:=1) (an:=[(3,{j:=some {vs:=[(2,.x .b)]}})]) (.cons OZ .nil) (by kernel_rfl) (by kernel_rfl)
def mX(t_0:af)(sw_1:Int)(port_2:Int):Int->Option (Int⊕((Int×Int×Int×Bool)⊕Unit)):=fun i2=>
 bif decide (i2<(((af.aY t_0).l).length:Int))then((df i2 ((af.aY t_0).l).length).bind fun n3=>
 bif decide ((⟨sw_1,port_2⟩:bp)=(⟨bi.A (gt ((af.aY t_0).l) n3),bi.j3 (gt ((af.aY t_0).l) n3)⟩:bp))then(some (.inr (.inl (bi.B (gt ((af.aY t_0).l) n3),bi.jZ (gt ((af.aY t_0).l) n3),i2,true))))else
 (bif decide ((⟨sw_1,port_2⟩:bp)=(⟨bi.B (gt ((af.aY t_0).l) n3),bi.jZ (gt ((af.aY t_0).l) n3)⟩:bp))then(some (.inr (.inl (bi.A (gt ((af.aY t_0).l) n3),bi.j3 (gt ((af.aY t_0).l) n3),i2,true))))else
 (some (.inl (wr .i64 (i2+1))))))else
 (some (.inr (.inr ())))
def nJ(t_0:af)(sw_1:Int)(port_2:Int):Option (Int×Int×Int×Bool):=
 (bc (mX t_0 sw_1 port_2) 0).bind fun
 |.inl (i4,i5,i6,b7)=>(some (i4,i5,i6,b7))
 |.inr _=>(some (0,0,0,false))
def Sj:j8:=⟨[(false,.x y0),(false,.x (.i .i64)),(false,.x (.i .i64))],[([.x (.i .i64),.x (.i .i64),.x (.i .i64),.x .b],[])],true,[],fun p=>match p with|(t_0,sw_1,port_2)=>nJ t_0 sw_1 port_2⟩
theorem Qy:cJ prog 89 Sj:=bU cQ cS (cH:=cH) (np:=3) (an:=[(7,{j:=some {vs:=[(21,.x (.i .i64))]},e:=[(.ret,{vs:=[(6,.x (.i .i64)),(7,.x (.i .i64)),(8,.x (.i .i64)),(9,.x .b)]}),(.exit 0,{})]})]) .nil (by kernel_rfl) (by kernel_rfl)
def nP(t_0:af)(r_1:Sl (Sl Int))(sw_2:Int)(h_3:Int):Option (Int×Bool):=
 (mz r_1 sw_2 h_3).bind fun(r1,r2)=>
 bif(!r2)then(some (0,false))else
 ((nJ t_0 sw_2 r1).bind fun(r3,r4,r5,r6)=>
 some (r3,r6))
def Si:j8:=⟨[(false,.x y0),(false,.x (.sl (.sl (.i .i64)))),(false,.x (.i .i64)),(false,.x (.i .i64))],[([.x (.i .i64),.x .b],[])],true,[],fun p=>match p with|(t_0,r_1,sw_2,h_3)=>nP t_0 r_1 sw_2 h_3⟩
theorem Tt:cJ prog 98 Si:=bU cQ cS (cH:=cH) (np:=4) (an:=[]) (.cons TR (.cons Qy .nil)) (by kernel_rfl) (by kernel_rfl)
def eg(t_0:af)(r_1:Sl (Sl Int))(h_3:Int):(Sl Int)->Option (Sl Int⊕((Int×Sl Int)⊕Unit)):=fun s6=>
 (il s6).bind fun r7=>
 bif(!r7)then((df (wr .i64 ((s6.l.length:Int)-1)) s6.l.length).bind fun n8=>
 (df h_3 ((af.aN t_0).l).length).bind fun n9=>
 (df (gt s6.l n8) r_1.l.length).bind fun n10=>
 (df h_3 ((gt r_1.l n10).l).length).bind fun n11=>
 bif decide ((gt ((af.aN t_0).l) n9)=(⟨gt s6.l n8,gt ((gt r_1.l n10).l) n11⟩:cW))then(some (.inr (.inl (0,s6))))else
 ((nP t_0 r_1 (gt s6.l n8) h_3).bind fun(r12,r13)=>
 bif(!r13)then(some (.inr (.inl (13,Sl.nil))))else
 ((fF (s6.l++[r12])).bind fun l14=>
 some (.inl (Sl.mk l14)))))else
 (some (.inr (.inr ())))
def ju(t_0:af)(r_1:Sl (Sl Int))(sw_2:Int)(h_3:Int):Option (Sl Int×Int):=
 (mz r_1 sw_2 h_3).bind fun(r1,r2)=>
 (bif(!r2)then(some true)else
 ((jm t_0 r_1).bind fun r3=>
 some (!r3)):Option Bool).bind fun b4=>
 bif b4 then(some (Sl.nil,2))else
 ((bc (eg t_0 r_1 h_3) (Sl.mk [sw_2])).bind fun
 |.inl (i15,s16)=>(some (s16,i15))
 |.inr _=>(some (Sl.nil,12)))
def Sg:j8:=⟨[(false,.x y0),(false,.x (.sl (.sl (.i .i64)))),(false,.x (.i .i64)),(false,.x (.i .i64))],[([.x (.sl (.i .i64)),.x (.i .i64)],[])],false,[],fun p=>match p with|(t_0,r_1,sw_2,h_3)=>ju t_0 r_1 sw_2 h_3⟩
theorem Ts:cJ prog 73 Sg:=bU cQ cS (cH:=cH) (np:=4) (an:=[(6,{j:=some {vs:=[(30,.x .b)]}}),(12,{j:=some {vs:=[(12,.so 0)],os:=[.ar (.i .i64)],kl:=[3]},e:=[(.ret,{vs:=[(8,.so 0),(9,.x (.i .i64))],os:=[.ar (.i .i64)],kl:=[3]}),(.exit 0,{kl:=[3]})]})]) (.cons TR (.cons SC (.cons Tu (.cons Tt .nil)))) (by kernel_rfl) (by kernel_rfl)
def gp(t_0:af)(r_1:Sl (Sl Int))(h_2:Int):(Int×Sl Int)->Option ((Int×Sl Int)⊕(Sl Int)):=fun(i5,s6)=>
 bif decide (i5<(r_1.l.length:Int))then((ju t_0 r_1 i5 h_2).bind fun(r7,r8)=>
 (fF (s6.l++[wr .i64 ((r7.l.length:Int)-1)])).bind fun l9=>
 some (.inl (wr .i64 (i5+1),(Sl.mk l9))))else
 (some (.inr s6))
def mK(t_0:af)(r_1:Sl (Sl Int))(h_2:Int):Option (Sl Int):=
 (jm t_0 r_1).bind fun r1=>
 bif(((!r1)||(decide (h_2<0)))||(decide (h_2>=(((af.aN t_0).l).length:Int))))then(some Sl.nil)else
 ((bc (gp t_0 r_1 h_2) (0,Sl.nil)).bind fun s10=>
 some s10)
def Sf:j8:=⟨[(false,.x y0),(false,.x (.sl (.sl (.i .i64)))),(false,.x (.i .i64))],[([.x (.sl (.i .i64))],[])],false,[],fun p=>match p with|(t_0,r_1,h_2)=>mK t_0 r_1 h_2⟩
theorem Tq:cJ prog 36 Sf:=bU cQ cS (cH:=cH) (np:=3) (an:=[(12,{j:=some {vs:=[(7,.so 0),(28,.x (.i .i64))],os:=[.ar (.i .i64)]},e:=[(.exit 0,{vs:=[(7,.so 0)],os:=[.ar (.i .i64)]})]})]) (.cons SC (.cons Ts .nil)) (by kernel_rfl) (by kernel_rfl)
def gS(t_0:af)(r_1:Sl (Sl Int)):Int->Option (Int⊕(Bool⊕Unit)):=fun i3=>
 bif decide (i3<(((af.aN t_0).l).length:Int))then((mK t_0 r_1 i3).bind fun r4=>
 (cZ r4 (-1)).bind fun r5=>
 bif r5 then(some (.inr (.inl false)))else
 (some (.inl (wr .i64 (i3+1)))))else
 (some (.inr (.inr ())))
def jw(t_0:af)(r_1:Sl (Sl Int)):Option Bool:=
 (jm t_0 r_1).bind fun r1=>
 bif(!r1)then(some false)else
 ((bc (gS t_0 r_1) 0).bind fun
 |.inl b6=>(some b6)
 |.inr _=>(some true))
def Se:j8:=⟨[(false,.x y0),(false,.x (.sl (.sl (.i .i64))))],[([.x .b],[])],true,[],fun p=>match p with|(t_0,r_1)=>jw t_0 r_1⟩
theorem Tp:cJ prog 16 Se:=bU cQ cS (cH:=cH) (np:=2) (an:=[(10,{j:=some {vs:=[(13,.x (.i .i64))]},e:=[(.ret,{vs:=[(4,.x .b)]}),(.exit 0,{})]})]) (.cons SC (.cons Tq (.cons OZ .nil))) (by kernel_rfl) (by kernel_rfl)
def kj(r_0:aj)(m_1:ah):Option Bool:=
 (bif((ah.zU m_1)==(aj.No r_0))then((cZ (aj.Of r_0) (ah.Sw m_1)).bind fun r1=>
 some r1)else
 (some false):Option Bool).bind fun b2=>
 some b2
def Sd:j8:=⟨[(false,.x y5),(false,.x y4)],[([.x .b],[])],true,[],fun p=>match p with|(r_0,m_1)=>kj r_0 m_1⟩
theorem Qx:cJ prog 61 Sd:=bU cQ cS (cH:=cH) (np:=2) (an:=[(3,{j:=some {vs:=[(4,.x .b)]}})]) (.cons OZ .nil) (by kernel_rfl) (by kernel_rfl)
def iu(r_0:aj)(c_1:ah):Option Bool:=
 (kj r_0 c_1).bind fun r1=>
 some r1
def Sc:j8:=⟨[(false,.x y5),(false,.pt y4)],[([.x .b],[])],true,[],fun p=>match p with|(r_0,c_1)=>iu r_0 c_1⟩
theorem Tn:cJ prog 88 Sc:=bU cQ cS (cH:=cH) (np:=2) (an:=[]) (.cons Qx .nil) (by kernel_rfl) (by kernel_rfl)
def br(s_0:Sl aj)(f_1_c0:ah):Int->Option (Int⊕(Int⊕Unit)):=fun i2=>
 bif decide (i2<(s_0.l.length:Int))then((df i2 s_0.l.length).bind fun n3=>
 (iu (gt s_0.l n3) f_1_c0).bind fun r4=>
 bif r4 then(some (.inr (.inl i2)))else
 (some (.inl (wr .i64 (i2+1)))))else
 (some (.inr (.inr ())))
def bK(s_0:Sl aj)(f_1_c0:ah):Option Int:=
 (bc (br s_0 f_1_c0) 0).bind fun
 |.inl i5=>(some i5)
 |.inr _=>(some (-1))
def Sb:j8:=⟨[(false,.x (.sl y5)),(false,.fn 88 (.pr (.pt y4) .ni))],[([.x (.i .i64)],[])],true,[],fun p=>match p with|(s_0,f_1_c0)=>bK s_0 f_1_c0⟩
theorem Tm:cJ prog 124 Sb:=bU cQ cS (cH:=cH) (np:=2) (an:=[(5,{j:=some {vs:=[(8,.x (.i .i64))]},e:=[(.ret,{vs:=[(4,.x (.i .i64))]}),(.exit 0,{})]})]) (.cons Tn .nil) (by kernel_rfl) (by kernel_rfl)
def bF(s_0:Sl aj)(f_1_c0:ah):Option Bool:=
 (bK s_0 f_1_c0).bind fun r1=>
 some (decide (r1>=0))
def Sa:j8:=⟨[(false,.x (.sl y5)),(false,.fn 88 (.pr (.pt y4) .ni))],[([.x .b],[])],true,[],fun p=>match p with|(s_0,f_1_c0)=>bF s_0 f_1_c0⟩
theorem Tl:cJ prog 87 Sa:=bU cQ cS (cH:=cH) (np:=2) (an:=[]) (.cons Tm .nil) (by kernel_rfl) (by kernel_rfl)
def eZ(x_0:bH)(m_1:ah):Option Bool:=
 (bF (bB.az (bH.p x_0)) m_1).bind fun r1=>
 some r1
def R_:j8:=⟨[(false,.pt y6),(false,.x y4)],[([.x .b],[])],true,[],fun p=>match p with|(x_0,m_1)=>eZ x_0 m_1⟩
theorem Tk:cJ prog 56 R_:=bU cQ cS (cH:=cH) (np:=2) (an:=[]) (.cons Tl .nil) (by kernel_rfl) (by kernel_rfl)
def bP(x_0_t:af)(x_0_old:Sl (Sl Int))(x_0_now:Sl (Sl Int))(x_0_p_Moves:Sl ah)(x_0_p_Rounds:Sl aj)(x_0_p_Miss:Int)(x_0_p_Life:Int)(x_0_p_From:Int)(x_0_p_To:Int)(x_0_out:Sl ak)(is_1:Bool)(kind_2:Int)(k_3:Int)(h_4:Int):Option (af×Sl (Sl Int)×Sl (Sl Int)×Sl ah×Sl aj×Int×Int×Int×Int×Sl ak):=
 bif is_1 then((fF (x_0_out.l++[(⟨kind_2,k_3,h_4⟩:ak)])).bind fun l1=>
 some (x_0_t,x_0_old,x_0_now,x_0_p_Moves,x_0_p_Rounds,x_0_p_Miss,x_0_p_Life,x_0_p_From,x_0_p_To,(Sl.mk l1)))else
 (some (x_0_t,x_0_old,x_0_now,x_0_p_Moves,x_0_p_Rounds,x_0_p_Miss,x_0_p_Life,x_0_p_From,x_0_p_To,x_0_out))
def R9:j8:=⟨[(true,.pb y6 (.st (.pr (.x y0) (.pr (.x (.sl (.sl (.i .i64)))) (.pr (.x (.sl (.sl (.i .i64)))) (.pr (.st (.pr (.x (.sl y4)) (.pr (.x (.sl y5)) (.pr (.x (.i .i64)) (.pr (.x (.i .i64)) (.pr (.x (.i .i64)) (.pr (.x (.i .i64)) .ni))))))) (.pr (.os y7) .ni))))))),(false,.x .b),(false,.x (.i .i64)),(false,.x (.i .i64)),(false,.x (.i .i64))],[([],[.pb y6 (.st (.pr (.x y0) (.pr (.x (.sl (.sl (.i .i64)))) (.pr (.x (.sl (.sl (.i .i64)))) (.pr (.st (.pr (.x (.sl y4)) (.pr (.x (.sl y5)) (.pr (.x (.i .i64)) (.pr (.x (.i .i64)) (.pr (.x (.i .i64)) (.pr (.x (.i .i64)) .ni))))))) (.pr (.os y7) .ni))))))])],false,[true,false,false,false,false],fun p=>match p with|(x_0_t,x_0_old,x_0_now,x_0_p_Moves,x_0_p_Rounds,x_0_p_Miss,x_0_p_Life,x_0_p_From,x_0_p_To,x_0_out,is_1,kind_2,k_3,h_4)=>bP x_0_t x_0_old x_0_now x_0_p_Moves x_0_p_Rounds x_0_p_Miss x_0_p_Life x_0_p_From x_0_p_To x_0_out is_1 kind_2 k_3 h_4⟩
theorem OY:cJ prog 57 R9:=bU cQ cS (cH:=cH) (np:=5) (an:=[]) .nil (by kernel_rfl) (by kernel_rfl)
def fx(x_0:bH)(m_1:ah):Option Bool:=some ((((decide ((ah.Sw m_1)>=0))&&(decide ((ah.Sw m_1)<(af.aU (bH.t x_0)))))&&(decide ((ah.jF m_1)>=0)))&&(decide ((ah.jF m_1)<(((af.aN (bH.t x_0)).l).length:Int))))
def R8:j8:=⟨[(false,.pt y6),(false,.x y4)],[([.x .b],[])],true,[],fun p=>match p with|(x_0,m_1)=>fx x_0 m_1⟩
theorem Qw:cJ prog 58 R8:=bU cQ cS (cH:=cH) (np:=2) (an:=[]) .nil (by kernel_rfl) (by kernel_rfl)
def dU(i13:Int)(s47:Sl ak)(i43:Int)(i45:Int)(i46:Int)(n48:Nat)(s16:Sl (Sl Int))(n24:Nat)(i37:Int)(x38:af)(s39:Sl (Sl Int))(s40:Sl (Sl Int))(s41:Sl ah)(s42:Sl aj)(i44:Int):(Int×Int)->Option ((Int×Int)⊕Int):=fun(i51,i52)=>
 bif decide (i52<(s41.l.length:Int))then(((df i52 s41.l.length).bind fun n53=>
 (bif((((ah.Sw (gt s41.l n53))==i13)&&((ah.jF (gt s41.l n53))==i37))&&((ah.h_ (gt s41.l n53))==(gt ((gt s16.l n24).l) n48)))then((eZ (⟨x38,s39,s40,(⟨s41,s42,i43,i44,i45,i46⟩:am),s47⟩:bH) (gt s41.l n53)).bind fun r54=>
 some r54)else
 (some false):Option Bool).bind fun b55=>
 bif b55 then(some (wr .i64 (i51+1)))else
 (some i51):Option Int).bind fun i56=>
 some (.inl (i56,wr .i64 (i52+1))))else
 (some (.inr i51))
def eV(i13:Int)(s16:Sl (Sl Int))(n24:Nat):(Int×af×Sl (Sl Int)×Sl (Sl Int)×Sl ah×Sl aj×Int×Int×Int×Int×Sl ak)->Option ((Int×af×Sl (Sl Int)×Sl (Sl Int)×Sl ah×Sl aj×Int×Int×Int×Int×Sl ak)⊕(af×Sl (Sl Int)×Sl (Sl Int)×Sl ah×Sl aj×Int×Int×Int×Int×Sl ak)):=fun(i37,x38,s39,s40,s41,s42,i43,i44,i45,i46,s47)=>
 bif decide (i37<(((gt s16.l n24).l).length:Int))then((df i37 ((gt s16.l n24).l).length).bind fun n48=>
 (bc (dU i13 s47 i43 i45 i46 n48 s16 n24 i37 x38 s39 s40 s41 s42 i44) (0,0)).bind fun i57=>
 (df i13 s39.l.length).bind fun n58=>
 (df i37 ((gt s39.l n58).l).length).bind fun n59=>
 (bP x38 s39 s40 s41 s42 i43 i44 i45 i46 s47 (((gt ((gt s16.l n24).l) n48) !=(gt ((gt s39.l n58).l) n59))&&(i57 !=1)) 2 i13 i37).bind fun(q60,q61,q62,q63,q64,q65,q66,q67,q68,s69)=>
 some (.inl (wr .i64 (i37+1),q60,q61,q62,q63,q64,q65,q66,q67,q68,s69)))else
 (some (.inr (x38,s39,s40,s41,s42,i43,i44,i45,i46,s47)))
def eU(x_0_now:Sl (Sl Int)):(Int×af×Sl (Sl Int)×Sl (Sl Int)×Sl ah×Sl aj×Int×Int×Int×Int×Sl ak)->Option ((Int×af×Sl (Sl Int)×Sl (Sl Int)×Sl ah×Sl aj×Int×Int×Int×Int×Sl ak)⊕(af×Sl (Sl Int)×Sl (Sl Int)×Sl ah×Sl aj×Int×Int×Int×Int×Sl ak)):=fun(i13,x14,s15,s16,s17,s18,i19,i20,i21,i22,s23)=>
 bif decide (i13<(x_0_now.l.length:Int))then((df i13 s16.l.length).bind fun n24=>
 (bc (eV i13 s16 n24) (0,x14,s15,s16,s17,s18,i19,i20,i21,i22,s23)).bind fun(x70,s71,s72,s73,s74,i75,i76,i77,i78,s79)=>
 some (.inl (wr .i64 (i13+1),x70,s71,s72,s73,s74,i75,i76,i77,i78,s79)))else
 (some (.inr (x14,s15,s16,s17,s18,i19,i20,i21,i22,s23)))
def eT(s83:Sl ah):(Int×af×Sl (Sl Int)×Sl (Sl Int)×Sl ah×Sl aj×Int×Int×Int×Int×Sl ak)->Option ((Int×af×Sl (Sl Int)×Sl (Sl Int)×Sl ah×Sl aj×Int×Int×Int×Int×Sl ak)⊕(af×Sl (Sl Int)×Sl (Sl Int)×Sl ah×Sl aj×Int×Int×Int×Int×Sl ak)):=fun(i102,x103,s104,s105,s106,s107,i108,i109,i110,i111,s112)=>
 bif decide (i102<(s83.l.length:Int))then((df i102 s83.l.length).bind fun n113=>
 ((fx (⟨x103,s104,s105,(⟨s106,s107,i108,i109,i110,i111⟩:am),s112⟩:bH) (gt s83.l n113)).bind fun r114=>
 bif(!r114)then((bP x103 s104 s105 s106 s107 i108 i109 i110 i111 s112 true 3 i102 (ah.jF (gt s83.l n113))).bind fun(q115,q116,q117,q118,q119,q120,q121,q122,q123,s124)=>
 some (q115,q116,q117,q118,q119,q120,q121,q122,q123,s124))else
 ((df (ah.Sw (gt s83.l n113)) s105.l.length).bind fun n125=>
 (df (ah.jF (gt s83.l n113)) ((gt s105.l n125).l).length).bind fun n126=>
 bif((gt ((gt s105.l n125).l) n126) !=(ah.h_ (gt s83.l n113)))then((bP x103 s104 s105 s106 s107 i108 i109 i110 i111 s112 true 3 i102 (ah.jF (gt s83.l n113))).bind fun(q127,q128,q129,q130,q131,q132,q133,q134,q135,s136)=>
 some (q127,q128,q129,q130,q131,q132,q133,q134,q135,s136))else
 ((df (ah.Sw (gt s83.l n113)) s104.l.length).bind fun n137=>
 (df (ah.jF (gt s83.l n113)) ((gt s104.l n137).l).length).bind fun n138=>
 bif((gt ((gt s104.l n137).l) n138)==(ah.h_ (gt s83.l n113)))then((bP x103 s104 s105 s106 s107 i108 i109 i110 i111 s112 true 3 i102 (ah.jF (gt s83.l n113))).bind fun(q139,q140,q141,q142,q143,q144,q145,q146,q147,s148)=>
 some (q139,q140,q141,q142,q143,q144,q145,q146,q147,s148))else
 ((eZ (⟨x103,s104,s105,(⟨s106,s107,i108,i109,i110,i111⟩:am),s112⟩:bH) (gt s83.l n113)).bind fun r149=>
 (bP x103 s104 s105 s106 s107 i108 i109 i110 i111 s112 (!r149) 3 i102 (ah.jF (gt s83.l n113))).bind fun(q150,q151,q152,q153,q154,q155,q156,q157,q158,s159)=>
 some (q150,q151,q152,q153,q154,q155,q156,q157,q158,s159)))):Option (af×Sl (Sl Int)×Sl (Sl Int)×Sl ah×Sl aj×Int×Int×Int×Int×Sl ak)).bind fun(x160,s161,s162,s163,s164,i165,i166,i167,i168,s169)=>
 some (.inl (wr .i64 (i102+1),x160,s161,s162,s163,s164,i165,i166,i167,i168,s169)))else
 (some (.inr (x103,s104,s105,s106,s107,i108,i109,i110,i111,s112)))
def fW(x_0_t:af)(x_0_old:Sl (Sl Int))(x_0_now:Sl (Sl Int))(x_0_p_Moves:Sl ah)(x_0_p_Rounds:Sl aj)(x_0_p_Miss:Int)(x_0_p_Life:Int)(x_0_p_From:Int)(x_0_p_To:Int)(x_0_out:Sl ak):Option (af×Sl (Sl Int)×Sl (Sl Int)×Sl ah×Sl aj×Int×Int×Int×Int×Sl ak):=
 (bc (eU x_0_now) (0,x_0_t,x_0_old,x_0_now,x_0_p_Moves,x_0_p_Rounds,x_0_p_Miss,x_0_p_Life,x_0_p_From,x_0_p_To,x_0_out)).bind fun(x80,s81,s82,s83,s84,i85,i86,i87,i88,s89)=>
 (bc (eT s83) (0,x80,s81,s82,s83,s84,i85,i86,i87,i88,s89)).bind fun(x170,s171,s172,s173,s174,i175,i176,i177,i178,s179)=>
 some (x170,s171,s172,s173,s174,i175,i176,i177,i178,s179)
def R7:j8:=⟨[(true,.pb y6 (.st (.pr (.x y0) (.pr (.x (.sl (.sl (.i .i64)))) (.pr (.x (.sl (.sl (.i .i64)))) (.pr (.st (.pr (.x (.sl y4)) (.pr (.x (.sl y5)) (.pr (.x (.i .i64)) (.pr (.x (.i .i64)) (.pr (.x (.i .i64)) (.pr (.x (.i .i64)) .ni))))))) (.pr (.os y7) .ni)))))))],[([],[.pb y6 (.st (.pr (.x y0) (.pr (.x (.sl (.sl (.i .i64)))) (.pr (.x (.sl (.sl (.i .i64)))) (.pr (.st (.pr (.x (.sl y4)) (.pr (.x (.sl y5)) (.pr (.x (.i .i64)) (.pr (.x (.i .i64)) (.pr (.x (.i .i64)) (.pr (.x (.i .i64)) .ni))))))) (.pr (.os y7) .ni))))))])],false,[true],fun p=>match p with|(x_0_t,x_0_old,x_0_now,x_0_p_Moves,x_0_p_Rounds,x_0_p_Miss,x_0_p_Life,x_0_p_From,x_0_p_To,x_0_out)=>fW x_0_t x_0_old x_0_now x_0_p_Moves x_0_p_Rounds x_0_p_Miss x_0_p_Life x_0_p_From x_0_p_To x_0_out⟩
theorem Tj:cJ prog 27 R7:=bU cQ cS (cH:=cH) (np:=1) (an:=[(3,{j:=some {vs:=[(0,.op 0 y6 []),(15,.x (.i .i64))],gs:=(.co (.op 0 y6 []) .ni),os:=[.bx y6 (.rc (.co (.x y0) (.co (.x (.sl (.sl (.i .i64)))) (.co (.x (.sl (.sl (.i .i64)))) (.co (.rc (.co (.x (.sl y4)) (.co (.x (.sl y5)) (.co (.x (.i .i64)) (.co (.x (.i .i64)) (.co (.x (.i .i64)) (.co (.x (.i .i64)) .ni))))))) (.co (.so 1) .ni)))))),.ar y7],kl:=[0,12]},e:=[(.exit 0,{vs:=[(0,.op 0 y6 [])],gs:=(.co (.op 0 y6 []) .ni),os:=[.bx y6 (.rc (.co (.x y0) (.co (.x (.sl (.sl (.i .i64)))) (.co (.x (.sl (.sl (.i .i64)))) (.co (.rc (.co (.x (.sl y4)) (.co (.x (.sl y5)) (.co (.x (.i .i64)) (.co (.x (.i .i64)) (.co (.x (.i .i64)) (.co (.x (.i .i64)) .ni))))))) (.co (.so 1) .ni)))))),.ar y7],kl:=[0,12]})]}),(12,{j:=some {vs:=[(0,.op 0 y6 []),(26,.x (.i .i64))],gs:=(.co (.op 0 y6 []) .ni),os:=[.bx y6 (.rc (.co (.x y0) (.co (.x (.sl (.sl (.i .i64)))) (.co (.x (.sl (.sl (.i .i64)))) (.co (.rc (.co (.x (.sl y4)) (.co (.x (.sl y5)) (.co (.x (.i .i64)) (.co (.x (.i .i64)) (.co (.x (.i .i64)) (.co (.x (.i .i64)) .ni))))))) (.co (.so 1) .ni)))))),.ar y7],kl:=[13,14]},e:=[(.exit 2,{vs:=[(0,.op 0 y6 [])],gs:=(.co (.op 0 y6 []) .ni),os:=[.bx y6 (.rc (.co (.x y0) (.co (.x (.sl (.sl (.i .i64)))) (.co (.x (.sl (.sl (.i .i64)))) (.co (.rc (.co (.x (.sl y4)) (.co (.x (.sl y5)) (.co (.x (.i .i64)) (.co (.x (.i .i64)) (.co (.x (.i .i64)) (.co (.x (.i .i64)) .ni))))))) (.co (.so 1) .ni)))))),.ar y7],kl:=[13,14]})]}),(24,{j:=some {vs:=[(5,.x (.i .i64)),(37,.x (.i .i64))]},e:=[(.exit 4,{vs:=[(5,.x (.i .i64))]})]}),(28,{e:=[(.normal,{vs:=[(5,.x (.i .i64))]})]}),(32,{j:=some {vs:=[(61,.x .b)]}}),(40,{j:=some {vs:=[(0,.op 0 y6 []),(93,.x (.i .i64))],gs:=(.co (.op 0 y6 []) .ni),os:=[.bx y6 (.rc (.co (.x y0) (.co (.x (.sl (.sl (.i .i64)))) (.co (.x (.sl (.sl (.i .i64)))) (.co (.rc (.co (.x (.sl y4)) (.co (.x (.sl y5)) (.co (.x (.i .i64)) (.co (.x (.i .i64)) (.co (.x (.i .i64)) (.co (.x (.i .i64)) .ni))))))) (.co (.so 1) .ni)))))),.ar y7],kl:=[13,14]},e:=[(.exit 6,{gs:=(.co (.op 0 y6 []) .ni),os:=[.bx y6 (.rc (.co (.x y0) (.co (.x (.sl (.sl (.i .i64)))) (.co (.x (.sl (.sl (.i .i64)))) (.co (.rc (.co (.x (.sl y4)) (.co (.x (.sl y5)) (.co (.x (.i .i64)) (.co (.x (.i .i64)) (.co (.x (.i .i64)) (.co (.x (.i .i64)) .ni))))))) (.co (.so 1) .ni)))))),.ar y7],kl:=[13,14]})]}),(47,{j:=some {vs:=[(0,.op 0 y6 [])],gs:=(.co (.op 0 y6 []) .ni),os:=[.bx y6 (.rc (.co (.x y0) (.co (.x (.sl (.sl (.i .i64)))) (.co (.x (.sl (.sl (.i .i64)))) (.co (.rc (.co (.x (.sl y4)) (.co (.x (.sl y5)) (.co (.x (.i .i64)) (.co (.x (.i .i64)) (.co (.x (.i .i64)) (.co (.x (.i .i64)) .ni))))))) (.co (.so 1) .ni)))))),.ar y7],kl:=[15,16]}})]) (.cons Tk (.cons OY (.cons Qw .nil))) (by kernel_rfl) (by kernel_rfl)
def ji(t_0:af):(Int×Int)->Option ((Int×Int)⊕Int):=fun(i3,i4)=>
 bif decide (i4<(((af.aY t_0).l).length:Int))then((df i4 ((af.aY t_0).l).length).bind fun n5=>
 some (.inl ((if(bi.lS (gt ((af.aY t_0).l) n5))>i3 then(bi.lS (gt ((af.aY t_0).l) n5))else i3),wr .i64 (i4+1))))else
 (some (.inr i3))
def lG(t_0:af):Option Int:=
 (bc (ji t_0) (0,0)).bind fun i6=>
 some i6
def R6:j8:=⟨[(false,.x y0)],[([.x (.i .i64)],[])],true,[],fun p=>match p with|t_0=>lG t_0⟩
theorem Ti:cJ prog 85 R6:=bU cQ cS (cH:=cH) (np:=1) (an:=[(7,{j:=some {vs:=[(3,.x (.i .i64)),(9,.x (.i .i64))]},e:=[(.exit 0,{vs:=[(3,.x (.i .i64))]})]})]) .nil (by kernel_rfl) (by kernel_rfl)
def pL(t_0:af):Option Int:=
 (lG t_0).bind fun r1=>
 some (wr .i64 ((af.aU t_0)*r1))
def R5:j8:=⟨[(false,.x y0)],[([.x (.i .i64)],[])],true,[],fun p=>match p with|t_0=>pL t_0⟩
theorem Th:cJ prog 52 R5:=bU cQ cS (cH:=cH) (np:=1) (an:=[]) (.cons Ti .nil) (by kernel_rfl) (by kernel_rfl)
def pZ(t_0:af)(miss_1:Int):Option Int:=
 (pL t_0).bind fun r1=>
 some (wr .i64 ((wr .i64 ((wr .i64 (2*miss_1))+r1))+1))
def R4:j8:=⟨[(false,.x y0),(false,.x (.i .i64))],[([.x (.i .i64)],[])],true,[],fun p=>match p with|(t_0,miss_1)=>pZ t_0 miss_1⟩
theorem Tg:cJ prog 54 R4:=bU cQ cS (cH:=cH) (np:=2) (an:=[]) (.cons Th .nil) (by kernel_rfl) (by kernel_rfl)
def jo(n_0:Int):Option Int:=some (if 1125899906842624<(if(-1125899906842624)>n_0 then(-1125899906842624)else n_0)then 1125899906842624 else(if(-1125899906842624)>n_0 then(-1125899906842624)else n_0))
def R3:j8:=⟨[(false,.x (.i .i64))],[([.x (.i .i64)],[])],true,[],fun p=>match p with|n_0=>jo n_0⟩
theorem Tf:cJ prog 59 R3:=bU cQ cS (cH:=cH) (np:=1) (an:=[]) .nil (by kernel_rfl) (by kernel_rfl)
def dT(r1:Int):(Int×af×Sl (Sl Int)×Sl (Sl Int)×Sl ah×Sl aj×Int×Int×Int×Int×Sl ak)->Option ((Int×af×Sl (Sl Int)×Sl (Sl Int)×Sl ah×Sl aj×Int×Int×Int×Int×Sl ak)⊕(af×Sl (Sl Int)×Sl (Sl Int)×Sl ah×Sl aj×Int×Int×Int×Int×Sl ak)):=fun(i14,x15,s16,s17,s18,s19,i20,i21,i22,i23,s24)=>
 bif decide (i14<(s19.l.length:Int))then((df i14 s19.l.length).bind fun n25=>
 (jo (aj.At (gt s19.l n25))).bind fun r26=>
 (df (wr .i64 (i14-1)) s19.l.length).bind fun n27=>
 (jo (aj.At (gt s19.l n27))).bind fun r28=>
 (bP x15 s16 s17 s18 s19 i20 i21 i22 i23 s24 (decide ((wr .i64 (r26-r28))<r1)) 4 i14 0).bind fun(q29,q30,q31,q32,q33,q34,q35,q36,q37,s38)=>
 some (.inl (wr .i64 (i14+1),q29,q30,q31,q32,q33,q34,q35,q36,q37,s38)))else
 (some (.inr (x15,s16,s17,s18,s19,i20,i21,i22,i23,s24)))
def fV(x_0_t:af)(x_0_old:Sl (Sl Int))(x_0_now:Sl (Sl Int))(x_0_p_Moves:Sl ah)(x_0_p_Rounds:Sl aj)(x_0_p_Miss:Int)(x_0_p_Life:Int)(x_0_p_From:Int)(x_0_p_To:Int)(x_0_out:Sl ak):Option (af×Sl (Sl Int)×Sl (Sl Int)×Sl ah×Sl aj×Int×Int×Int×Int×Sl ak):=
 (pZ x_0_t (if 1048576<(if 0>x_0_p_Miss then 0 else x_0_p_Miss)then 1048576 else(if 0>x_0_p_Miss then 0 else x_0_p_Miss))).bind fun r1=>
 (bc (dT r1) (1,x_0_t,x_0_old,x_0_now,x_0_p_Moves,x_0_p_Rounds,x_0_p_Miss,x_0_p_Life,x_0_p_From,x_0_p_To,x_0_out)).bind fun(x39,s40,s41,s42,s43,i44,i45,i46,i47,s48)=>
 some (x39,s40,s41,s42,s43,i44,i45,i46,i47,s48)
def R1:j8:=⟨[(true,.pb y6 (.st (.pr (.x y0) (.pr (.x (.sl (.sl (.i .i64)))) (.pr (.x (.sl (.sl (.i .i64)))) (.pr (.st (.pr (.x (.sl y4)) (.pr (.x (.sl y5)) (.pr (.x (.i .i64)) (.pr (.x (.i .i64)) (.pr (.x (.i .i64)) (.pr (.x (.i .i64)) .ni))))))) (.pr (.os y7) .ni)))))))],[([],[.pb y6 (.st (.pr (.x y0) (.pr (.x (.sl (.sl (.i .i64)))) (.pr (.x (.sl (.sl (.i .i64)))) (.pr (.st (.pr (.x (.sl y4)) (.pr (.x (.sl y5)) (.pr (.x (.i .i64)) (.pr (.x (.i .i64)) (.pr (.x (.i .i64)) (.pr (.x (.i .i64)) .ni))))))) (.pr (.os y7) .ni))))))])],false,[true],fun p=>match p with|(x_0_t,x_0_old,x_0_now,x_0_p_Moves,x_0_p_Rounds,x_0_p_Miss,x_0_p_Life,x_0_p_From,x_0_p_To,x_0_out)=>fV x_0_t x_0_old x_0_now x_0_p_Moves x_0_p_Rounds x_0_p_Miss x_0_p_Life x_0_p_From x_0_p_To x_0_out⟩
theorem Te:cJ prog 28 R1:=bU cQ cS (cH:=cH) (np:=1) (an:=[(6,{j:=some {vs:=[(0,.op 0 y6 []),(4,.x (.i .i64))],gs:=(.co (.op 0 y6 []) .ni),os:=[.bx y6 (.rc (.co (.x y0) (.co (.x (.sl (.sl (.i .i64)))) (.co (.x (.sl (.sl (.i .i64)))) (.co (.rc (.co (.x (.sl y4)) (.co (.x (.sl y5)) (.co (.x (.i .i64)) (.co (.x (.i .i64)) (.co (.x (.i .i64)) (.co (.x (.i .i64)) .ni))))))) (.co (.so 1) .ni)))))),.ar y7],kl:=[0,12]},e:=[(.exit 0,{gs:=(.co (.op 0 y6 []) .ni),os:=[.bx y6 (.rc (.co (.x y0) (.co (.x (.sl (.sl (.i .i64)))) (.co (.x (.sl (.sl (.i .i64)))) (.co (.rc (.co (.x (.sl y4)) (.co (.x (.sl y5)) (.co (.x (.i .i64)) (.co (.x (.i .i64)) (.co (.x (.i .i64)) (.co (.x (.i .i64)) .ni))))))) (.co (.so 1) .ni)))))),.ar y7],kl:=[0,12]})]})]) (.cons Tg (.cons Tf (.cons OY .nil))) (by kernel_rfl) (by kernel_rfl)
def jl(s_0:Sl Int):Option (Sl Int):=
 bif s_0.fM then(some Sl.nil)else
 ((fF ([]++s_0.l)).bind fun l1=>
 some (rI (Sl.mk []) s_0.l l1))
def R0:j8:=⟨[(false,.x (.sl (.i .i64)))],[([.os (.i .i64)],[])],false,[],fun p=>match p with|s_0=>jl s_0⟩
theorem Td:cJ prog 60 R0:=bU cQ cS (cH:=cH) (np:=1) (an:=[]) .nil (by kernel_rfl) (by kernel_rfl)
def jX(n_0:Int)(l_1:Sl aS):Int->Option (Int⊕(Bool⊕Unit)):=fun i2=>
 bif decide (i2<(l_1.l.length:Int))then((df i2 l_1.l.length).bind fun n3=>
 bif((((decide ((aS.mV (gt l_1.l n3))<0))||(decide ((aS.mV (gt l_1.l n3))>=n_0)))||(decide ((aS.To (gt l_1.l n3))<0)))||(decide ((aS.To (gt l_1.l n3))>=n_0)))then(some (.inr (.inl false)))else
 (some (.inl (wr .i64 (i2+1)))))else
 (some (.inr (.inr ())))
def lu(n_0:Int)(l_1:Sl aS):Option Bool:=
 bif((decide (n_0<0))||(decide (n_0>16)))then(some false)else
 ((bc (jX n_0 l_1) 0).bind fun
 |.inl b4=>(some b4)
 |.inr _=>(some true))
def RZ:j8:=⟨[(false,.x (.i .i64)),(false,.x (.sl y2))],[([.x .b],[])],true,[],fun p=>match p with|(n_0,l_1)=>lu n_0 l_1⟩
theorem Tc:cJ prog 47 RZ:=bU cQ cS (cH:=cH) (np:=2) (an:=[(10,{j:=some {vs:=[(15,.x (.i .i64))]},e:=[(.ret,{vs:=[(4,.x .b)]}),(.exit 0,{})]})]) .nil (by kernel_rfl) (by kernel_rfl)
def kJ(l_1:Sl aS):(Int×Sl Int)->Option ((Int×Sl Int)⊕(Sl Int)):=fun(i5,s6)=>
 bif decide (i5<(l_1.l.length:Int))then((df i5 l_1.l.length).bind fun n7=>
 (df (aS.mV (gt l_1.l n7)) s6.l.length).bind fun n8=>
 (yB .u16 1 (aS.To (gt l_1.l n7))).bind fun i9=>
 (df (aS.mV (gt l_1.l n7)) s6.l.length).bind fun n10=>
 some (.inl (wr .i64 (i5+1),(Sl.mk (s6.l.set n10 (Qb .u16 (gt s6.l n8) i9))))))else
 (some (.inr s6))
def nZ(n_0:Int)(l_1:Sl aS):Option (Sl Int):=
 (CE 0 n_0 n_0).bind fun l1=>
 (bc (kJ l_1) (0,(Sl.mk l1))).bind fun s11=>
 some s11
def RY:j8:=⟨[(false,.x (.i .i64)),(false,.x (.sl y2))],[([.x (.sl (.i .u16))],[])],false,[],fun p=>match p with|(n_0,l_1)=>nZ n_0 l_1⟩
theorem Tb:cJ prog 48 RY:=bU cQ cS (cH:=cH) (np:=2) (an:=[(7,{j:=some {vs:=[(5,.so 0),(12,.x (.i .i64))],os:=[.ar (.i .u16)],kl:=[0]},e:=[(.exit 0,{vs:=[(5,.so 0)],os:=[.ar (.i .u16)],kl:=[0]})]})]) .nil (by kernel_rfl) (by kernel_rfl)
def dJ(x_0:Int):Option Int:=
 bif(x_0==0)then(some 16)else
 ((df (Je .u32 (wr .u32 ((wr .u32 (Jf .u16 x_0 (wr .u16 (0-x_0))))*125613361)) 27) 32).bind fun n1=>
 some (wr .i64 (gt Ml.1 n1)))
def RX:j8:=⟨[(false,.x (.i .u16))],[([.x (.i .i64)],[])],true,[],fun p=>match p with|x_0=>dJ x_0⟩
theorem Qv:cJ prog 50 RX:=bU cQ cS (cH:=cH) (np:=1) (an:=[]) .nil (by kernel_rfl) (by kernel_rfl)
def kK:(Int×Sl Int)->Option ((Int×Sl Int)⊕(Sl Int)):=fun(i4,s5)=>
 bif(i4 !=0)then((dJ i4).bind fun r6=>
 (fF (s5.l++[r6])).bind fun l7=>
 some (.inl (Jf .u16 i4 (wr .u16 (i4-1)),(Sl.mk l7))))else
 (some (.inr s5))
def n_(set_0:Int):Option (Sl Int):=
 (bc (kK) (set_0,Sl.nil)).bind fun s8=>
 some s8
def RW:j8:=⟨[(false,.x (.i .u16))],[([.x (.sl (.i .i64))],[])],false,[],fun p=>match p with|set_0=>n_ set_0⟩
theorem Ta:cJ prog 84 RW:=bU cQ cS (cH:=cH) (np:=1) (an:=[(5,{j:=some {vs:=[(0,.x (.i .u16)),(3,.so 0)],os:=[.ar (.i .i64)]},e:=[(.exit 0,{vs:=[(3,.so 0)],os:=[.ar (.i .i64)]})]})]) (.cons Qv .nil) (by kernel_rfl) (by kernel_rfl)
def kI(to_0:Sl Int)(r1:Sl Int):(Int×Int)->Option ((Int×Int)⊕Int):=fun(i4,i5)=>
 bif decide (i5<(r1.l.length:Int))then((df i5 r1.l.length).bind fun n6=>
 (df (gt r1.l n6) to_0.l.length).bind fun n7=>
 some (.inl (Qb .u16 i4 (gt to_0.l n7),wr .i64 (i5+1))))else
 (some (.inr i4))
def nY(to_0:Sl Int)(set_1:Int):Option Int:=
 (n_ set_1).bind fun r1=>
 (bc (kI to_0 r1) (0,0)).bind fun i8=>
 some i8
def RU:j8:=⟨[(false,.x (.sl (.i .u16))),(false,.x (.i .u16))],[([.x (.i .u16)],[])],true,[],fun p=>match p with|(to_0,set_1)=>nY to_0 set_1⟩
theorem S_:cJ prog 49 RU:=bU cQ cS (cH:=cH) (np:=2) (an:=[(7,{j:=some {vs:=[(5,.x (.i .u16)),(11,.x (.i .i64))]},e:=[(.exit 0,{vs:=[(5,.x (.i .u16))]})]})]) (.cons Ta .nil) (by kernel_rfl) (by kernel_rfl)
def iV(r2:Sl Int):(Int×Sl Int)->Option ((Int×Sl Int)⊕(Bool⊕(Sl Int))):=fun(i7,s8)=>
 bif(i7 !=0)then((nY r2 i7).bind fun r9=>
 bif((sH .u16 i7 r9)==0)then(some (.inr (.inl false)))else
 ((dJ (sH .u16 i7 r9)).bind fun r10=>
 (fF (s8.l++[r10])).bind fun l11=>
 (yB .u16 1 r10).bind fun i12=>
 some (.inl (sH .u16 i7 i12,(Sl.mk l11)))))else
 (some (.inr (.inr s8)))
def iH(n_0:Int)(l_1:Sl aS):Option (Sl Int×Bool):=
 (lu n_0 l_1).bind fun r1=>
 bif(!r1)then(some (Sl.nil,false))else
 ((nZ n_0 l_1).bind fun r2=>
 (yB .u16 1 n_0).bind fun i3=>
 (bc (iV r2) (wr .u16 (i3-1),Sl.nil)).bind fun
 |.inl b13=>(some (Sl.nil,b13))
 |.inr s14=>(some (s14,true)))
def RS:j8:=⟨[(false,.x (.i .i64)),(false,.x (.sl y2))],[([.x (.sl (.i .i64)),.x .b],[])],false,[],fun p=>match p with|(n_0,l_1)=>iH n_0 l_1⟩
theorem S9:cJ prog 25 RS:=bU cQ cS (cH:=cH) (np:=2) (an:=[(14,{j:=some {vs:=[(7,.x (.i .u16)),(8,.so 0)],os:=[.ar (.i .i64)]},e:=[(.ret,{vs:=[(4,.nl 0),(5,.x .b)]}),(.exit 0,{vs:=[(8,.so 0)],os:=[.ar (.i .i64)]})]})]) (.cons Tc (.cons Tb (.cons S_ (.cons Qv .nil)))) (by kernel_rfl) (by kernel_rfl)
def ez(x_0_t:af)(ports_1:Sl (Sl Int))(h_3:Int)(i7:Int)(n9:Nat):(Bool×Int×Sl aS)->Option ((Bool×Int×Sl aS)⊕(Bool×Sl aS)):=fun(b13,i14,s15)=>
 bif decide (i14<(((gt ports_1.l n9).l).length:Int))then(((df i14 ((gt ports_1.l n9).l).length).bind fun n16=>
 (nJ x_0_t i7 (gt ((gt ports_1.l n9).l) n16)).bind fun(r17,r18,r19,r20)=>
 bif r20 then((fF (s15.l++[(⟨i7,r17⟩:aS)])).bind fun l21=>
 some (b13,(Sl.mk l21)))else
 ((df h_3 ((af.aN x_0_t).l).length).bind fun n22=>
 bif(!(decide ((gt ((af.aN x_0_t).l) n22)=(⟨i7,gt ((gt ports_1.l n9).l) n16⟩:cW))))then(some (true,s15))else
 (some (b13,s15))):Option (Bool×Sl aS)).bind fun(b23,s24)=>
 some (.inl (b23,wr .i64 (i14+1),s24)))else
 (some (.inr (b13,s15)))
def fm(x_0_t:af)(ports_1:Sl (Sl Int))(h_3:Int):(Bool×Int×Sl aS)->Option ((Bool×Int×Sl aS)⊕(Bool×Sl aS)):=fun(b6,i7,s8)=>
 bif decide (i7<(ports_1.l.length:Int))then((df i7 ports_1.l.length).bind fun n9=>
 (bc (ez x_0_t ports_1 h_3 i7 n9) (b6,0,s8)).bind fun(b25,s26)=>
 some (.inl (b25,wr .i64 (i7+1),s26)))else
 (some (.inr (b6,s8)))
def ia(x_0_t:af)(x_0_old:Sl (Sl Int))(x_0_now:Sl (Sl Int))(x_0_p_Moves:Sl ah)(x_0_p_Rounds:Sl aj)(x_0_p_Miss:Int)(x_0_p_Life:Int)(x_0_p_From:Int)(x_0_p_To:Int)(x_0_out:Sl ak)(ports_1:Sl (Sl Int))(k_2:Int)(h_3:Int):Option (af×Sl (Sl Int)×Sl (Sl Int)×Sl ah×Sl aj×Int×Int×Int×Int×Sl ak):=
 (bc (fm x_0_t ports_1 h_3) (false,0,Sl.nil)).bind fun(b27,s28)=>
 (iH (af.aU x_0_t) s28).bind fun(r29,r30)=>
 (bP x_0_t x_0_old x_0_now x_0_p_Moves x_0_p_Rounds x_0_p_Miss x_0_p_Life x_0_p_From x_0_p_To x_0_out b27 5 k_2 h_3).bind fun(q31,q32,q33,q34,q35,q36,q37,q38,q39,s40)=>
 (bP q31 q32 q33 q34 q35 q36 q37 q38 q39 s40 (!r30) 6 k_2 h_3).bind fun(q41,q42,q43,q44,q45,q46,q47,q48,q49,s50)=>
 some (q41,q42,q43,q44,q45,q46,q47,q48,q49,s50)
def RQ:j8:=⟨[(true,.pb y6 (.st (.pr (.x y0) (.pr (.x (.sl (.sl (.i .i64)))) (.pr (.x (.sl (.sl (.i .i64)))) (.pr (.st (.pr (.x (.sl y4)) (.pr (.x (.sl y5)) (.pr (.x (.i .i64)) (.pr (.x (.i .i64)) (.pr (.x (.i .i64)) (.pr (.x (.i .i64)) .ni))))))) (.pr (.os y7) .ni))))))),(false,.x (.sl (.sl (.i .i64)))),(false,.x (.i .i64)),(false,.x (.i .i64))],[([],[.pb y6 (.st (.pr (.x y0) (.pr (.x (.sl (.sl (.i .i64)))) (.pr (.x (.sl (.sl (.i .i64)))) (.pr (.st (.pr (.x (.sl y4)) (.pr (.x (.sl y5)) (.pr (.x (.i .i64)) (.pr (.x (.i .i64)) (.pr (.x (.i .i64)) (.pr (.x (.i .i64)) .ni))))))) (.pr (.os y7) .ni))))))])],false,[true,false,false,false],fun p=>match p with|(x_0_t,x_0_old,x_0_now,x_0_p_Moves,x_0_p_Rounds,x_0_p_Miss,x_0_p_Life,x_0_p_From,x_0_p_To,x_0_out,ports_1,k_2,h_3)=>ia x_0_t x_0_old x_0_now x_0_p_Moves x_0_p_Rounds x_0_p_Miss x_0_p_Life x_0_p_From x_0_p_To x_0_out ports_1 k_2 h_3⟩
theorem S8:cJ prog 62 RQ:=bU cQ cS (cH:=cH) (np:=4) (an:=[(7,{j:=some {vs:=[(8,.so 0),(9,.x .b),(22,.x (.i .i64))],os:=[.ar y2]},e:=[(.exit 0,{vs:=[(8,.so 0),(9,.x .b)],os:=[.ar y2]})]}),(16,{j:=some {vs:=[(8,.so 0),(9,.x .b),(29,.x (.i .i64))],os:=[.ar y2],kl:=[13]},e:=[(.exit 2,{vs:=[(8,.so 0),(9,.x .b)],os:=[.ar y2],kl:=[13]})]}),(20,{e:=[(.normal,{vs:=[(8,.so 0),(9,.x .b)],os:=[.ar y2],kl:=[14]})]})]) (.cons Qy (.cons S9 (.cons OY .nil))) (by kernel_rfl) (by kernel_rfl)
def fD(x_0_old:Sl (Sl Int)):(Int×Sl (Sl Int))->Option ((Int×Sl (Sl Int))⊕(Sl (Sl Int))):=fun(i5,s6)=>
 bif decide (i5<(x_0_old.l.length:Int))then((df i5 x_0_old.l.length).bind fun n7=>
 (jl (gt x_0_old.l n7)).bind fun s8=>
 (df i5 s6.l.length).bind fun n9=>
 some (.inl (wr .i64 (i5+1),(Sl.mk (s6.l.set n9 s8)))))else
 (some (.inr s6))
def fC(i50:Int)(s60:Sl (Sl Int)):(Int×Sl (Sl Int)×Sl (Sl Int))->Option ((Int×Sl (Sl Int)×Sl (Sl Int))⊕(Sl (Sl Int)×Sl (Sl Int))):=fun(i67,s68,s69)=>
 bif decide (i67<(s60.l.length:Int))then((df i67 s68.l.length).bind fun n70=>
 (df i50 ((gt s68.l n70).l).length).bind fun n71=>
 (df i67 s69.l.length).bind fun n72=>
 some (.inl (wr .i64 (i67+1),(Sl.mk (s68.l.set n70 (gt s68.l n70))),(Sl.mk (s69.l.set n72 (Sl.mk [gt ((gt s68.l n70).l) n71]))))))else
 (some (.inr (s68,s69)))
def eF(x_0_p_Rounds:Sl aj)(n36:Nat)(s52:Sl (Sl Int))(s53:Sl (Sl Int))(s61:Sl ak)(s55:Sl aj)(s54:Sl ah)(i50:Int)(x51:af)(i56:Int)(i57:Int)(i58:Int)(i59:Int):(Int×Sl (Sl Int))->Option ((Int×Sl (Sl Int))⊕(Sl (Sl Int))):=fun(i78,s79)=>
 bif decide (i78<(s54.l.length:Int))then(((df i78 s54.l.length).bind fun n80=>
 (bif((ah.jF (gt s54.l n80))==i50)then((fx (⟨x51,s52,s53,(⟨s54,s55,i56,i57,i58,i59⟩:am),s61⟩:bH) (gt s54.l n80)).bind fun r81=>
 bif r81 then((kj (gt x_0_p_Rounds.l n36) (gt s54.l n80)).bind fun r82=>
 some r82)else
 (some false))else
 (some false):Option Bool).bind fun b83=>
 bif b83 then((df (ah.Sw (gt s54.l n80)) s79.l.length).bind fun n84=>
 (fF (((gt s79.l n84).l)++[ah.h_ (gt s54.l n80)])).bind fun l85=>
 (df (ah.Sw (gt s54.l n80)) s79.l.length).bind fun n86=>
 bif Nat.beq n84 n86 then(some (Sl.mk (s79.l.set n86 (Sl.mk l85))))else(none))else
 (some s79):Option (Sl (Sl Int))).bind fun s87=>
 some (.inl (wr .i64 (i78+1),s87)))else
 (some (.inr s79))
def eE(x_0_p_Rounds:Sl aj)(n36:Nat)(i24:Int)(x25:af):(Int×af×Sl (Sl Int)×Sl (Sl Int)×Sl ah×Sl aj×Int×Int×Int×Int×Sl (Sl Int)×Sl ak)->Option ((Int×af×Sl (Sl Int)×Sl (Sl Int)×Sl ah×Sl aj×Int×Int×Int×Int×Sl (Sl Int)×Sl ak)⊕(af×Sl (Sl Int)×Sl (Sl Int)×Sl ah×Sl aj×Int×Int×Int×Int×Sl (Sl Int)×Sl ak)):=fun(i50,x51,s52,s53,s54,s55,i56,i57,i58,i59,s60,s61)=>
 bif decide (i50<(((af.aN x25).l).length:Int))then((CE (Sl.nil:Sl Int) (s60.l.length:Int) (s60.l.length:Int)).bind fun l62=>
 (bc (fC i50 s60) (0,s60,(Sl.mk l62))).bind fun(s73,s74)=>
 (bc (eF x_0_p_Rounds n36 s52 s53 s61 s55 s54 i50 x51 i56 i57 i58 i59) (0,s74)).bind fun s88=>
 (ia x51 s52 s53 s54 s55 i56 i57 i58 i59 s61 s88 i24 i50).bind fun(q89,q90,q91,q92,q93,q94,q95,q96,q97,s98)=>
 some (.inl (wr .i64 (i50+1),q89,q90,q91,q92,q93,q94,q95,q96,q97,s73,s98)))else
 (some (.inr (x51,s52,s53,s54,s55,i56,i57,i58,i59,s60,s61)))
def eD(x_0_p_Rounds:Sl aj)(n36:Nat)(s100:Sl (Sl Int))(s102:Sl ah)(s109:Sl ak)(x99:af)(s101:Sl (Sl Int))(s103:Sl aj)(i104:Int)(i105:Int)(i106:Int)(i107:Int):(Int×Sl (Sl Int))->Option ((Int×Sl (Sl Int))⊕(Sl (Sl Int))):=fun(i113,s114)=>
 bif decide (i113<(s102.l.length:Int))then(((df i113 s102.l.length).bind fun n115=>
 ((fx (⟨x99,s100,s101,(⟨s102,s103,i104,i105,i106,i107⟩:am),s109⟩:bH) (gt s102.l n115)).bind fun r116=>
 bif r116 then((kj (gt x_0_p_Rounds.l n36) (gt s102.l n115)).bind fun r117=>
 some r117)else
 (some false):Option Bool).bind fun b118=>
 bif b118 then((df (ah.Sw (gt s102.l n115)) s114.l.length).bind fun n119=>
 (df (ah.jF (gt s102.l n115)) ((gt s114.l n119).l).length).bind fun n120=>
 some (Sl.mk (s114.l.set n119 (Sl.mk (((gt s114.l n119).l).set n120 (ah.h_ (gt s102.l n115)))))))else
 (some s114):Option (Sl (Sl Int))).bind fun s121=>
 some (.inl (wr .i64 (i113+1),s121)))else
 (some (.inr s114))
def eC(x_0_p_Rounds:Sl aj):(Int×af×Sl (Sl Int)×Sl (Sl Int)×Sl ah×Sl aj×Int×Int×Int×Int×Sl (Sl Int)×Sl ak)->Option ((Int×af×Sl (Sl Int)×Sl (Sl Int)×Sl ah×Sl aj×Int×Int×Int×Int×Sl (Sl Int)×Sl ak)⊕(af×Sl (Sl Int)×Sl (Sl Int)×Sl ah×Sl aj×Int×Int×Int×Int×Sl ak)):=fun(i24,x25,s26,s27,s28,s29,i30,i31,i32,i33,s34,s35)=>
 bif decide (i24<(x_0_p_Rounds.l.length:Int))then((df i24 x_0_p_Rounds.l.length).bind fun n36=>
 (bc (eE x_0_p_Rounds n36 i24 x25) (0,x25,s26,s27,s28,s29,i30,i31,i32,i33,s34,s35)).bind fun(x99,s100,s101,s102,s103,i104,i105,i106,i107,s108,s109)=>
 (bc (eD x_0_p_Rounds n36 s100 s102 s109 x99 s101 s103 i104 i105 i106 i107) (0,s108)).bind fun s122=>
 some (.inl (wr .i64 (i24+1),x99,s100,s101,s102,s103,i104,i105,i106,i107,s122,s109)))else
 (some (.inr (x25,s26,s27,s28,s29,i30,i31,i32,i33,s35)))
def gA(x_0_t:af)(x_0_old:Sl (Sl Int))(x_0_now:Sl (Sl Int))(x_0_p_Moves:Sl ah)(x_0_p_Rounds:Sl aj)(x_0_p_Miss:Int)(x_0_p_Life:Int)(x_0_p_From:Int)(x_0_p_To:Int)(x_0_out:Sl ak):Option (af×Sl (Sl Int)×Sl (Sl Int)×Sl ah×Sl aj×Int×Int×Int×Int×Sl ak):=
 (CE (Sl.nil:Sl Int) (x_0_old.l.length:Int) (x_0_old.l.length:Int)).bind fun l1=>
 (bc (fD x_0_old) (0,(Sl.mk l1))).bind fun s10=>
 (bc (eC x_0_p_Rounds) (0,x_0_t,x_0_old,x_0_now,x_0_p_Moves,x_0_p_Rounds,x_0_p_Miss,x_0_p_Life,x_0_p_From,x_0_p_To,s10,x_0_out)).bind fun(x123,s124,s125,s126,s127,i128,i129,i130,i131,s132)=>
 some (x123,s124,s125,s126,s127,i128,i129,i130,i131,s132)
def RP:j8:=⟨[(true,.pb y6 (.st (.pr (.x y0) (.pr (.x (.sl (.sl (.i .i64)))) (.pr (.x (.sl (.sl (.i .i64)))) (.pr (.st (.pr (.x (.sl y4)) (.pr (.x (.sl y5)) (.pr (.x (.i .i64)) (.pr (.x (.i .i64)) (.pr (.x (.i .i64)) (.pr (.x (.i .i64)) .ni))))))) (.pr (.os y7) .ni)))))))],[([],[.pb y6 (.st (.pr (.x y0) (.pr (.x (.sl (.sl (.i .i64)))) (.pr (.x (.sl (.sl (.i .i64)))) (.pr (.st (.pr (.x (.sl y4)) (.pr (.x (.sl y5)) (.pr (.x (.i .i64)) (.pr (.x (.i .i64)) (.pr (.x (.i .i64)) (.pr (.x (.i .i64)) .ni))))))) (.pr (.os y7) .ni))))))])],false,[true],fun p=>match p with|(x_0_t,x_0_old,x_0_now,x_0_p_Moves,x_0_p_Rounds,x_0_p_Miss,x_0_p_Life,x_0_p_From,x_0_p_To,x_0_out)=>gA x_0_t x_0_old x_0_now x_0_p_Moves x_0_p_Rounds x_0_p_Miss x_0_p_Life x_0_p_From x_0_p_To x_0_out⟩
theorem S7:cJ prog 29 RP:=bU cQ cS (cH:=So) (np:=1) (an:=[(5,{j:=some {vs:=[(2,.sr 0),(25,.x (.i .i64))],os:=[.rw (.i .i64)],kl:=[13]},e:=[(.exit 0,{vs:=[(2,.sr 0)],os:=[.rw (.i .i64)],kl:=[13]})]}),(16,{j:=some {vs:=[(0,.op 0 y6 []),(2,.sr 1),(42,.x (.i .i64))],gs:=(.co (.op 0 y6 []) .ni),os:=[.bx y6 (.rc (.co (.x y0) (.co (.x (.sl (.sl (.i .i64)))) (.co (.x (.sl (.sl (.i .i64)))) (.co (.rc (.co (.x (.sl y4)) (.co (.x (.sl y5)) (.co (.x (.i .i64)) (.co (.x (.i .i64)) (.co (.x (.i .i64)) (.co (.x (.i .i64)) .ni))))))) (.co (.so 2) .ni)))))),.rw (.i .i64),.ar y7],kl:=[0,12,14]},e:=[(.exit 2,{gs:=(.co (.op 0 y6 []) .ni),os:=[.bx y6 (.rc (.co (.x y0) (.co (.x (.sl (.sl (.i .i64)))) (.co (.x (.sl (.sl (.i .i64)))) (.co (.rc (.co (.x (.sl y4)) (.co (.x (.sl y5)) (.co (.x (.i .i64)) (.co (.x (.i .i64)) (.co (.x (.i .i64)) (.co (.x (.i .i64)) .ni))))))) (.co (.so 1) .ni)))))),.ar y7],kl:=[0,12,14]})]}),(26,{j:=some {vs:=[(0,.op 0 y6 []),(2,.sr 1),(53,.x (.i .i64))],gs:=(.co (.op 0 y6 []) .ni),os:=[.bx y6 (.rc (.co (.x y0) (.co (.x (.sl (.sl (.i .i64)))) (.co (.x (.sl (.sl (.i .i64)))) (.co (.rc (.co (.x (.sl y4)) (.co (.x (.sl y5)) (.co (.x (.i .i64)) (.co (.x (.i .i64)) (.co (.x (.i .i64)) (.co (.x (.i .i64)) .ni))))))) (.co (.so 2) .ni)))))),.rw (.i .i64),.ar y7],kl:=[15,16,17]},e:=[(.exit 4,{vs:=[(0,.op 0 y6 []),(2,.sr 1)],gs:=(.co (.op 0 y6 []) .ni),os:=[.bx y6 (.rc (.co (.x y0) (.co (.x (.sl (.sl (.i .i64)))) (.co (.x (.sl (.sl (.i .i64)))) (.co (.rc (.co (.x (.sl y4)) (.co (.x (.sl y5)) (.co (.x (.i .i64)) (.co (.x (.i .i64)) (.co (.x (.i .i64)) (.co (.x (.i .i64)) .ni))))))) (.co (.so 2) .ni)))))),.rw (.i .i64),.ar y7],kl:=[15,16,17]})]}),(38,{j:=some {vs:=[(2,.sr 0),(8,.sr 1),(61,.x (.i .i64))],os:=[.rw (.i .i64),.rw (.i .i64)],kl:=[20,22]},e:=[(.exit 6,{vs:=[(2,.sr 0),(8,.sr 1)],os:=[.rw (.i .i64),.rw (.i .i64)],kl:=[20,22]})]}),(50,{j:=some {vs:=[(8,.sr 0),(82,.x (.i .i64))],os:=[.rw (.i .i64)],kl:=[24]},e:=[(.exit 8,{vs:=[(8,.sr 0)],os:=[.rw (.i .i64)],kl:=[24]})]}),(54,{e:=[(.normal,{vs:=[(8,.sr 0)],os:=[.rw (.i .i64)],kl:=[25]})]}),(58,{j:=some {vs:=[(99,.x .b)]}}),(65,{j:=some {vs:=[(2,.sr 0),(126,.x (.i .i64))],os:=[.rw (.i .i64)],kl:=[20]},e:=[(.exit 10,{vs:=[(2,.sr 0)],os:=[.rw (.i .i64)],kl:=[20]})]}),(69,{e:=[(.normal,{vs:=[(2,.sr 0)],os:=[.rw (.i .i64)],kl:=[22]})]}),(73,{j:=some {vs:=[(137,.x .b)]}})]) (.cons Td (.cons Qw (.cons Qx (.cons S8 .nil)))) (by kernel_rfl) (by kernel_rfl)
def iG(t_0:af)(old_1:Sl (Sl Int))(now_2:Sl (Sl Int))(p_3:bB):Option (Sl ak):=
 ((jw t_0 old_1).bind fun r1=>
 bif(!r1)then(some true)else
 ((jw t_0 now_2).bind fun r2=>
 some (!r2)):Option Bool).bind fun b3=>
 bif b3 then(some (Sl.mk [(⟨1,0,0⟩:ak)]))else
 ((fW t_0 old_1 now_2 (bB.aJ p_3) (bB.az p_3) (bB.j4 p_3) (bB.EK p_3) (bB.mV p_3) (bB.To p_3) Sl.nil).bind fun(q4,q5,q6,q7,q8,q9,q10,q11,q12,s13)=>
 (fV q4 q5 q6 q7 q8 q9 q10 q11 q12 s13).bind fun(q14,q15,q16,q17,q18,q19,q20,q21,q22,s23)=>
 (gA q14 q15 q16 q17 q18 q19 q20 q21 q22 s23).bind fun(q24,q25,q26,q27,q28,q29,q30,q31,q32,s33)=>
 some s33)
def RN:j8:=⟨[(false,.x y0),(false,.x (.sl (.sl (.i .i64)))),(false,.x (.sl (.sl (.i .i64)))),(false,.x y3)],[([.x (.sl y7)],[])],false,[],fun p=>match p with|(t_0,old_1,now_2,p_3)=>iG t_0 old_1 now_2 p_3⟩
theorem Qu:cJ prog 11 RN:=bU cQ cS (cH:=cH) (np:=4) (an:=[(4,{j:=some {vs:=[(19,.x .b)]}})]) (.cons Tp (.cons Tj (.cons Te (.cons S7 .nil)))) (by kernel_rfl) (by kernel_rfl)
def mC(kind_0:Int):Option ByteArray:=
 bif((decide (kind_0<1))||(decide (kind_0>6)))then(some (⟨#[63]⟩:ByteArray))else
 ((df (wr .i64 (kind_0-1)) 6).bind fun n1=>
 some (gt ((Arr.set (Arr.set (Arr.set (Arr.set (Arr.set (Arr.set (sX (.ar 6 .s)) 0 (⟨#[119,114,111,110,103]⟩:ByteArray)) 1 (⟨#[109,105,115,115,105,110,103]⟩:ByteArray)) 2 (⟨#[101,120,116,114,97]⟩:ByteArray)) 3 (⟨#[99,108,111,115,101]⟩:ByteArray)) 4 (⟨#[104,111,108,101]⟩:ByteArray)) 5 (⟨#[108,111,111,112]⟩:ByteArray)).1) n1))
def RM:j8:=⟨[(false,.x (.i .i64))],[([.x .s],[])],true,[],fun p=>match p with|kind_0=>mC kind_0⟩
theorem Qt:cJ prog 14 RM:=bU cQ cS (cH:=cH) (np:=1) (an:=[]) .nil (by kernel_rfl) (by kernel_rfl)
def lm:Option Bool:=
 (iG (⟨3,(Sl.mk [(⟨0,0,1,0,1,1⟩:bi),(⟨1,1,2,0,1,1⟩:bi),(⟨0,1,2,1,1,1⟩:bi)]),(Sl.mk [(⟨2,7⟩:cW)])⟩:af) (Sl.mk [(Sl.mk [0]),(Sl.mk [1]),(Sl.mk [7])]) (Sl.mk [(Sl.mk [1]),(Sl.mk [1]),(Sl.mk [7])]) (⟨Sl.nil,Sl.nil,0,0,0,0⟩:bB)).bind fun r1=>
 (bif((r1.l.length:Int)==1)then((df 0 r1.l.length).bind fun n2=>
 bif decide ((gt r1.l n2)=(⟨2,0,0⟩:ak))then((mC 6).bind fun r3=>
 bif(r3.toList==(⟨#[108,111,111,112]⟩:ByteArray).toList)then((iG (⟨0,Sl.nil,Sl.nil⟩:af) Sl.nil Sl.nil (⟨Sl.nil,Sl.nil,0,0,0,0⟩:bB)).bind fun r4=>
 some ((r4.l.length:Int)==1))else
 (some false))else
 (some false))else
 (some false):Option Bool).bind fun b5=>
 some b5
def RL:j8:=⟨[],[([.x .b],[])],true,[],fun p=>match p with|_=>lm⟩
theorem S6:cJ prog 9 RL:=bU cQ cS (cH:=cH) (np:=0) (an:=[(7,{j:=some {vs:=[(0,.x .b)]}})]) (.cons Qu (.cons Qt .nil)) (by kernel_rfl) (by kernel_rfl)
def oA(l_0:Sl aZ):(Int×Sl ah)->Option ((Int×Sl ah)⊕(Sl ah)):=fun(i4,s5)=>
 bif decide (i4<(l_0.l.length:Int))then((df i4 l_0.l.length).bind fun n6=>
 (df i4 l_0.l.length).bind fun n7=>
 (df i4 l_0.l.length).bind fun n8=>
 (df i4 l_0.l.length).bind fun n9=>
 (fF (s5.l++[(⟨aZ.Sw (gt l_0.l n6),aZ.jF (gt l_0.l n7),aZ.h_ (gt l_0.l n8),aZ.zU (gt l_0.l n9)⟩:ah)])).bind fun l10=>
 some (.inl (wr .i64 (i4+1),(Sl.mk l10))))else
 (some (.inr s5))
def sq(l_0:Sl aZ):Option (Sl ah):=
 (bc (oA l_0) (0,Sl.nil)).bind fun s11=>
 some s11
def RK:j8:=⟨[(false,.x (.sl y4))],[([.x (.sl y4)],[])],false,[],fun p=>match p with|l_0=>sq l_0⟩
theorem S5:cJ prog 30 RK:=bU cQ cS (cH:=cH) (np:=1) (an:=[(7,{j:=some {vs:=[(3,.so 0),(4,.x (.i .i64))],os:=[.ar y4]},e:=[(.exit 0,{vs:=[(3,.so 0)],os:=[.ar y4]})]})]) .nil (by kernel_rfl) (by kernel_rfl)
def me(p_0:am):(Int×Sl ah×Int×Int×Int×Int×Sl aj)->Option ((Int×Sl ah×Int×Int×Int×Int×Sl aj)⊕(Sl ah×Int×Int×Int×Int×Sl aj)):=fun(i10,s11,i12,i13,i14,i15,s16)=>
 bif decide (i10<(((am.az p_0).l).length:Int))then((df i10 ((am.az p_0).l).length).bind fun n17=>
 (df i10 ((am.az p_0).l).length).bind fun n18=>
 (df i10 ((am.az p_0).l).length).bind fun n19=>
 (fF (s16.l++[(⟨dE.No (gt ((am.az p_0).l) n17),dE.At (gt ((am.az p_0).l) n18),dE.Of (gt ((am.az p_0).l) n19)⟩:aj)])).bind fun l20=>
 some (.inl (wr .i64 (i10+1),s11,i12,i13,i14,i15,(Sl.mk l20))))else
 (some (.inr (s11,i12,i13,i14,i15,s16)))
def sj(p_0:am):Option bB:=
 (sq (am.aJ p_0)).bind fun r1=>
 (bc (me p_0) (0,r1,am.j4 p_0,am.EK p_0,am.mV p_0,am.To p_0,Sl.nil)).bind fun(s21,i22,i23,i24,i25,s26)=>
 some (⟨s21,s26,i22,i23,i24,i25⟩:am)
def RJ:j8:=⟨[(false,.x y3)],[([.x y3],[])],false,[],fun p=>match p with|p_0=>sj p_0⟩
theorem S4:cJ prog 12 RJ:=bU cQ cS (cH:=cH) (np:=1) (an:=[(7,{j:=some {vs:=[(3,.op 0 y3 []),(4,.x (.i .i64))],os:=[.bx y3 (.rc (.co (.x (.sl y4)) (.co (.so 1) (.co (.x (.i .i64)) (.co (.x (.i .i64)) (.co (.x (.i .i64)) (.co (.x (.i .i64)) .ni))))))),.ar y5],kl:=[12000002]},e:=[(.exit 0,{vs:=[(3,.op 0 y3 [])],os:=[.bx y3 (.rc (.co (.x (.sl y4)) (.co (.so 1) (.co (.x (.i .i64)) (.co (.x (.i .i64)) (.co (.x (.i .i64)) (.co (.x (.i .i64)) .ni))))))),.ar y5],kl:=[12000002]})]})]) (.cons S5 .nil) (by kernel_rfl) (by kernel_rfl)
def mb(t_0:af)(sw_1:Int)(p_2:Int):(Int×Int)->Option ((Int×Int)⊕Int):=fun(i3,i4)=>
 bif decide (i4<(((af.aY t_0).l).length:Int))then(((df i4 ((af.aY t_0).l).length).bind fun n5=>
 (bif(((bi.A (gt ((af.aY t_0).l) n5))==sw_1)&&((bi.j3 (gt ((af.aY t_0).l) n5))==p_2))then(some (wr .i64 (i3+1)))else
 (some i3):Option Int).bind fun i6=>
 bif(((bi.B (gt ((af.aY t_0).l) n5))==sw_1)&&((bi.jZ (gt ((af.aY t_0).l) n5))==p_2))then(some (wr .i64 (i6+1)))else
 (some i6):Option Int).bind fun i7=>
 some (.inl (i7,wr .i64 (i4+1))))else
 (some (.inr i3))
def ma(t_0:af)(sw_1:Int)(p_2:Int):(Int×Int)->Option ((Int×Int)⊕Int):=fun(i11,i12)=>
 bif decide (i12<(((af.aN t_0).l).length:Int))then((((df i12 ((af.aN t_0).l).length).bind fun n13=>
 bif((cW.At (gt ((af.aN t_0).l) n13))==sw_1)then((df i12 ((af.aN t_0).l).length).bind fun n14=>
 some ((cW.h_ (gt ((af.aN t_0).l) n14))==p_2))else
 (some false):Option Bool).bind fun b15=>
 bif b15 then(some (wr .i64 (i11+1)))else
 (some i11):Option Int).bind fun i16=>
 some (.inl (i16,wr .i64 (i12+1))))else
 (some (.inr i11))
def nV(t_0:af)(sw_1:Int)(p_2:Int):Option Bool:=
 (bc (mb t_0 sw_1 p_2) (0,0)).bind fun i8=>
 (bc (ma t_0 sw_1 p_2) (i8,0)).bind fun i17=>
 some (((((decide (sw_1>=0))&&(decide (sw_1<(af.aU t_0))))&&(decide (p_2>=0)))&&(decide (p_2<=7)))&&(i17==1))
def RI:j8:=⟨[(false,.x y0),(false,.x (.i .i64)),(false,.x (.i .i64))],[([.x .b],[])],true,[],fun p=>match p with|(t_0,sw_1,p_2)=>nV t_0 sw_1 p_2⟩
theorem SZ:cJ prog 100 RI:=bU cQ cS (cH:=cH) (np:=3) (an:=[(7,{j:=some {vs:=[(7,.x (.i .i64)),(8,.x (.i .i64))]},e:=[(.exit 0,{vs:=[(7,.x (.i .i64))]})]}),(11,{e:=[(.normal,{vs:=[(7,.x (.i .i64))]})]}),(14,{e:=[(.normal,{vs:=[(7,.x (.i .i64))]})]}),(25,{j:=some {vs:=[(7,.x (.i .i64)),(10,.x (.i .i64))]},e:=[(.exit 2,{vs:=[(7,.x (.i .i64))]})]}),(29,{e:=[(.normal,{vs:=[(7,.x (.i .i64))]})]}),(31,{j:=some {vs:=[(71,.x .b)]}})]) .nil (by kernel_rfl) (by kernel_rfl)
def m_(t_0:af):Int->Option (Int⊕(Bool⊕Unit)):=fun i2=>
 bif decide (i2<(((af.aY t_0).l).length:Int))then((df i2 ((af.aY t_0).l).length).bind fun n3=>
 (bif(((((bi.A (gt ((af.aY t_0).l) n3))==(bi.B (gt ((af.aY t_0).l) n3)))||(decide ((bi.pw (gt ((af.aY t_0).l) n3))<1)))||(decide ((bi.pw (gt ((af.aY t_0).l) n3))>(bi.lS (gt ((af.aY t_0).l) n3)))))||(decide ((bi.lS (gt ((af.aY t_0).l) n3))>1000)))then(some true)else
 ((nV t_0 (bi.A (gt ((af.aY t_0).l) n3)) (bi.j3 (gt ((af.aY t_0).l) n3))).bind fun r4=>
 bif(!r4)then(some true)else
 ((nV t_0 (bi.B (gt ((af.aY t_0).l) n3)) (bi.jZ (gt ((af.aY t_0).l) n3))).bind fun r5=>
 some (!r5))):Option Bool).bind fun b6=>
 bif b6 then(some (.inr (.inl false)))else
 (some (.inl (wr .i64 (i2+1)))))else
 (some (.inr (.inr ())))
def m9(t_0:af):Int->Option (Int⊕(Bool⊕Unit)):=fun i9=>
 bif decide (i9<(((af.aN t_0).l).length:Int))then((df i9 ((af.aN t_0).l).length).bind fun n10=>
 (df i9 ((af.aN t_0).l).length).bind fun n11=>
 (nV t_0 (cW.At (gt ((af.aN t_0).l) n10)) (cW.h_ (gt ((af.aN t_0).l) n11))).bind fun r12=>
 bif(!r12)then(some (.inr (.inl false)))else
 (some (.inl (wr .i64 (i9+1)))))else
 (some (.inr (.inr ())))
def qG(t_0:af):Option Bool:=
 bif((((decide ((af.aU t_0)<1))||(decide ((af.aU t_0)>8)))||(decide ((((af.aY t_0).l).length:Int)>24)))||(decide ((((af.aN t_0).l).length:Int)>8)))then(some false)else
 ((bc (m_ t_0) 0).bind fun
 |.inl b7=>(some b7)
 |.inr _=>((bc (m9 t_0) 0).bind fun
 |.inl b13=>(some b13)
 |.inr _=>(some true)))
def RH:j8:=⟨[(false,.x y0)],[([.x .b],[])],true,[],fun p=>match p with|t_0=>qG t_0⟩
theorem SY:cJ prog 75 RH:=bU cQ cS (cH:=cH) (np:=1) (an:=[(10,{j:=some {vs:=[(3,.x (.i .i64))]},e:=[(.ret,{vs:=[(2,.x .b)]}),(.exit 0,{})]}),(18,{j:=some {vs:=[(77,.x .b)]}}),(25,{j:=some {vs:=[(5,.x (.i .i64))]},e:=[(.ret,{vs:=[(2,.x .b)]}),(.exit 2,{})]})]) (.cons SZ .nil) (by kernel_rfl) (by kernel_rfl)
def m7(r_1:Sl (Sl Int))(i3:Int):Int->Option (Int⊕(Bool⊕Unit)):=fun i6=>
 (df i3 r_1.l.length).bind fun n7=>
 bif decide (i6<(((gt r_1.l n7).l).length:Int))then(((df i3 r_1.l.length).bind fun n8=>
 (df i6 ((gt r_1.l n8).l).length).bind fun n9=>
 bif decide ((gt ((gt r_1.l n8).l) n9)<0)then(some true)else
 ((df i3 r_1.l.length).bind fun n10=>
 (df i6 ((gt r_1.l n10).l).length).bind fun n11=>
 some (decide ((gt ((gt r_1.l n10).l) n11)>7))):Option Bool).bind fun b12=>
 bif b12 then(some (.inr (.inl false)))else
 (some (.inl (wr .i64 (i6+1)))))else
 (some (.inr (.inr ())))
def m6(t_0:af)(r_1:Sl (Sl Int)):Int->Option (Int⊕(Bool⊕Unit)):=fun i3=>
 bif decide (i3<(r_1.l.length:Int))then((df i3 r_1.l.length).bind fun n4=>
 bif((((gt r_1.l n4).l).length:Int) !=(((af.aN t_0).l).length:Int))then(some (.inr (.inl false)))else
 ((bc (m7 r_1 i3) 0).bind fun
 |.inl b13=>(some (.inr (.inl b13)))
 |.inr _=>(some (.inl (wr .i64 (i3+1))))))else
 (some (.inr (.inr ())))
def oM(t_0:af)(r_1:Sl (Sl Int)):Option Bool:=
 (qG t_0).bind fun r1=>
 bif((!r1)||((r_1.l.length:Int) !=(af.aU t_0)))then(some false)else
 ((bc (m6 t_0 r_1) 0).bind fun
 |.inl b14=>(some b14)
 |.inr _=>(some true))
def RF:j8:=⟨[(false,.x y0),(false,.x (.sl (.sl (.i .i64))))],[([.x .b],[])],true,[],fun p=>match p with|(t_0,r_1)=>oM t_0 r_1⟩
theorem Qs:cJ prog 39 RF:=bU cQ cS (cH:=cH) (np:=2) (an:=[(10,{j:=some {vs:=[(5,.x (.i .i64))]},e:=[(.ret,{vs:=[(4,.x .b)]}),(.exit 0,{})]}),(22,{j:=some {vs:=[(6,.x (.i .i64))]},e:=[(.ret,{vs:=[(4,.x .b)]}),(.exit 2,{})]}),(28,{j:=some {vs:=[(58,.x .b)]}})]) (.cons SY .nil) (by kernel_rfl) (by kernel_rfl)
def ow(t_0:af)(sw_1:Int)(p_2:Int):Int->Option (Int⊕((Int×Int×Int×Bool)⊕Unit)):=fun i2=>
 bif decide (i2<(((af.aY t_0).l).length:Int))then((df i2 ((af.aY t_0).l).length).bind fun n3=>
 bif(((bi.A (gt ((af.aY t_0).l) n3))==sw_1)&&((bi.j3 (gt ((af.aY t_0).l) n3))==p_2))then(some (.inr (.inl (bi.B (gt ((af.aY t_0).l) n3),bi.jZ (gt ((af.aY t_0).l) n3),i2,true))))else
 (bif(((bi.B (gt ((af.aY t_0).l) n3))==sw_1)&&((bi.jZ (gt ((af.aY t_0).l) n3))==p_2))then(some (.inr (.inl (bi.A (gt ((af.aY t_0).l) n3),bi.j3 (gt ((af.aY t_0).l) n3),i2,true))))else
 (some (.inl (wr .i64 (i2+1))))))else
 (some (.inr (.inr ())))
def pY(t_0:af)(sw_1:Int)(p_2:Int):Option (Int×Int×Int×Bool):=
 (bc (ow t_0 sw_1 p_2) 0).bind fun
 |.inl (i4,i5,i6,b7)=>(some (i4,i5,i6,b7))
 |.inr _=>(some (0,0,0,false))
def RE:j8:=⟨[(false,.x y0),(false,.x (.i .i64)),(false,.x (.i .i64))],[([.x (.i .i64),.x (.i .i64),.x (.i .i64),.x .b],[])],true,[],fun p=>match p with|(t_0,sw_1,p_2)=>pY t_0 sw_1 p_2⟩
theorem Qr:cJ prog 24 RE:=bU cQ cS (cH:=cH) (np:=3) (an:=[(5,{j:=some {vs:=[(10,.x (.i .i64))]},e:=[(.ret,{vs:=[(6,.x (.i .i64)),(7,.x (.i .i64)),(8,.x (.i .i64)),(9,.x .b)]}),(.exit 0,{})]})]) .nil (by kernel_rfl) (by kernel_rfl)
def sf(t_0:af)(r_1:Sl (Sl Int))(sw_2:Int)(h_3:Int):Option (Int×Bool):=
 (bif(((decide (sw_2<0))||(decide (sw_2>=(r_1.l.length:Int))))||(decide (h_3<0)))then(some true)else
 ((df sw_2 r_1.l.length).bind fun n1=>
 some (decide (h_3>=(((gt r_1.l n1).l).length:Int)))):Option Bool).bind fun b2=>
 bif b2 then(some (0,false))else
 ((df sw_2 r_1.l.length).bind fun n3=>
 (df h_3 ((gt r_1.l n3).l).length).bind fun n4=>
 (pY t_0 sw_2 (gt ((gt r_1.l n3).l) n4)).bind fun(r5,r6,r7,r8)=>
 some (r5,r8))
def RB:j8:=⟨[(false,.x y0),(false,.x (.sl (.sl (.i .i64)))),(false,.x (.i .i64)),(false,.x (.i .i64))],[([.x (.i .i64),.x .b],[])],true,[],fun p=>match p with|(t_0,r_1,sw_2,h_3)=>sf t_0 r_1 sw_2 h_3⟩
theorem SX:cJ prog 101 RB:=bU cQ cS (cH:=cH) (np:=4) (an:=[(4,{j:=some {vs:=[(34,.x .b)]}})]) (.cons Qr .nil) (by kernel_rfl) (by kernel_rfl)
def iU(t_0:af)(r_1:Sl (Sl Int))(h_3:Int)(n_4:Int):(Int×Int)->Option ((Int×Int)⊕((Int×Bool)⊕Int)):=fun(i3,i4)=>
 bif decide (i4<=n_4)then(((df h_3 ((af.aN t_0).l).length).bind fun n5=>
 bif((cW.At (gt ((af.aN t_0).l) n5))==i3)then((df h_3 ((af.aN t_0).l).length).bind fun n6=>
 (df i3 r_1.l.length).bind fun n7=>
 (df h_3 ((gt r_1.l n7).l).length).bind fun n8=>
 some ((cW.h_ (gt ((af.aN t_0).l) n6))==(gt ((gt r_1.l n7).l) n8)))else
 (some false):Option Bool).bind fun b9=>
 bif b9 then(some (.inr (.inl (i3,(i4==n_4)))))else
 (bif(i4==n_4)then(some (.inr (.inl (i3,false))))else
 ((sf t_0 r_1 i3 h_3).bind fun(r10,r11)=>
 bif(!r11)then(some (.inr (.inl ((-1),false))))else
 (some (.inl (r10,wr .i64 (i4+1)))))))else
 (some (.inr (.inr i3)))
def oL(t_0:af)(r_1:Sl (Sl Int))(sw_2:Int)(h_3:Int)(n_4:Int):Option (Int×Bool):=
 (bc (iU t_0 r_1 h_3 n_4) (sw_2,0)).bind fun
 |.inl (i12,b13)=>(some (i12,b13))
 |.inr i14=>(some (i14,false))
def Rz:j8:=⟨[(false,.x y0),(false,.x (.sl (.sl (.i .i64)))),(false,.x (.i .i64)),(false,.x (.i .i64)),(false,.x (.i .i64))],[([.x (.i .i64),.x .b],[])],true,[],fun p=>match p with|(t_0,r_1,sw_2,h_3,n_4)=>oL t_0 r_1 sw_2 h_3 n_4⟩
theorem SW:cJ prog 76 Rz:=bU cQ cS (cH:=cH) (np:=5) (an:=[(7,{j:=some {vs:=[(12,.x (.i .i64)),(13,.x (.i .i64))]},e:=[(.ret,{vs:=[(10,.x (.i .i64)),(11,.x .b)]}),(.exit 0,{vs:=[(12,.x (.i .i64))]})]}),(14,{j:=some {vs:=[(45,.x .b)]}})]) (.cons SX .nil) (by kernel_rfl) (by kernel_rfl)
def eO(t_0:af)(r_1:Sl (Sl Int))(sw_2:Int)(h_3:Int):(Int×Sl Int)->Option ((Int×Sl Int)⊕((Int×Sl Int)⊕Unit)):=fun(i5,s6)=>
 bif decide (i5<(af.aU t_0))then((oL t_0 r_1 sw_2 h_3 i5).bind fun(r7,r8)=>
 bif(r7==(-1))then(some (.inr (.inl (13,Sl.nil))))else
 ((fF (s6.l++[r7])).bind fun l9=>
 bif r8 then(some (.inr (.inl (0,(Sl.mk l9)))))else
 (some (.inl (wr .i64 (i5+1),(Sl.mk l9))))))else
 (some (.inr (.inr ())))
def li(t_0:af)(r_1:Sl (Sl Int))(sw_2:Int)(h_3:Int):Option (Sl Int×Int):=
 (oM t_0 r_1).bind fun r1=>
 bif(((((!r1)||(decide (sw_2<0)))||(decide (sw_2>=(r_1.l.length:Int))))||(decide (h_3<0)))||(decide (h_3>=(((af.aN t_0).l).length:Int))))then(some (Sl.nil,2))else
 ((bc (eO t_0 r_1 sw_2 h_3) (0,Sl.nil)).bind fun
 |.inl (i10,s11)=>(some (s11,i10))
 |.inr _=>((oL t_0 r_1 sw_2 h_3 (af.aU t_0)).bind fun(r12,r13)=>
 bif(r12==(-1))then(some (Sl.nil,13))else
 (some (Sl.nil,12))))
def Ry:j8:=⟨[(false,.x y0),(false,.x (.sl (.sl (.i .i64)))),(false,.x (.i .i64)),(false,.x (.i .i64))],[([.x (.sl (.i .i64)),.x (.i .i64)],[])],false,[],fun p=>match p with|(t_0,r_1,sw_2,h_3)=>li t_0 r_1 sw_2 h_3⟩
theorem SV:cJ prog 40 Ry:=bU cQ cS (cH:=cH) (np:=4) (an:=[(12,{j:=some {vs:=[(10,.so 0),(11,.x (.i .i64))],os:=[.ar (.i .i64)]},e:=[(.ret,{vs:=[(8,.so 0),(9,.x (.i .i64))],os:=[.ar (.i .i64)]}),(.exit 0,{})]})]) (.cons Qs (.cons SW .nil)) (by kernel_rfl) (by kernel_rfl)
def kF(t_0:af)(r_1:Sl (Sl Int))(i3:Int):Int->Option (Int⊕(Bool⊕Unit)):=fun i5=>
 bif decide (i5<(((af.aN t_0).l).length:Int))then((li t_0 r_1 i3 i5).bind fun(r6,r7)=>
 bif(r7 !=0)then(some (.inr (.inl false)))else
 (some (.inl (wr .i64 (i5+1)))))else
 (some (.inr (.inr ())))
def ot(t_0:af)(r_1:Sl (Sl Int)):Int->Option (Int⊕(Bool⊕Unit)):=fun i3=>
 bif decide (i3<(r_1.l.length:Int))then((bc (kF t_0 r_1 i3) 0).bind fun
 |.inl b8=>(some (.inr (.inl b8)))
 |.inr _=>(some (.inl (wr .i64 (i3+1)))))else
 (some (.inr (.inr ())))
def pX(t_0:af)(r_1:Sl (Sl Int)):Option Bool:=
 (oM t_0 r_1).bind fun r1=>
 bif(!r1)then(some false)else
 ((bc (ot t_0 r_1) 0).bind fun
 |.inl b9=>(some b9)
 |.inr _=>(some true))
def Rx:j8:=⟨[(false,.x y0),(false,.x (.sl (.sl (.i .i64))))],[([.x .b],[])],true,[],fun p=>match p with|(t_0,r_1)=>pX t_0 r_1⟩
theorem SU:cJ prog 20 Rx:=bU cQ cS (cH:=cH) (np:=2) (an:=[(10,{j:=some {vs:=[(5,.x (.i .i64))]},e:=[(.ret,{vs:=[(4,.x .b)]}),(.exit 0,{})]}),(17,{j:=some {vs:=[(6,.x (.i .i64))]},e:=[(.ret,{vs:=[(4,.x .b)]}),(.exit 2,{})]})]) (.cons Qs (.cons SV .nil)) (by kernel_rfl) (by kernel_rfl)
def BR(l_0:Sl Int)(x_1:Int):Int->Option (Int⊕(Bool⊕Unit)):=fun i2=>
 bif decide (i2<(l_0.l.length:Int))then((df i2 l_0.l.length).bind fun n3=>
 bif((gt l_0.l n3)==x_1)then(some (.inr (.inl true)))else
 (some (.inl (wr .i64 (i2+1)))))else
 (some (.inr (.inr ())))
def wD(l_0:Sl Int)(x_1:Int):Option Bool:=
 (bc (BR l_0 x_1) 0).bind fun
 |.inl b4=>(some b4)
 |.inr _=>(some false)
def Rw:j8:=⟨[(false,.x (.sl (.i .i64))),(false,.x (.i .i64))],[([.x .b],[])],true,[],fun p=>match p with|(l_0,x_1)=>wD l_0 x_1⟩
theorem SS:cJ prog 99 Rw:=bU cQ cS (cH:=cH) (np:=2) (an:=[(5,{j:=some {vs:=[(5,.x (.i .i64))]},e:=[(.ret,{vs:=[(4,.x .b)]}),(.exit 0,{})]})]) .nil (by kernel_rfl) (by kernel_rfl)
def nR(p_0:am)(k_1:Int)(m_2:aZ):Option Bool:=
 ((df k_1 ((am.az p_0).l).length).bind fun n1=>
 bif((dE.No (gt ((am.az p_0).l) n1))==(aZ.zU m_2))then((df k_1 ((am.az p_0).l).length).bind fun n2=>
 (wD (dE.Of (gt ((am.az p_0).l) n2)) (aZ.Sw m_2)).bind fun r3=>
 some r3)else
 (some false):Option Bool).bind fun b4=>
 some b4
def Rv:j8:=⟨[(false,.x y3),(false,.x (.i .i64)),(false,.x y4)],[([.x .b],[])],true,[],fun p=>match p with|(p_0,k_1,m_2)=>nR p_0 k_1 m_2⟩
theorem OX:cJ prog 74 Rv:=bU cQ cS (cH:=cH) (np:=3) (an:=[(3,{j:=some {vs:=[(6,.x .b)]}})]) (.cons SS .nil) (by kernel_rfl) (by kernel_rfl)
def oq(p_0:am)(m_1:aZ):Int->Option (Int⊕(Bool⊕Unit)):=fun i2=>
 bif decide (i2<(((am.az p_0).l).length:Int))then((nR p_0 i2 m_1).bind fun r3=>
 bif r3 then(some (.inr (.inl true)))else
 (some (.inl (wr .i64 (i2+1)))))else
 (some (.inr (.inr ())))
def nQ(p_0:am)(m_1:aZ):Option Bool:=
 (bc (oq p_0 m_1) 0).bind fun
 |.inl b4=>(some b4)
 |.inr _=>(some false)
def Ru:j8:=⟨[(false,.x y3),(false,.x y4)],[([.x .b],[])],true,[],fun p=>match p with|(p_0,m_1)=>nQ p_0 m_1⟩
theorem SR:cJ prog 63 Ru:=bU cQ cS (cH:=cH) (np:=2) (an:=[(5,{j:=some {vs:=[(5,.x (.i .i64))]},e:=[(.ret,{vs:=[(4,.x .b)]}),(.exit 0,{})]})]) (.cons OX .nil) (by kernel_rfl) (by kernel_rfl)
def yO(t_0:af)(m_1:aZ):Option Bool:=some ((((decide ((aZ.Sw m_1)>=0))&&(decide ((aZ.Sw m_1)<(af.aU t_0))))&&(decide ((aZ.jF m_1)>=0)))&&(decide ((aZ.jF m_1)<(((af.aN t_0).l).length:Int))))
def Rt:j8:=⟨[(false,.x y0),(false,.x y4)],[([.x .b],[])],true,[],fun p=>match p with|(t_0,m_1)=>yO t_0 m_1⟩
theorem SQ:cJ prog 64 Rt:=bU cQ cS (cH:=cH) (np:=2) (an:=[]) .nil (by kernel_rfl) (by kernel_rfl)
def jQ(now_2:Sl (Sl Int))(p_3:am)(i4:Int)(i8:Int):(Int×Int)->Option ((Int×Int)⊕Int):=fun(i12,i13)=>
 bif decide (i13<(((am.aJ p_3).l).length:Int))then(((df i13 ((am.aJ p_3).l).length).bind fun n14=>
 (bif(((aZ.Sw (gt ((am.aJ p_3).l) n14))==i4)&&((aZ.jF (gt ((am.aJ p_3).l) n14))==i8))then((df i4 now_2.l.length).bind fun n15=>
 (df i8 ((gt now_2.l n15).l).length).bind fun n16=>
 bif((aZ.h_ (gt ((am.aJ p_3).l) n14))==(gt ((gt now_2.l n15).l) n16))then((nQ p_3 (gt ((am.aJ p_3).l) n14)).bind fun r17=>
 some r17)else
 (some false))else
 (some false):Option Bool).bind fun b18=>
 bif b18 then(some (wr .i64 (i12+1)))else
 (some i12):Option Int).bind fun i19=>
 some (.inl (i19,wr .i64 (i13+1))))else
 (some (.inr i12))
def lc(t_0:af)(old_1:Sl (Sl Int))(now_2:Sl (Sl Int))(p_3:am)(i4:Int):(Int×Sl aL)->Option ((Int×Sl aL)⊕(Sl aL)):=fun(i8,s9)=>
 bif decide (i8<(((af.aN t_0).l).length:Int))then(((bc (jQ now_2 p_3 i4 i8) (0,0)).bind fun i20=>
 (df i4 old_1.l.length).bind fun n21=>
 (df i8 ((gt old_1.l n21).l).length).bind fun n22=>
 (df i4 now_2.l.length).bind fun n23=>
 (df i8 ((gt now_2.l n23).l).length).bind fun n24=>
 bif(((gt ((gt old_1.l n21).l) n22) !=(gt ((gt now_2.l n23).l) n24))&&(i20 !=1))then((fF (s9.l++[(⟨2,i4,i8⟩:aL)])).bind fun l25=>
 some (Sl.mk l25))else
 (some s9):Option (Sl aL)).bind fun s26=>
 some (.inl (wr .i64 (i8+1),s26)))else
 (some (.inr s9))
def k_(t_0:af)(old_1:Sl (Sl Int))(now_2:Sl (Sl Int))(p_3:am):(Int×Sl aL)->Option ((Int×Sl aL)⊕(Sl aL)):=fun(i4,s5)=>
 bif decide (i4<(af.aU t_0))then((bc (lc t_0 old_1 now_2 p_3 i4) (0,s5)).bind fun s27=>
 some (.inl (wr .i64 (i4+1),s27)))else
 (some (.inr s5))
def k9(t_0:af)(old_1:Sl (Sl Int))(now_2:Sl (Sl Int))(p_3:am):(Int×Sl aL)->Option ((Int×Sl aL)⊕(Sl aL)):=fun(i31,s32)=>
 bif decide (i31<(((am.aJ p_3).l).length:Int))then(((df i31 ((am.aJ p_3).l).length).bind fun n33=>
 ((yO t_0 (gt ((am.aJ p_3).l) n33)).bind fun r34=>
 bif(!r34)then(some true)else
 ((df (aZ.Sw (gt ((am.aJ p_3).l) n33)) now_2.l.length).bind fun n35=>
 (df (aZ.jF (gt ((am.aJ p_3).l) n33)) ((gt now_2.l n35).l).length).bind fun n36=>
 bif((gt ((gt now_2.l n35).l) n36) !=(aZ.h_ (gt ((am.aJ p_3).l) n33)))then(some true)else
 ((df (aZ.Sw (gt ((am.aJ p_3).l) n33)) old_1.l.length).bind fun n37=>
 (df (aZ.jF (gt ((am.aJ p_3).l) n33)) ((gt old_1.l n37).l).length).bind fun n38=>
 bif((gt ((gt old_1.l n37).l) n38)==(aZ.h_ (gt ((am.aJ p_3).l) n33)))then(some true)else
 ((nQ p_3 (gt ((am.aJ p_3).l) n33)).bind fun r39=>
 some (!r39)))):Option Bool).bind fun b40=>
 bif b40 then((fF (s32.l++[(⟨3,i31,aZ.jF (gt ((am.aJ p_3).l) n33)⟩:aL)])).bind fun l41=>
 some (Sl.mk l41))else
 (some s32):Option (Sl aL)).bind fun s42=>
 some (.inl (wr .i64 (i31+1),s42)))else
 (some (.inr s32))
def qD(t_0:af)(old_1:Sl (Sl Int))(now_2:Sl (Sl Int))(p_3:am):Option (Sl aL):=
 (bc (k_ t_0 old_1 now_2 p_3) (0,Sl.nil)).bind fun s28=>
 (bc (k9 t_0 old_1 now_2 p_3) (0,s28)).bind fun s43=>
 some s43
def Rs:j8:=⟨[(false,.x y0),(false,.x (.sl (.sl (.i .i64)))),(false,.x (.sl (.sl (.i .i64)))),(false,.x y3)],[([.os y7],[])],false,[],fun p=>match p with|(t_0,old_1,now_2,p_3)=>qD t_0 old_1 now_2 p_3⟩
theorem SP:cJ prog 31 Rs:=bU cQ cS (cH:=cH) (np:=4) (an:=[(7,{j:=some {vs:=[(9,.so 0),(10,.x (.i .i64))],os:=[.ar y7]},e:=[(.exit 0,{vs:=[(9,.so 0)],os:=[.ar y7]})]}),(14,{j:=some {vs:=[(9,.so 0),(11,.x (.i .i64))],os:=[.ar y7],kl:=[2]},e:=[(.exit 2,{vs:=[(9,.so 0)],os:=[.ar y7],kl:=[2]})]}),(18,{e:=[(.normal,{vs:=[(9,.so 0)],os:=[.ar y7],kl:=[3]})]}),(24,{j:=some {vs:=[(12,.x (.i .i64)),(13,.x (.i .i64))]},e:=[(.exit 4,{vs:=[(12,.x (.i .i64))]})]}),(28,{e:=[(.normal,{vs:=[(12,.x (.i .i64))]})]}),(32,{j:=some {vs:=[(68,.x .b)]}}),(43,{j:=some {vs:=[(9,.so 0),(15,.x (.i .i64))],os:=[.ar y7],kl:=[2]},e:=[(.exit 6,{vs:=[(9,.so 0)],os:=[.ar y7],kl:=[2]})]}),(47,{e:=[(.normal,{vs:=[(9,.so 0)],os:=[.ar y7],kl:=[3]})]}),(51,{j:=some {vs:=[(145,.x .b)]}})]) (.cons SR (.cons SQ .nil)) (by kernel_rfl) (by kernel_rfl)
def lf(n_0:Int)(from_1:Int)(to_2:Int):Option Int:=
 bif decide (n_0<from_1)then(some from_1)else
 (bif decide (n_0>to_2)then(some to_2)else
 (some n_0))
def Rr:j8:=⟨[(false,.x (.i .i64)),(false,.x (.i .i64)),(false,.x (.i .i64))],[([.x (.i .i64)],[])],true,[],fun p=>match p with|(n_0,from_1,to_2)=>lf n_0 from_1 to_2⟩
theorem SO:cJ prog 65 Rr:=bU cQ cS (cH:=cH) (np:=3) (an:=[]) .nil (by kernel_rfl) (by kernel_rfl)
def jR(t_0:af):(Int×Int)->Option ((Int×Int)⊕Int):=fun(i3,i4)=>
 bif decide (i4<(((af.aY t_0).l).length:Int))then(((df i4 ((af.aY t_0).l).length).bind fun n5=>
 bif decide ((bi.lS (gt ((af.aY t_0).l) n5))>i3)then((df i4 ((af.aY t_0).l).length).bind fun n6=>
 some (bi.lS (gt ((af.aY t_0).l) n6)))else
 (some i3):Option Int).bind fun i7=>
 some (.inl (i7,wr .i64 (i4+1))))else
 (some (.inr i3))
def ou(t_0:af):Option Int:=
 (bc (jR t_0) (0,0)).bind fun i8=>
 some i8
def Rq:j8:=⟨[(false,.x y0)],[([.x (.i .i64)],[])],true,[],fun p=>match p with|t_0=>ou t_0⟩
theorem SN:cJ prog 90 Rq:=bU cQ cS (cH:=cH) (np:=1) (an:=[(7,{j:=some {vs:=[(3,.x (.i .i64)),(4,.x (.i .i64))]},e:=[(.exit 0,{vs:=[(3,.x (.i .i64))]})]}),(11,{e:=[(.normal,{vs:=[(3,.x (.i .i64))]})]})]) .nil (by kernel_rfl) (by kernel_rfl)
def se(t_0:af):Option Int:=
 (ou t_0).bind fun r1=>
 some (wr .i64 ((af.aU t_0)*r1))
def Rp:j8:=⟨[(false,.x y0)],[([.x (.i .i64)],[])],true,[],fun p=>match p with|t_0=>se t_0⟩
theorem SM:cJ prog 66 Rp:=bU cQ cS (cH:=cH) (np:=1) (an:=[]) (.cons SN .nil) (by kernel_rfl) (by kernel_rfl)
def iT(t_0:af)(p_1:am)(r1:Int):(Int×Sl aL)->Option ((Int×Sl aL)⊕(Sl aL)):=fun(i5,s6)=>
 bif decide (i5<(((am.az p_1).l).length:Int))then(((df (wr .i64 (i5-1)) ((am.az p_1).l).length).bind fun n7=>
 (lf (dE.At (gt ((am.az p_1).l) n7)) (-1125899906842624) 1125899906842624).bind fun r8=>
 (df i5 ((am.az p_1).l).length).bind fun n9=>
 (lf (dE.At (gt ((am.az p_1).l) n9)) (-1125899906842624) 1125899906842624).bind fun r10=>
 (se t_0).bind fun r11=>
 bif decide (r10<=(wr .i64 ((wr .i64 ((wr .i64 (r8+r1))+r1))+r11)))then((fF (s6.l++[(⟨4,i5,0⟩:aL)])).bind fun l12=>
 some (Sl.mk l12))else
 (some s6):Option (Sl aL)).bind fun s13=>
 some (.inl (wr .i64 (i5+1),s13)))else
 (some (.inr s6))
def oI(t_0:af)(p_1:am):Option (Sl aL):=
 (lf (am.j4 p_1) 0 1048576).bind fun r1=>
 (bc (iT t_0 p_1 r1) (1,Sl.nil)).bind fun s14=>
 some s14
def Ro:j8:=⟨[(false,.x y0),(false,.x y3)],[([.os y7],[])],false,[],fun p=>match p with|(t_0,p_1)=>oI t_0 p_1⟩
theorem SL:cJ prog 32 Ro:=bU cQ cS (cH:=cH) (np:=2) (an:=[(9,{j:=some {vs:=[(5,.so 0),(7,.x (.i .i64))],os:=[.ar y7]},e:=[(.exit 0,{vs:=[(5,.so 0)],os:=[.ar y7]})]}),(13,{e:=[(.normal,{vs:=[(5,.so 0)],os:=[.ar y7],kl:=[3]})]})]) (.cons SO (.cons SM .nil)) (by kernel_rfl) (by kernel_rfl)
def oK(p_1:am)(sw_3:Int)(h_4:Int)(i6:Int):(Int×Int)->Option ((Int×Int)⊕Int):=fun(i9,i10)=>
 bif decide (i10<(((am.aJ p_1).l).length:Int))then((((df i10 ((am.aJ p_1).l).length).bind fun n11=>
 bif((aZ.Sw (gt ((am.aJ p_1).l) n11))==sw_3)then((df i10 ((am.aJ p_1).l).length).bind fun n12=>
 bif((aZ.jF (gt ((am.aJ p_1).l) n12))==h_4)then((df i10 ((am.aJ p_1).l).length).bind fun n13=>
 (nR p_1 i6 (gt ((am.aJ p_1).l) n13)).bind fun r14=>
 some r14)else
 (some false))else
 (some false):Option Bool).bind fun b15=>
 bif b15 then((df i10 ((am.aJ p_1).l).length).bind fun n16=>
 some (aZ.h_ (gt ((am.aJ p_1).l) n16)))else
 (some i9):Option Int).bind fun i17=>
 some (.inl (i17,wr .i64 (i10+1))))else
 (some (.inr i9))
def oJ(p_1:am)(k_2:Int)(sw_3:Int)(h_4:Int):(Int×Int)->Option ((Int×Int)⊕Int):=fun(i5,i6)=>
 bif decide (i6<k_2)then((bc (oK p_1 sw_3 h_4 i6) (i5,0)).bind fun i18=>
 some (.inl (i18,wr .i64 (i6+1))))else
 (some (.inr i5))
def vA(old_0:Sl (Sl Int))(p_1:am)(k_2:Int)(sw_3:Int)(h_4:Int):Option Int:=
 (df sw_3 old_0.l.length).bind fun n1=>
 (df h_4 ((gt old_0.l n1).l).length).bind fun n2=>
 (bc (oJ p_1 k_2 sw_3 h_4) (gt ((gt old_0.l n1).l) n2,0)).bind fun i19=>
 some i19
def Rn:j8:=⟨[(false,.x (.sl (.sl (.i .i64)))),(false,.x y3),(false,.x (.i .i64)),(false,.x (.i .i64)),(false,.x (.i .i64))],[([.x (.i .i64)],[])],true,[],fun p=>match p with|(old_0,p_1,k_2,sw_3,h_4)=>vA old_0 p_1 k_2 sw_3 h_4⟩
theorem SK:cJ prog 37 Rn:=bU cQ cS (cH:=cH) (np:=5) (an:=[(7,{j:=some {vs:=[(11,.x (.i .i64)),(12,.x (.i .i64))]},e:=[(.exit 0,{vs:=[(11,.x (.i .i64))]})]}),(14,{j:=some {vs:=[(11,.x (.i .i64)),(13,.x (.i .i64))]},e:=[(.exit 2,{vs:=[(11,.x (.i .i64))]})]}),(18,{e:=[(.normal,{vs:=[(11,.x (.i .i64))]})]}),(20,{j:=some {vs:=[(60,.x .b)]}})]) (.cons OX .nil) (by kernel_rfl) (by kernel_rfl)
def ld(p_1:am)(k_2:Int)(sw_3:Int)(h_4:Int):(Int×Sl Int)->Option ((Int×Sl Int)⊕(Sl Int)):=fun(i4,s5)=>
 bif decide (i4<(((am.aJ p_1).l).length:Int))then((((df i4 ((am.aJ p_1).l).length).bind fun n6=>
 bif((aZ.Sw (gt ((am.aJ p_1).l) n6))==sw_3)then((df i4 ((am.aJ p_1).l).length).bind fun n7=>
 bif((aZ.jF (gt ((am.aJ p_1).l) n7))==h_4)then((df i4 ((am.aJ p_1).l).length).bind fun n8=>
 (nR p_1 k_2 (gt ((am.aJ p_1).l) n8)).bind fun r9=>
 some r9)else
 (some false))else
 (some false):Option Bool).bind fun b10=>
 bif b10 then((df i4 ((am.aJ p_1).l).length).bind fun n11=>
 (fF (s5.l++[aZ.h_ (gt ((am.aJ p_1).l) n11)])).bind fun l12=>
 some (Sl.mk l12))else
 (some s5):Option (Sl Int)).bind fun s13=>
 some (.inl (wr .i64 (i4+1),s13)))else
 (some (.inr s5))
def qE(old_0:Sl (Sl Int))(p_1:am)(k_2:Int)(sw_3:Int)(h_4:Int):Option (Sl Int):=
 (vA old_0 p_1 k_2 sw_3 h_4).bind fun r1=>
 (bc (ld p_1 k_2 sw_3 h_4) (0,(Sl.mk [r1]))).bind fun s14=>
 some s14
def Rm:j8:=⟨[(false,.x (.sl (.sl (.i .i64)))),(false,.x y3),(false,.x (.i .i64)),(false,.x (.i .i64)),(false,.x (.i .i64))],[([.x (.sl (.i .i64))],[])],false,[],fun p=>match p with|(old_0,p_1,k_2,sw_3,h_4)=>qE old_0 p_1 k_2 sw_3 h_4⟩
theorem SJ:cJ prog 67 Rm:=bU cQ cS (cH:=cH) (np:=5) (an:=[(7,{j:=some {vs:=[(11,.so 0),(12,.x (.i .i64))],os:=[.ar (.i .i64)],kl:=[2]},e:=[(.exit 0,{vs:=[(11,.so 0)],os:=[.ar (.i .i64)],kl:=[2]})]}),(11,{e:=[(.normal,{vs:=[(11,.so 0)],os:=[.ar (.i .i64)],kl:=[3]})]}),(13,{j:=some {vs:=[(54,.x .b)]}})]) (.cons SK (.cons OX .nil)) (by kernel_rfl) (by kernel_rfl)
def m8(n_0:Int)(l_1:Sl bD):Int->Option (Int⊕(Bool⊕Unit)):=fun i2=>
 bif decide (i2<(l_1.l.length:Int))then(((df i2 l_1.l.length).bind fun n3=>
 bif decide ((bD.mV (gt l_1.l n3))<0)then(some true)else
 ((df i2 l_1.l.length).bind fun n4=>
 bif decide ((bD.mV (gt l_1.l n4))>=n_0)then(some true)else
 ((df i2 l_1.l.length).bind fun n5=>
 bif decide ((bD.To (gt l_1.l n5))<0)then(some true)else
 ((df i2 l_1.l.length).bind fun n6=>
 some (decide ((bD.To (gt l_1.l n6))>=n_0))))):Option Bool).bind fun b7=>
 bif b7 then(some (.inr (.inl false)))else
 (some (.inl (wr .i64 (i2+1)))))else
 (some (.inr (.inr ())))
def qF(n_0:Int)(l_1:Sl bD):Option Bool:=
 (bc (m8 n_0 l_1) 0).bind fun
 |.inl b8=>(some b8)
 |.inr _=>(some ((decide (n_0>=0))&&(decide (n_0<=16))))
def Rl:j8:=⟨[(false,.x (.i .i64)),(false,.x (.sl y2))],[([.x .b],[])],true,[],fun p=>match p with|(n_0,l_1)=>qF n_0 l_1⟩
theorem SI:cJ prog 91 Rl:=bU cQ cS (cH:=cH) (np:=2) (an:=[(5,{j:=some {vs:=[(5,.x (.i .i64))]},e:=[(.ret,{vs:=[(4,.x .b)]}),(.exit 0,{})]}),(11,{j:=some {vs:=[(43,.x .b)]}})]) .nil (by kernel_rfl) (by kernel_rfl)
def jx(l_0:Sl bD)(from_1:Int)(to_2:Int):Int->Option (Int⊕(Bool⊕Unit)):=fun i2=>
 bif decide (i2<(l_0.l.length:Int))then(((df i2 l_0.l.length).bind fun n3=>
 bif((bD.mV (gt l_0.l n3))==from_1)then((df i2 l_0.l.length).bind fun n4=>
 some ((bD.To (gt l_0.l n4))==to_2))else
 (some false):Option Bool).bind fun b5=>
 bif b5 then(some (.inr (.inl true)))else
 (some (.inl (wr .i64 (i2+1)))))else
 (some (.inr (.inr ())))
def mA(l_0:Sl bD)(from_1:Int)(to_2:Int):Option Bool:=
 (bc (jx l_0 from_1 to_2) 0).bind fun
 |.inl b6=>(some b6)
 |.inr _=>(some false)
def Rk:j8:=⟨[(false,.x (.sl y2)),(false,.x (.i .i64)),(false,.x (.i .i64))],[([.x .b],[])],true,[],fun p=>match p with|(l_0,from_1,to_2)=>mA l_0 from_1 to_2⟩
theorem Qq:cJ prog 93 Rk:=bU cQ cS (cH:=cH) (np:=3) (an:=[(5,{j:=some {vs:=[(7,.x (.i .i64))]},e:=[(.ret,{vs:=[(6,.x .b)]}),(.exit 0,{})]}),(11,{j:=some {vs:=[(29,.x .b)]}})]) .nil (by kernel_rfl) (by kernel_rfl)
def pB(l_0:Sl Int)(x_1:Int):Int->Option (Int⊕(Bool⊕Unit)):=fun i2=>
 bif decide (i2<(l_0.l.length:Int))then((df i2 l_0.l.length).bind fun n3=>
 bif((gt l_0.l n3)==x_1)then(some (.inr (.inl true)))else
 (some (.inl (wr .i64 (i2+1)))))else
 (some (.inr (.inr ())))
def rm(l_0:Sl Int)(x_1:Int):Option Bool:=
 (bc (pB l_0 x_1) 0).bind fun
 |.inl b4=>(some b4)
 |.inr _=>(some false)
def Rj:j8:=⟨[(false,.x (.sl (.i .i64))),(false,.x (.i .i64))],[([.x .b],[])],true,[],fun p=>match p with|(l_0,x_1)=>rm l_0 x_1⟩
theorem SH:cJ prog 125 Rj:=bU cQ cS (cH:=cH) (np:=2) (an:=[(5,{j:=some {vs:=[(5,.x (.i .i64))]},e:=[(.ret,{vs:=[(4,.x .b)]}),(.exit 0,{})]})]) .nil (by kernel_rfl) (by kernel_rfl)
def kG(l_1:Sl bD)(i8:Int)(s4:Sl Int):(Int×Sl Int)->Option ((Int×Sl Int)⊕(Sl Int)):=fun(i12,s13)=>
 bif decide (i12<(s4.l.length:Int))then((((df i12 s4.l.length).bind fun n14=>
 (mA l_1 (gt s4.l n14) i8).bind fun r15=>
 bif r15 then((rm s13 i8).bind fun r16=>
 some (!r16))else
 (some false):Option Bool).bind fun b17=>
 bif b17 then((fF (s13.l++[i8])).bind fun l18=>
 some (Sl.mk l18))else
 (some s13):Option (Sl Int)).bind fun s19=>
 some (.inl (wr .i64 (i12+1),s19)))else
 (some (.inr s13))
def l5(n_0:Int)(l_1:Sl bD)(s4:Sl Int):(Int×Sl Int)->Option ((Int×Sl Int)⊕(Sl Int)):=fun(i8,s9)=>
 bif decide (i8<n_0)then((bc (kG l_1 i8 s4) (0,s9)).bind fun s20=>
 some (.inl (wr .i64 (i8+1),s20)))else
 (some (.inr s9))
def lZ(n_0:Int)(l_1:Sl bD)(to_3:Int):(Int×Sl Int)->Option ((Int×Sl Int)⊕(Int⊕Unit)):=fun(i3,s4)=>
 bif decide (i3<=n_0)then((bc (l5 n_0 l_1 s4) (0,Sl.nil)).bind fun s21=>
 (rm s21 to_3).bind fun r22=>
 bif r22 then(some (.inr (.inl i3)))else
 (some (.inl (wr .i64 (i3+1),s21))))else
 (some (.inr (.inr ())))
def nT(n_0:Int)(l_1:Sl bD)(from_2:Int)(to_3:Int):Option Int:=
 (bc (lZ n_0 l_1 to_3) (1,(Sl.mk [from_2]))).bind fun
 |.inl i23=>(some i23)
 |.inr _=>(some 0)
def Ri:j8:=⟨[(false,.x (.i .i64)),(false,.x (.sl y2)),(false,.x (.i .i64)),(false,.x (.i .i64))],[([.x (.i .i64)],[])],true,[],fun p=>match p with|(n_0,l_1,from_2,to_3)=>nT n_0 l_1 from_2 to_3⟩
theorem SG:cJ prog 92 Ri:=bU cQ cS (cH:=cH) (np:=4) (an:=[(7,{j:=some {vs:=[(9,.so 0),(10,.x (.i .i64))],os:=[.ar (.i .i64)],kl:=[0]},e:=[(.ret,{vs:=[(8,.x (.i .i64))],kl:=[0]}),(.exit 0,{kl:=[0]})]}),(17,{j:=some {vs:=[(11,.so 0),(12,.x (.i .i64))],os:=[.ar (.i .i64)]},e:=[(.exit 2,{vs:=[(11,.so 0)],os:=[.ar (.i .i64)]})]}),(24,{j:=some {vs:=[(11,.so 0),(13,.x (.i .i64))],os:=[.ar (.i .i64)],kl:=[2]},e:=[(.exit 4,{vs:=[(11,.so 0)],os:=[.ar (.i .i64)],kl:=[2]})]}),(28,{e:=[(.normal,{vs:=[(11,.so 0)],os:=[.ar (.i .i64)],kl:=[3]})]}),(30,{j:=some {vs:=[(44,.x .b)]}})]) (.cons Qq (.cons SH .nil)) (by kernel_rfl) (by kernel_rfl)
def kH(n_0:Int)(l_1:Sl bD)(i7:Int)(i3:Int)(s8:Sl Int):(Int×Int)->Option ((Int×Int)⊕Int):=fun(i11,i12)=>
 bif decide (i12>=0)then((((df (wr .i64 ((s8.l.length:Int)-1)) s8.l.length).bind fun n13=>
 (mA l_1 (gt s8.l n13) i12).bind fun r14=>
 bif r14 then((nT n_0 l_1 i12 i3).bind fun r15=>
 some (r15==(wr .i64 (i7-1))))else
 (some false):Option Bool).bind fun b16=>
 bif b16 then(some i12)else
 (some i11):Option Int).bind fun i17=>
 some (.inl (i17,wr .i64 (i12-1))))else
 (some (.inr i11))
def l_(n_0:Int)(l_1:Sl bD)(i3:Int):(Int×Sl Int)->Option ((Int×Sl Int)⊕(Sl Int)):=fun(i7,s8)=>
 bif decide (i7>1)then((bc (kH n_0 l_1 i7 i3 s8) ((-1),wr .i64 (n_0-1))).bind fun i18=>
 (fF (s8.l++[i18])).bind fun l19=>
 some (.inl (wr .i64 (i7-1),(Sl.mk l19))))else
 (some (.inr s8))
def l8(n_0:Int)(l_1:Sl bD):Int->Option (Int⊕((Sl Int)⊕Unit)):=fun i3=>
 bif decide (i3<n_0)then((nT n_0 l_1 i3 i3).bind fun r4=>
 bif(r4==0)then(some (.inl (wr .i64 (i3+1))))else
 ((bc (l_ n_0 l_1 i3) (r4,(Sl.mk [i3]))).bind fun s20=>
 some (.inr (.inl s20))))else
 (some (.inr (.inr ())))
def nU(n_0:Int)(l_1:Sl bD):Option (Sl Int):=
 (qF n_0 l_1).bind fun r1=>
 bif(!r1)then(some Sl.nil)else
 ((bc (l8 n_0 l_1) 0).bind fun
 |.inl s21=>(some s21)
 |.inr _=>(some Sl.nil))
def Rh:j8:=⟨[(false,.x (.i .i64)),(false,.x (.sl y2))],[([.x (.sl (.i .i64))],[])],false,[],fun p=>match p with|(n_0,l_1)=>nU n_0 l_1⟩
theorem SF:cJ prog 68 Rh:=bU cQ cS (cH:=cH) (np:=2) (an:=[(10,{j:=some {vs:=[(5,.x (.i .i64))]},e:=[(.ret,{vs:=[(4,.so 0)],os:=[.ar (.i .i64)]}),(.exit 0,{})]}),(23,{j:=some {vs:=[(6,.x (.i .i64)),(7,.so 0)],os:=[.ar (.i .i64)],kl:=[2]},e:=[(.exit 2,{vs:=[(7,.so 0)],os:=[.ar (.i .i64)],kl:=[2]})]}),(34,{j:=some {vs:=[(8,.x (.i .i64)),(9,.x (.i .i64))]},e:=[(.exit 4,{vs:=[(8,.x (.i .i64))]})]}),(38,{e:=[(.normal,{vs:=[(8,.x (.i .i64))]})]}),(40,{j:=some {vs:=[(55,.x .b)]}})]) (.cons SI (.cons SG (.cons Qq .nil))) (by kernel_rfl) (by kernel_rfl)
def kE(t_0:af)(h_4:Int)(r9:Sl Int)(i7:Int):(Bool×Int×Sl bD)->Option ((Bool×Int×Sl bD)⊕(Bool×Sl bD)):=fun(b13,i14,s15)=>
 bif decide (i14<(r9.l.length:Int))then(((df i14 r9.l.length).bind fun n16=>
 (pY t_0 i7 (gt r9.l n16)).bind fun(r17,r18,r19,r20)=>
 (bif r20 then((fF (s15.l++[(⟨i7,r17⟩:bD)])).bind fun l21=>
 some (Sl.mk l21))else
 (some s15):Option (Sl bD)).bind fun s22=>
 (bif(!r20)then((df h_4 ((af.aN t_0).l).length).bind fun n23=>
 bif((cW.At (gt ((af.aN t_0).l) n23)) !=i7)then(some true)else
 ((df h_4 ((af.aN t_0).l).length).bind fun n24=>
 (df i14 r9.l.length).bind fun n25=>
 some ((cW.h_ (gt ((af.aN t_0).l) n24)) !=(gt r9.l n25))))else
 (some false):Option Bool).bind fun b26=>
 bif b26 then(some (true,s22))else
 (some (b13,s22)):Option (Bool×Sl bD)).bind fun(b27,s28)=>
 some (.inl (b27,wr .i64 (i14+1),s28)))else
 (some (.inr (b13,s15)))
def lY(t_0:af)(old_1:Sl (Sl Int))(p_2:am)(k_3:Int)(h_4:Int):(Bool×Int×Sl bD)->Option ((Bool×Int×Sl bD)⊕(Bool×Sl bD)):=fun(b6,i7,s8)=>
 bif decide (i7<(af.aU t_0))then((qE old_1 p_2 k_3 i7 h_4).bind fun r9=>
 (bc (kE t_0 h_4 r9 i7) (b6,0,s8)).bind fun(b29,s30)=>
 some (.inl (b29,wr .i64 (i7+1),s30)))else
 (some (.inr (b6,s8)))
def sd(t_0:af)(old_1:Sl (Sl Int))(p_2:am)(k_3:Int)(h_4:Int):Option (Sl aL):=
 (bc (lY t_0 old_1 p_2 k_3 h_4) (false,0,Sl.nil)).bind fun(b31,s32)=>
 (bif b31 then((fF ([]++[(⟨5,k_3,h_4⟩:aL)])).bind fun l33=>
 some (Sl.mk l33))else
 (some Sl.nil):Option (Sl aL)).bind fun s34=>
 ((nU (af.aU t_0) s32).bind fun r35=>
 bif decide ((r35.l.length:Int)>0)then((fF (s34.l++[(⟨6,k_3,h_4⟩:aL)])).bind fun l36=>
 some (Sl.mk l36))else
 (some s34):Option (Sl aL)).bind fun s37=>
 some s37
def Rf:j8:=⟨[(false,.x y0),(false,.x (.sl (.sl (.i .i64)))),(false,.x y3),(false,.x (.i .i64)),(false,.x (.i .i64))],[([.x (.sl y7)],[])],false,[],fun p=>match p with|(t_0,old_1,p_2,k_3,h_4)=>sd t_0 old_1 p_2 k_3 h_4⟩
theorem SE:cJ prog 33 Rf:=bU cQ cS (cH:=cH) (np:=5) (an:=[(11,{j:=some {vs:=[(11,.so 0),(13,.x .b),(14,.x (.i .i64))],os:=[.ar y2]},e:=[(.exit 0,{vs:=[(11,.so 0),(13,.x .b)],os:=[.ar y2]})]}),(20,{j:=some {vs:=[(11,.so 0),(13,.x .b),(16,.x (.i .i64))],os:=[.ar y2],kl:=[2]},e:=[(.exit 2,{vs:=[(11,.so 0),(13,.x .b)],os:=[.ar y2],kl:=[2]})]}),(24,{e:=[(.normal,{vs:=[(11,.so 0),(13,.x .b)],os:=[.ar y2],kl:=[4]})]}),(27,{e:=[(.normal,{vs:=[(11,.so 0)],os:=[.ar y2],kl:=[4]})]}),(32,{j:=some {vs:=[(82,.x .b)]}}),(36,{e:=[(.normal,{vs:=[(12,.so 0)],os:=[.ar y7]})]}),(40,{e:=[(.normal,{vs:=[(12,.so 0)],os:=[.ar y7],kl:=[2,3]})]})]) (.cons SJ (.cons Qr (.cons SF .nil))) (by kernel_rfl) (by kernel_rfl)
def lh(t_0:af)(old_1:Sl (Sl Int))(p_3:am)(i9:Int):(Int×Sl aL)->Option ((Int×Sl aL)⊕(Sl aL)):=fun(i13,s14)=>
 bif decide (i13<(((af.aN t_0).l).length:Int))then((sd t_0 old_1 p_3 i9 i13).bind fun r15=>
 (fF (s14.l++r15.l)).bind fun l16=>
 some (.inl (wr .i64 (i13+1),(rI s14 r15.l l16))))else
 (some (.inr s14))
def lg(t_0:af)(old_1:Sl (Sl Int))(p_3:am):(Int×Sl aL)->Option ((Int×Sl aL)⊕(Sl aL)):=fun(i9,s10)=>
 bif decide (i9<(((am.az p_3).l).length:Int))then((bc (lh t_0 old_1 p_3 i9) (0,s10)).bind fun s17=>
 some (.inl (wr .i64 (i9+1),s17)))else
 (some (.inr s10))
def mL(t_0:af)(old_1:Sl (Sl Int))(now_2:Sl (Sl Int))(p_3:am):Option (Sl aL):=
 ((pX t_0 old_1).bind fun r1=>
 bif(!r1)then(some true)else
 ((pX t_0 now_2).bind fun r2=>
 some (!r2)):Option Bool).bind fun b3=>
 bif b3 then(some (Sl.mk [(⟨1,0,0⟩:aL)]))else
 ((qD t_0 old_1 now_2 p_3).bind fun s4=>
 (oI t_0 p_3).bind fun s5=>
 (fF (s4.l++s5.l)).bind fun l6=>
 (bc (lg t_0 old_1 p_3) (0,(rI s4 s5.l l6))).bind fun s18=>
 some s18)
def Re:j8:=⟨[(false,.x y0),(false,.x (.sl (.sl (.i .i64)))),(false,.x (.sl (.sl (.i .i64)))),(false,.x y3)],[([.x (.sl y7)],[])],false,[],fun p=>match p with|(t_0,old_1,now_2,p_3)=>mL t_0 old_1 now_2 p_3⟩
theorem SD:cJ prog 13 Re:=bU cQ cS (cH:=cH) (np:=4) (an:=[(4,{j:=some {vs:=[(21,.x .b)]}}),(14,{j:=some {vs:=[(9,.so 0),(10,.x (.i .i64))],os:=[.ar y7],kl:=[4]},e:=[(.exit 0,{vs:=[(9,.so 0)],os:=[.ar y7],kl:=[4]})]}),(21,{j:=some {vs:=[(9,.so 0),(11,.x (.i .i64))],os:=[.ar y7],kl:=[5]},e:=[(.exit 2,{vs:=[(9,.so 0)],os:=[.ar y7],kl:=[5]})]})]) (.cons SU (.cons SP (.cons SL (.cons SE .nil)))) (by kernel_rfl) (by kernel_rfl)
def oz(a_0:Sl ak)(b_1:Sl aL):Int->Option (Int⊕(Bool⊕Unit)):=fun i2=>
 bif decide (i2<(a_0.l.length:Int))then(((df i2 a_0.l.length).bind fun n3=>
 (df i2 b_1.l.length).bind fun n4=>
 bif((ak.L1 (gt a_0.l n3)) !=(aL.L1 (gt b_1.l n4)))then(some true)else
 ((df i2 a_0.l.length).bind fun n5=>
 (df i2 b_1.l.length).bind fun n6=>
 bif((ak.K (gt a_0.l n5)) !=(aL.K (gt b_1.l n6)))then(some true)else
 ((df i2 a_0.l.length).bind fun n7=>
 (df i2 b_1.l.length).bind fun n8=>
 some ((ak.H (gt a_0.l n7)) !=(aL.H (gt b_1.l n8))))):Option Bool).bind fun b9=>
 bif b9 then(some (.inr (.inl false)))else
 (some (.inl (wr .i64 (i2+1)))))else
 (some (.inr (.inr ())))
def sn(a_0:Sl ak)(b_1:Sl aL):Option Bool:=
 bif((a_0.l.length:Int) !=(b_1.l.length:Int))then(some false)else
 ((bc (oz a_0 b_1) 0).bind fun
 |.inl b10=>(some b10)
 |.inr _=>(some true))
def Rd:j8:=⟨[(false,.x (.sl y7)),(false,.x (.sl y7))],[([.x .b],[])],true,[],fun p=>match p with|(a_0,b_1)=>sn a_0 b_1⟩
theorem SA:cJ prog 10 Rd:=bU cQ cS (cH:=cH) (np:=2) (an:=[(10,{j:=some {vs:=[(5,.x (.i .i64))]},e:=[(.ret,{vs:=[(4,.x .b)]}),(.exit 0,{})]}),(16,{j:=some {vs:=[(53,.x .b)]}})]) .nil (by kernel_rfl) (by kernel_rfl)
def p_(kind_0:Int):Option ByteArray:=
 bif((decide (kind_0<1))||(decide (kind_0>6)))then(some (⟨#[63]⟩:ByteArray))else
 ((df kind_0 [(⟨#[63]⟩:ByteArray),(⟨#[119,114,111,110,103]⟩:ByteArray),(⟨#[109,105,115,115,105,110,103]⟩:ByteArray),(⟨#[101,120,116,114,97]⟩:ByteArray),(⟨#[99,108,111,115,101]⟩:ByteArray),(⟨#[104,111,108,101]⟩:ByteArray),(⟨#[108,111,111,112]⟩:ByteArray)].length).bind fun n1=>
 some (gt [(⟨#[63]⟩:ByteArray),(⟨#[119,114,111,110,103]⟩:ByteArray),(⟨#[109,105,115,115,105,110,103]⟩:ByteArray),(⟨#[101,120,116,114,97]⟩:ByteArray),(⟨#[99,108,111,115,101]⟩:ByteArray),(⟨#[104,111,108,101]⟩:ByteArray),(⟨#[108,111,111,112]⟩:ByteArray)] n1))
def Rc:j8:=⟨[(false,.x (.i .i64))],[([.x .s],[])],true,[],fun p=>match p with|kind_0=>p_ kind_0⟩
theorem Sz:cJ prog 15 Rc:=bU cQ cS (cH:=cH) (np:=1) (an:=[]) .nil (by kernel_rfl) (by kernel_rfl)
def nX(t_0:af)(old_1:Sl (Sl Int))(now_2:Sl (Sl Int))(p_3:am)(kind_4:Int):Option Bool:=
 (oR t_0 old_1 now_2 p_3).bind fun r1=>
 bif(!r1)then((lm).bind fun r2=>
 some r2)else
 (((sj p_3).bind fun r3=>
 (iG t_0 old_1 now_2 r3).bind fun r4=>
 (mL t_0 old_1 now_2 p_3).bind fun r5=>
 (sn r4 r5).bind fun r6=>
 bif r6 then((mC kind_4).bind fun r7=>
 (p_ kind_4).bind fun r8=>
 bif(r7.toList==r8.toList)then((lm).bind fun r9=>
 some r9)else
 (some false))else
 (some false):Option Bool).bind fun b10=>
 some b10)
def Rb:j8:=⟨[(false,.x y0),(false,.x (.sl (.sl (.i .i64)))),(false,.x (.sl (.sl (.i .i64)))),(false,.x y3),(false,.x (.i .i64))],[([.x .b],[])],true,[],fun p=>match p with|(t_0,old_1,now_2,p_3,kind_4)=>nX t_0 old_1 now_2 p_3 kind_4⟩
theorem Sy:cJ prog 3 Rb:=bU cQ cS (cH:=cH) (np:=5) (an:=[(8,{j:=some {vs:=[(10,.x .b)]}})]) (.cons Uc (.cons S6 (.cons S4 (.cons Qu (.cons SD (.cons SA (.cons Qt (.cons Sz .nil)))))))) (by kernel_rfl) (by kernel_rfl)
end Go.Proofs.YthcplpfiidlinaaDoor.J
