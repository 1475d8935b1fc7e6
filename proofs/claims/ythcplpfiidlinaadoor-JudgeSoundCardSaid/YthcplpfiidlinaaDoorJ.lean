/- What functions of the program compute, and that the model's run computes it. Conditions: as stated. -/
import Derived.Test.YthcplpfiidlinaaDoorKm
import Derived.Test.YthcplpfiidlinaaDoorChecked
import Derived.KernelRfl
open Go.Ev Go
noncomputable section
open Option.some renaming inj->aa
namespace Go.Proofs.YthcplpfiidlinaaDoor.J
abbrev prog:Program:=Tryd.prog
theorem eB:prog.follows .mixedOrders=true:=by kernel_rfl
def KX:Arr 32 Int:=⟨[0,1,28,2,29,14,24,3,30,22,20,15,25,17,4,8,31,27,13,23,21,19,16,7,26,12,18,6,11,5,10,9],rfl⟩
theorem eD:lu:=LJ (v:=.pt (.ar 32 (.i .u8)) KX) (fun g w h=>by
 unfold LK at h;split at h
 .rename_i e;exact⟨e,(aa h).symm⟩
 .cases h) rfl (fun h n=>⟨cf (dJ rfl ⟨rfl,rfl⟩),trivial,rfl⟩)
def db:Aa:=fun f=>if f=3 then(true,[])else if f=4 then(true,[])else if f=8 then(true,[])else if f=9 then(true,[])else if f=10 then(true,[])else if f=14 then(true,[])else if f=15 then(true,[])else if f=16 then(true,[])else if f=18 then(true,[])else if f=19 then(true,[])else if f=20 then(true,[])else if f=24 then(true,[])else if f=27 then(false,[true])else if f=28 then(false,[true])else if f=29 then(false,[true])else if f=34 then(true,[])else if f=35 then(true,[])else if f=37 then(true,[])else if f=38 then(true,[])else if f=39 then(true,[])else if f=47 then(true,[])else if f=49 then(true,[])else if f=50 then(true,[])else if f=52 then(true,[])else if f=54 then(true,[])else if f=56 then(true,[])else if f=57 then(false,[true,false,false,false,false])else if f=58 then(true,[])else if f=59 then(true,[])else if f=61 then(true,[])else if f=62 then(false,[true,false,false,false])else if f=63 then(true,[])else if f=64 then(true,[])else if f=65 then(true,[])else if f=66 then(true,[])else if f=69 then(true,[])else if f=70 then(true,[])else if f=71 then(true,[])else if f=72 then(true,[])else if f=74 then(true,[])else if f=75 then(true,[])else if f=76 then(true,[])else if f=85 then(true,[])else if f=87 then(true,[])else if f=88 then(true,[])else if f=89 then(true,[])else if f=90 then(true,[])else if f=91 then(true,[])else if f=92 then(true,[])else if f=93 then(true,[])else if f=95 then(true,[])else if f=96 then(true,[])else if f=97 then(true,[])else if f=98 then(true,[])else if f=99 then(true,[])else if f=100 then(true,[])else if f=101 then(true,[])else if f=124 then(true,[])else if f=125 then(true,[])else(false,[])
def Qw:Aa:=fun f=>if f=1000000000 then(true,[])else db f
@[reducible] def bA:Type:=Int×Int×Int×Int×Int×Int
@[reducible] def bA.A (x:bA):Int:=x.1
@[reducible] def bA.mD (x:bA):Int:=x.2.1
@[reducible] def bA.B (x:bA):Int:=x.2.2.1
@[reducible] def bA.mC (x:bA):Int:=x.2.2.2.1
@[reducible] def bA.wa (x:bA):Int:=x.2.2.2.2.1
@[reducible] def bA.pk (x:bA):Int:=x.2.2.2.2.2
@[reducible] def fH:Type:=Int×Int
@[reducible] def fH.At (x:fH):Int:=x.1
@[reducible] def fH.mq (x:fH):Int:=x.2
@[reducible] def ah:Type:=Int×Sl bA×Sl fH
@[reducible] def ah.bh (x:ah):Int:=x.1
@[reducible] def ah.bT (x:ah):Sl bA:=x.2.1
@[reducible] def ah.a_ (x:ah):Sl fH:=x.2.2
@[reducible] def cn:Type:=Int×Int×Int×Int
@[reducible] def cn.Sw (x:cn):Int:=x.1
@[reducible] def cn.mr (x:cn):Int:=x.2.1
@[reducible] def cn.mq (x:cn):Int:=x.2.2.1
@[reducible] def cn.yt (x:cn):Int:=x.2.2.2
@[reducible] def eK:Type:=Int×Int×Sl Int
@[reducible] def eK.No (x:eK):Int:=x.1
@[reducible] def eK.At (x:eK):Int:=x.2.1
@[reducible] def eK.MS (x:eK):Sl Int:=x.2.2
@[reducible] def aE:Type:=Sl cn×Sl eK×Int×Int×Int×Int
@[reducible] def aE.cZ (x:aE):Sl cn:=x.1
@[reducible] def aE.bc (x:aE):Sl eK:=x.2.1
@[reducible] def aE.tZ (x:aE):Int:=x.2.2.1
@[reducible] def aE.Dd (x:aE):Int:=x.2.2.2.1
@[reducible] def aE.oz (x:aE):Int:=x.2.2.2.2.1
@[reducible] def aE.To (x:aE):Int:=x.2.2.2.2.2
@[reducible] def y1:Ty:=.st (.pr (.i .i64) (.pr (.i .i64) (.pr (.i .i64) (.pr (.i .i64) (.pr (.i .i64) (.i .i64))))))
@[reducible] def y2:Ty:=.st (.pr (.i .i64) (.i .i64))
@[reducible] def y0:Ty:=.st (.pr (.i .i64) (.pr (.sl y1) (.sl y2)))
@[reducible] def y4:Ty:=.st (.pr (.i .i64) (.pr (.i .i64) (.pr (.i .i64) (.i .i64))))
@[reducible] def y5:Ty:=.st (.pr (.i .i64) (.pr (.i .i64) (.sl (.i .i64))))
@[reducible] def y3:Ty:=.st (.pr (.sl y4) (.pr (.sl y5) (.pr (.i .i64) (.pr (.i .i64) (.pr (.i .i64) (.i .i64))))))
@[reducible] def af:Type:=Int×Int×Int×Int
@[reducible] def af.Sw (x:af):Int:=x.1
@[reducible] def af.mr (x:af):Int:=x.2.1
@[reducible] def af.mq (x:af):Int:=x.2.2.1
@[reducible] def af.yt (x:af):Int:=x.2.2.2
@[reducible] def aj:Type:=Int×Int×Sl Int
@[reducible] def aj.No (x:aj):Int:=x.1
@[reducible] def aj.At (x:aj):Int:=x.2.1
@[reducible] def aj.MS (x:aj):Sl Int:=x.2.2
@[reducible] def bn:Type:=Sl af×Sl aj×Int×Int×Int×Int
@[reducible] def bn.cZ (x:bn):Sl af:=x.1
@[reducible] def bn.bc (x:bn):Sl aj:=x.2.1
@[reducible] def bn.tZ (x:bn):Int:=x.2.2.1
@[reducible] def bn.Dd (x:bn):Int:=x.2.2.2.1
@[reducible] def bn.oz (x:bn):Int:=x.2.2.2.2.1
@[reducible] def bn.To (x:bn):Int:=x.2.2.2.2.2
@[reducible] def bo:Type:=Int×Int
@[reducible] def bo.sw (x:bo):Int:=x.1
@[reducible] def bo.yM (x:bo):Int:=x.2
@[reducible] def ap:Type:=Int×Int×Int
@[reducible] def bw:Type:=ah×Sl (Sl Int)×Sl (Sl Int)×bn×Sl ap
@[reducible] def bw.t (x:bw):ah:=x.1
@[reducible] def bw.p (x:bw):bn:=x.2.2.2.1
@[reducible] def y7:Ty:=.st (.pr (.i .i64) (.pr (.i .i64) (.i .i64)))
@[reducible] def y6:Ty:=.st (.pr y0 (.pr (.sl (.sl (.i .i64))) (.pr (.sl (.sl (.i .i64))) (.pr y3 (.sl y7)))))
@[reducible] def aO:Type:=Int×Int
@[reducible] def aO.oz (x:aO):Int:=x.1
@[reducible] def aO.To (x:aO):Int:=x.2
def l_(r_1:Sl (Sl Int)):Int->Option (Int⊕(Bool⊕Unit)):=fun i2=>
 bif decide (i2<(r_1.l.length:Int))then((e_ i2 r_1.l.length).bind fun n3=>
 bif decide ((((gt r_1.l n3).l).length:Int)>12)then(some (.inr (.inl false)))else
 (some (.inl (wr .i64 (i2+1)))))else
 (some (.inr (.inr ())))
def nu(t_0:ah)(r_1:Sl (Sl Int)):Option Bool:=
 (br (l_ r_1) 0).bind fun
 |.inl b4=>(some b4)
 |.inr _=>(some (((decide ((((ah.bT t_0).l).length:Int)<=30))&&(decide ((((ah.a_ t_0).l).length:Int)<=12)))&&(decide ((r_1.l.length:Int)<=12))))
def Ru:mo:=⟨[(false,.x y0),(false,.x (.sl (.sl (.i .i64))))],[([.x .b],[])],true,[],fun p=>match p with|(t_0,r_1)=>nu t_0 r_1⟩
theorem R3:dL prog 19 Ru:=cT eB eD (db:=db) (np:=2) (an:=[(5,{j:=some {vs:=[(5,.x (.i .i64))]},e:=[(.ret,{vs:=[(4,.x .b)]}),(.exit 0,{})]})]) .nil (by kernel_rfl) (by kernel_rfl)
def l8(p_3:aE):Int->Option (Int⊕(Bool⊕Unit)):=fun i2=>
 bif decide (i2<(((aE.bc p_3).l).length:Int))then((e_ i2 ((aE.bc p_3).l).length).bind fun n3=>
 bif decide ((((eK.MS (gt ((aE.bc p_3).l) n3)).l).length:Int)>20)then(some (.inr (.inl false)))else
 (some (.inl (wr .i64 (i2+1)))))else
 (some (.inr (.inr ())))
def nr(t_0:ah)(old_1:Sl (Sl Int))(now_2:Sl (Sl Int))(p_3:aE):Option Bool:=
 (br (l8 p_3) 0).bind fun
 |.inl b4=>(some b4)
 |.inr _=>(((nu t_0 old_1).bind fun r5=>
 bif r5 then((nu t_0 now_2).bind fun r6=>
 some ((r6&&(decide ((((aE.cZ p_3).l).length:Int)<=40)))&&(decide ((((aE.bc p_3).l).length:Int)<=12))))else
 (some false):Option Bool).bind fun b7=>
 some b7)
def RQ:mo:=⟨[(false,.x y0),(false,.x (.sl (.sl (.i .i64)))),(false,.x (.sl (.sl (.i .i64)))),(false,.x y3)],[([.x .b],[])],true,[],fun p=>match p with|(t_0,old_1,now_2,p_3)=>nr t_0 old_1 now_2 p_3⟩
theorem R1:dL prog 8 RQ:=cT eB eD (db:=db) (np:=4) (an:=[(5,{j:=some {vs:=[(9,.x (.i .i64))]},e:=[(.ret,{vs:=[(8,.x .b)]}),(.exit 0,{})]}),(16,{j:=some {vs:=[(8,.x .b)]}})]) (.cons R3 .nil) (by kernel_rfl) (by kernel_rfl)
def kC(t_0:ah):(Int×Sl bo)->Option ((Int×Sl bo)⊕(Sl bo)):=fun(i4,s5)=>
 bif decide (i4<(((ah.bT t_0).l).length:Int))then((e_ i4 ((ah.bT t_0).l).length).bind fun n6=>
 (h_ (s5.l++[(⟨bA.A (gt ((ah.bT t_0).l) n6),bA.mD (gt ((ah.bT t_0).l) n6)⟩:bo),(⟨bA.B (gt ((ah.bT t_0).l) n6),bA.mC (gt ((ah.bT t_0).l) n6)⟩:bo)])).bind fun l7=>
 some (.inl (wr .i64 (i4+1),(Sl.mk l7))))else
 (some (.inr s5))
def kA(t_0:ah):(Int×Sl bo)->Option ((Int×Sl bo)⊕(Sl bo)):=fun(i11,s12)=>
 bif decide (i11<(((ah.a_ t_0).l).length:Int))then((e_ i11 ((ah.a_ t_0).l).length).bind fun n13=>
 (h_ (s12.l++[gt ((ah.a_ t_0).l) n13])).bind fun l14=>
 some (.inl (wr .i64 (i11+1),(Sl.mk l14))))else
 (some (.inr s12))
def lK(t_0:ah):Option (Sl bo):=
 (br (kC t_0) (0,Sl.nil)).bind fun s8=>
 (br (kA t_0) (0,s8)).bind fun s15=>
 some s15
def RP:mo:=⟨[(false,.x y0)],[([.x (.sl y2)],[])],false,[],fun p=>match p with|t_0=>lK t_0⟩
theorem R0:dL prog 94 RP:=cT eB eD (db:=db) (np:=1) (an:=[(7,{j:=some {vs:=[(3,.so 0),(11,.x (.i .i64))],os:=[.ar y2]},e:=[(.exit 0,{vs:=[(3,.so 0)],os:=[.ar y2]})]}),(19,{j:=some {vs:=[(3,.so 0),(32,.x (.i .i64))],os:=[.ar y2],kl:=[1]},e:=[(.exit 2,{vs:=[(3,.so 0)],os:=[.ar y2],kl:=[1]})]})]) .nil (by kernel_rfl) (by kernel_rfl)
def lg(t_0:ah):Int->Option (Int⊕(Bool⊕Unit)):=fun i2=>
 bif decide (i2<(((ah.bT t_0).l).length:Int))then((e_ i2 ((ah.bT t_0).l).length).bind fun n3=>
 bif(((((bA.A (gt ((ah.bT t_0).l) n3))==(bA.B (gt ((ah.bT t_0).l) n3)))||(decide ((bA.wa (gt ((ah.bT t_0).l) n3))<1)))||(decide ((bA.wa (gt ((ah.bT t_0).l) n3))>(bA.pk (gt ((ah.bT t_0).l) n3)))))||(decide ((bA.pk (gt ((ah.bT t_0).l) n3))>1000)))then(some (.inr (.inl false)))else
 (some (.inl (wr .i64 (i2+1)))))else
 (some (.inr (.inr ())))
def ia(t_0:ah)(r5:Sl bo):(Int×Mp bo Int)->Option ((Int×Mp bo Int)⊕(Bool⊕Unit)):=fun(i9,m10)=>
 bif decide (i9<(r5.l.length:Int))then((e_ i9 r5.l.length).bind fun n11=>
 (uo ((li m10 0 (gt r5.l n11)).1) ((li m10 0 (gt r5.l n11)).2.2) (wr .i64 ((nX m10 0 (gt r5.l n11))+1))).bind fun m12=>
 bif(((((decide ((bo.sw (gt r5.l n11))<0))||(decide ((bo.sw (gt r5.l n11))>=(ah.bh t_0))))||(decide ((bo.yM (gt r5.l n11))<0)))||(decide ((bo.yM (gt r5.l n11))>=8)))||(decide ((nX m12 0 (gt r5.l n11))>1)))then(some (.inr (.inl false)))else
 (some (.inl (wr .i64 (i9+1),m12))))else
 (some (.inr (.inr ())))
def mG(t_0:ah):Option Bool:=
 bif((((decide ((ah.bh t_0)<1))||(decide ((ah.bh t_0)>8)))||(decide ((((ah.bT t_0).l).length:Int)>24)))||(decide ((((ah.a_ t_0).l).length:Int)>8)))then(some false)else
 ((br (lg t_0) 0).bind fun
 |.inl b4=>(some b4)
 |.inr _=>((lK t_0).bind fun r5=>
 (br (ia t_0 r5) (0,(Mp.none:Mp bo Int))).bind fun
 |.inl b13=>(some b13)
 |.inr _=>(some true)))
def RN:mo:=⟨[(false,.x y0)],[([.x .b],[])],true,[],fun p=>match p with|t_0=>mG t_0⟩
theorem RZ:dL prog 69 RN:=cT eB eD (db:=db) (np:=1) (an:=[(10,{j:=some {vs:=[(31,.x (.i .i64))]},e:=[(.ret,{vs:=[(2,.x .b)]}),(.exit 0,{})]}),(27,{j:=some {vs:=[(5,.om 0),(62,.x (.i .i64))],os:=[.mp y2 (.i .i64)],kl:=[1]},e:=[(.ret,{vs:=[(2,.x .b)],kl:=[1]}),(.exit 2,{kl:=[1]})]})]) (.cons R0 .nil) (by kernel_rfl) (by kernel_rfl)
def pK(p_0:Int):Option Bool:=some ((decide (p_0<0))||(decide (p_0>=8)))
def RM:mo:=⟨[(false,.x (.i .i64))],[([.x .b],[])],true,[],fun p=>match p with|p_0=>pK p_0⟩
theorem RY:dL prog 71 RM:=cT eB eD (db:=db) (np:=1) (an:=[]) .nil (by kernel_rfl) (by kernel_rfl)
def ct(s_0:Sl Int):Int->Option (Int⊕(Int⊕Unit)):=fun i2=>
 bif decide (i2<(s_0.l.length:Int))then((e_ i2 s_0.l.length).bind fun n3=>
 (pK (gt s_0.l n3)).bind fun r4=>
 bif r4 then(some (.inr (.inl i2)))else
 (some (.inl (wr .i64 (i2+1)))))else
 (some (.inr (.inr ())))
def cH(s_0:Sl Int):Option Int:=
 (br (ct s_0) 0).bind fun
 |.inl i5=>(some i5)
 |.inr _=>(some (-1))
def RL:mo:=⟨[(false,.x (.sl (.i .i64))),(false,.fn 71 .ni)],[([.x (.i .i64)],[])],true,[],fun p=>match p with|s_0=>cH s_0⟩
theorem RX:dL prog 95 RL:=cT eB eD (db:=db) (np:=2) (an:=[(5,{j:=some {vs:=[(8,.x (.i .i64))]},e:=[(.ret,{vs:=[(4,.x (.i .i64))]}),(.exit 0,{})]})]) (.cons RY .nil) (by kernel_rfl) (by kernel_rfl)
def bS(s_0:Sl Int):Option Bool:=
 (cH s_0).bind fun r1=>
 some (decide (r1>=0))
def RK:mo:=⟨[(false,.x (.sl (.i .i64))),(false,.fn 71 .ni)],[([.x .b],[])],true,[],fun p=>match p with|s_0=>bS s_0⟩
theorem RW:dL prog 70 RK:=cT eB eD (db:=db) (np:=2) (an:=[]) (.cons RX .nil) (by kernel_rfl) (by kernel_rfl)
def jz(t_0:ah)(r_1:Sl (Sl Int)):Int->Option (Int⊕(Bool⊕Unit)):=fun i3=>
 bif decide (i3<(r_1.l.length:Int))then((e_ i3 r_1.l.length).bind fun n4=>
 (bif((((gt r_1.l n4).l).length:Int) !=(((ah.a_ t_0).l).length:Int))then(some true)else
 ((bS (gt r_1.l n4)).bind fun r5=>
 some r5):Option Bool).bind fun b6=>
 bif b6 then(some (.inr (.inl false)))else
 (some (.inl (wr .i64 (i3+1)))))else
 (some (.inr (.inr ())))
def iV(t_0:ah)(r_1:Sl (Sl Int)):Option Bool:=
 (mG t_0).bind fun r1=>
 bif((!r1)||((r_1.l.length:Int) !=(ah.bh t_0)))then(some false)else
 ((br (jz t_0 r_1) 0).bind fun
 |.inl b7=>(some b7)
 |.inr _=>(some true))
def RJ:mo:=⟨[(false,.x y0),(false,.x (.sl (.sl (.i .i64))))],[([.x .b],[])],true,[],fun p=>match p with|(t_0,r_1)=>iV t_0 r_1⟩
theorem QI:dL prog 34 RJ:=cT eB eD (db:=db) (np:=2) (an:=[(10,{j:=some {vs:=[(19,.x (.i .i64))]},e:=[(.ret,{vs:=[(4,.x .b)]}),(.exit 0,{})]}),(18,{j:=some {vs:=[(32,.x .b)]}})]) (.cons RZ (.cons RW .nil)) (by kernel_rfl) (by kernel_rfl)
def lE(r_0:Sl (Sl Int))(sw_1:Int)(h_2:Int):Option (Int×Bool):=
 (bif(((decide (sw_1<0))||(decide (sw_1>=(r_0.l.length:Int))))||(decide (h_2<0)))then(some true)else
 ((e_ sw_1 r_0.l.length).bind fun n1=>
 some (decide (h_2>=(((gt r_0.l n1).l).length:Int)))):Option Bool).bind fun b2=>
 bif b2 then(some (0,false))else
 ((e_ sw_1 r_0.l.length).bind fun n3=>
 (e_ h_2 ((gt r_0.l n3).l).length).bind fun n4=>
 some (gt ((gt r_0.l n3).l) n4,true))
def RI:mo:=⟨[(false,.x (.sl (.sl (.i .i64)))),(false,.x (.i .i64)),(false,.x (.i .i64))],[([.x (.i .i64),.x .b],[])],true,[],fun p=>match p with|(r_0,sw_1,h_2)=>lE r_0 sw_1 h_2⟩
theorem Ry:dL prog 96 RI:=cT eB eD (db:=db) (np:=3) (an:=[(4,{j:=some {vs:=[(28,.x .b)]}})]) .nil (by kernel_rfl) (by kernel_rfl)
def fM(s_0:Sl Int)(v_1:Int):Int->Option (Int⊕(Int⊕Unit)):=fun i2=>
 bif decide (i2<(s_0.l.length:Int))then((e_ i2 s_0.l.length).bind fun n3=>
 bif(v_1==(gt s_0.l n3))then(some (.inr (.inl i2)))else
 (some (.inl (wr .i64 (i2+1)))))else
 (some (.inr (.inr ())))
def gI(s_0:Sl Int)(v_1:Int):Option Int:=
 (br (fM s_0 v_1) 0).bind fun
 |.inl i4=>(some i4)
 |.inr _=>(some (-1))
def RH:mo:=⟨[(false,.x (.sl (.i .i64))),(false,.x (.i .i64))],[([.x (.i .i64)],[])],true,[],fun p=>match p with|(s_0,v_1)=>gI s_0 v_1⟩
theorem RU:dL prog 72 RH:=cT eB eD (db:=db) (np:=2) (an:=[(5,{j:=some {vs:=[(8,.x (.i .i64))]},e:=[(.ret,{vs:=[(4,.x (.i .i64))]}),(.exit 0,{})]})]) .nil (by kernel_rfl) (by kernel_rfl)
def cL(s_0:Sl Int)(v_1:Int):Option Bool:=
 (gI s_0 v_1).bind fun r1=>
 some (decide (r1>=0))
def Qu:mo:=⟨[(false,.x (.sl (.i .i64))),(false,.x (.i .i64))],[([.x .b],[])],true,[],fun p=>match p with|(s_0,v_1)=>cL s_0 v_1⟩
theorem NA:dL prog 35 Qu:=cT eB eD (db:=db) (np:=2) (an:=[]) (.cons RU .nil) (by kernel_rfl) (by kernel_rfl)
def gU(l_0:Sl Int):Option Bool:=
 (bif decide ((l_0.l.length:Int)>0)then((sO l_0.l 0 (wr .i64 ((l_0.l.length:Int)-1))).bind fun l1=>
 (e_ (wr .i64 ((l_0.l.length:Int)-1)) l_0.l.length).bind fun n2=>
 (cL (l_0.to l1) (gt l_0.l n2)).bind fun r3=>
 some r3)else
 (some false):Option Bool).bind fun b4=>
 some b4
def Qt:mo:=⟨[(false,.x (.sl (.i .i64)))],[([.x .b],[])],true,[],fun p=>match p with|l_0=>gU l_0⟩
theorem Ra:dL prog 97 Qt:=cT eB eD (db:=db) (np:=1) (an:=[(3,{j:=some {vs:=[(2,.x .b)]}})]) (.cons NA .nil) (by kernel_rfl) (by kernel_rfl)
def lY(t_0:ah)(sw_1:Int)(port_2:Int):Int->Option (Int⊕((Int×Int×Int×Bool)⊕Unit)):=fun i2=>
 bif decide (i2<(((ah.bT t_0).l).length:Int))then((e_ i2 ((ah.bT t_0).l).length).bind fun n3=>
 bif decide ((⟨sw_1,port_2⟩:bo)=(⟨bA.A (gt ((ah.bT t_0).l) n3),bA.mD (gt ((ah.bT t_0).l) n3)⟩:bo))then(some (.inr (.inl (bA.B (gt ((ah.bT t_0).l) n3),bA.mC (gt ((ah.bT t_0).l) n3),i2,true))))else
 (bif decide ((⟨sw_1,port_2⟩:bo)=(⟨bA.B (gt ((ah.bT t_0).l) n3),bA.mC (gt ((ah.bT t_0).l) n3)⟩:bo))then(some (.inr (.inl (bA.A (gt ((ah.bT t_0).l) n3),bA.mD (gt ((ah.bT t_0).l) n3),i2,true))))else
 (some (.inl (wr .i64 (i2+1))))))else
 (some (.inr (.inr ())))
def mH(t_0:ah)(sw_1:Int)(port_2:Int):Option (Int×Int×Int×Bool):=
 (br (lY t_0 sw_1 port_2) 0).bind fun
 |.inl (i4,i5,i6,b7)=>(some (i4,i5,i6,b7))
 |.inr _=>(some (0,0,0,false))
def Qs:mo:=⟨[(false,.x y0),(false,.x (.i .i64)),(false,.x (.i .i64))],[([.x (.i .i64),.x (.i .i64),.x (.i .i64),.x .b],[])],true,[],fun p=>match p with|(t_0,sw_1,port_2)=>mH t_0 sw_1 port_2⟩
theorem O9:dL prog 89 Qs:=cT eB eD (db:=db) (np:=3) (an:=[(7,{j:=some {vs:=[(21,.x (.i .i64))]},e:=[(.ret,{vs:=[(6,.x (.i .i64)),(7,.x (.i .i64)),(8,.x (.i .i64)),(9,.x .b)]}),(.exit 0,{})]})]) .nil (by kernel_rfl) (by kernel_rfl)
def mL(t_0:ah)(r_1:Sl (Sl Int))(sw_2:Int)(h_3:Int):Option (Int×Bool):=
 (lE r_1 sw_2 h_3).bind fun(r1,r2)=>
 bif(!r2)then(some (0,false))else
 ((mH t_0 sw_2 r1).bind fun(r3,r4,r5,r6)=>
 some (r3,r6))
def Qr:mo:=⟨[(false,.x y0),(false,.x (.sl (.sl (.i .i64)))),(false,.x (.i .i64)),(false,.x (.i .i64))],[([.x (.i .i64),.x .b],[])],true,[],fun p=>match p with|(t_0,r_1,sw_2,h_3)=>mL t_0 r_1 sw_2 h_3⟩
theorem Q_:dL prog 98 Qr:=cT eB eD (db:=db) (np:=4) (an:=[]) (.cons Ry (.cons O9 .nil)) (by kernel_rfl) (by kernel_rfl)
def dQ(t_0:ah)(r_1:Sl (Sl Int))(h_3:Int):(Sl Int)->Option (Sl Int⊕((Int×Sl Int)⊕Unit)):=fun s6=>
 (gU s6).bind fun r7=>
 bif(!r7)then((e_ (wr .i64 ((s6.l.length:Int)-1)) s6.l.length).bind fun n8=>
 (e_ h_3 ((ah.a_ t_0).l).length).bind fun n9=>
 (e_ (gt s6.l n8) r_1.l.length).bind fun n10=>
 (e_ h_3 ((gt r_1.l n10).l).length).bind fun n11=>
 bif decide ((gt ((ah.a_ t_0).l) n9)=(⟨gt s6.l n8,gt ((gt r_1.l n10).l) n11⟩:fH))then(some (.inr (.inl (0,s6))))else
 ((mL t_0 r_1 (gt s6.l n8) h_3).bind fun(r12,r13)=>
 bif(!r13)then(some (.inr (.inl (13,Sl.nil))))else
 ((h_ (s6.l++[r12])).bind fun l14=>
 some (.inl (Sl.mk l14)))))else
 (some (.inr (.inr ())))
def jc(t_0:ah)(r_1:Sl (Sl Int))(sw_2:Int)(h_3:Int):Option (Sl Int×Int):=
 (lE r_1 sw_2 h_3).bind fun(r1,r2)=>
 (bif(!r2)then(some true)else
 ((iV t_0 r_1).bind fun r3=>
 some (!r3)):Option Bool).bind fun b4=>
 bif b4 then(some (Sl.nil,2))else
 ((br (dQ t_0 r_1 h_3) (Sl.mk [sw_2])).bind fun
 |.inl (i15,s16)=>(some (s16,i15))
 |.inr _=>(some (Sl.nil,12)))
def Qq:mo:=⟨[(false,.x y0),(false,.x (.sl (.sl (.i .i64)))),(false,.x (.i .i64)),(false,.x (.i .i64))],[([.x (.sl (.i .i64)),.x (.i .i64)],[])],false,[],fun p=>match p with|(t_0,r_1,sw_2,h_3)=>jc t_0 r_1 sw_2 h_3⟩
theorem Q9:dL prog 73 Qq:=cT eB eD (db:=db) (np:=4) (an:=[(6,{j:=some {vs:=[(30,.x .b)]}}),(12,{j:=some {vs:=[(12,.so 0)],os:=[.ar (.i .i64)],kl:=[3]},e:=[(.ret,{vs:=[(8,.so 0),(9,.x (.i .i64))],os:=[.ar (.i .i64)],kl:=[3]}),(.exit 0,{kl:=[3]})]})]) (.cons Ry (.cons QI (.cons Ra (.cons Q_ .nil)))) (by kernel_rfl) (by kernel_rfl)
def fW(t_0:ah)(r_1:Sl (Sl Int))(h_2:Int):(Int×Sl Int)->Option ((Int×Sl Int)⊕(Sl Int)):=fun(i5,s6)=>
 bif decide (i5<(r_1.l.length:Int))then((jc t_0 r_1 i5 h_2).bind fun(r7,r8)=>
 (h_ (s6.l++[wr .i64 ((r7.l.length:Int)-1)])).bind fun l9=>
 some (.inl (wr .i64 (i5+1),(Sl.mk l9))))else
 (some (.inr s6))
def lN(t_0:ah)(r_1:Sl (Sl Int))(h_2:Int):Option (Sl Int):=
 (iV t_0 r_1).bind fun r1=>
 bif(((!r1)||(decide (h_2<0)))||(decide (h_2>=(((ah.a_ t_0).l).length:Int))))then(some Sl.nil)else
 ((br (fW t_0 r_1 h_2) (0,Sl.nil)).bind fun s10=>
 some s10)
def Qp:mo:=⟨[(false,.x y0),(false,.x (.sl (.sl (.i .i64)))),(false,.x (.i .i64))],[([.x (.sl (.i .i64))],[])],false,[],fun p=>match p with|(t_0,r_1,h_2)=>lN t_0 r_1 h_2⟩
theorem Q8:dL prog 36 Qp:=cT eB eD (db:=db) (np:=3) (an:=[(12,{j:=some {vs:=[(7,.so 0),(28,.x (.i .i64))],os:=[.ar (.i .i64)]},e:=[(.exit 0,{vs:=[(7,.so 0)],os:=[.ar (.i .i64)]})]})]) (.cons QI (.cons Q9 .nil)) (by kernel_rfl) (by kernel_rfl)
def gD(t_0:ah)(r_1:Sl (Sl Int)):Int->Option (Int⊕(Bool⊕Unit)):=fun i3=>
 bif decide (i3<(((ah.a_ t_0).l).length:Int))then((lN t_0 r_1 i3).bind fun r4=>
 (cL r4 (-1)).bind fun r5=>
 bif r5 then(some (.inr (.inl false)))else
 (some (.inl (wr .i64 (i3+1)))))else
 (some (.inr (.inr ())))
def iC(t_0:ah)(r_1:Sl (Sl Int)):Option Bool:=
 (iV t_0 r_1).bind fun r1=>
 bif(!r1)then(some false)else
 ((br (gD t_0 r_1) 0).bind fun
 |.inl b6=>(some b6)
 |.inr _=>(some true))
def Qo:mo:=⟨[(false,.x y0),(false,.x (.sl (.sl (.i .i64))))],[([.x .b],[])],true,[],fun p=>match p with|(t_0,r_1)=>iC t_0 r_1⟩
theorem O8:dL prog 16 Qo:=cT eB eD (db:=db) (np:=2) (an:=[(10,{j:=some {vs:=[(13,.x (.i .i64))]},e:=[(.ret,{vs:=[(4,.x .b)]}),(.exit 0,{})]})]) (.cons QI (.cons Q8 (.cons NA .nil))) (by kernel_rfl) (by kernel_rfl)
def jS(r_0:aj)(m_1:af):Option Bool:=
 (bif((af.yt m_1)==(aj.No r_0))then((cL (aj.MS r_0) (af.Sw m_1)).bind fun r1=>
 some r1)else
 (some false):Option Bool).bind fun b2=>
 some b2
def Qn:mo:=⟨[(false,.x y5),(false,.x y4)],[([.x .b],[])],true,[],fun p=>match p with|(r_0,m_1)=>jS r_0 m_1⟩
theorem O7:dL prog 61 Qn:=cT eB eD (db:=db) (np:=2) (an:=[(3,{j:=some {vs:=[(4,.x .b)]}})]) (.cons NA .nil) (by kernel_rfl) (by kernel_rfl)
def gX(r_0:aj)(c_1:af):Option Bool:=
 (jS r_0 c_1).bind fun r1=>
 some r1
def Qm:mo:=⟨[(false,.x y5),(false,.pt y4)],[([.x .b],[])],true,[],fun p=>match p with|(r_0,c_1)=>gX r_0 c_1⟩
theorem Q7:dL prog 88 Qm:=cT eB eD (db:=db) (np:=2) (an:=[]) (.cons O7 .nil) (by kernel_rfl) (by kernel_rfl)
def bf(s_0:Sl aj)(f_1_c0:af):Int->Option (Int⊕(Int⊕Unit)):=fun i2=>
 bif decide (i2<(s_0.l.length:Int))then((e_ i2 s_0.l.length).bind fun n3=>
 (gX (gt s_0.l n3) f_1_c0).bind fun r4=>
 bif r4 then(some (.inr (.inl i2)))else
 (some (.inl (wr .i64 (i2+1)))))else
 (some (.inr (.inr ())))
def bC(s_0:Sl aj)(f_1_c0:af):Option Int:=
 (br (bf s_0 f_1_c0) 0).bind fun
 |.inl i5=>(some i5)
 |.inr _=>(some (-1))
def Ql:mo:=⟨[(false,.x (.sl y5)),(false,.fn 88 (.pr (.pt y4) .ni))],[([.x (.i .i64)],[])],true,[],fun p=>match p with|(s_0,f_1_c0)=>bC s_0 f_1_c0⟩
theorem Q6:dL prog 124 Ql:=cT eB eD (db:=db) (np:=2) (an:=[(5,{j:=some {vs:=[(8,.x (.i .i64))]},e:=[(.ret,{vs:=[(4,.x (.i .i64))]}),(.exit 0,{})]})]) (.cons Q7 .nil) (by kernel_rfl) (by kernel_rfl)
def bt(s_0:Sl aj)(f_1_c0:af):Option Bool:=
 (bC s_0 f_1_c0).bind fun r1=>
 some (decide (r1>=0))
def Qk:mo:=⟨[(false,.x (.sl y5)),(false,.fn 88 (.pr (.pt y4) .ni))],[([.x .b],[])],true,[],fun p=>match p with|(s_0,f_1_c0)=>bt s_0 f_1_c0⟩
theorem Q5:dL prog 87 Qk:=cT eB eD (db:=db) (np:=2) (an:=[]) (.cons Q6 .nil) (by kernel_rfl) (by kernel_rfl)
def eT(x_0:bw)(m_1:af):Option Bool:=
 (bt (bn.bc (bw.p x_0)) m_1).bind fun r1=>
 some r1
def Qj:mo:=⟨[(false,.pt y6),(false,.x y4)],[([.x .b],[])],true,[],fun p=>match p with|(x_0,m_1)=>eT x_0 m_1⟩
theorem Q4:dL prog 56 Qj:=cT eB eD (db:=db) (np:=2) (an:=[]) (.cons Q5 .nil) (by kernel_rfl) (by kernel_rfl)
def bG(x_0_t:ah)(x_0_old:Sl (Sl Int))(x_0_now:Sl (Sl Int))(x_0_p_Moves:Sl af)(x_0_p_Rounds:Sl aj)(x_0_p_Miss:Int)(x_0_p_Life:Int)(x_0_p_From:Int)(x_0_p_To:Int)(x_0_out:Sl ap)(is_1:Bool)(kind_2:Int)(k_3:Int)(h_4:Int):Option (ah×Sl (Sl Int)×Sl (Sl Int)×Sl af×Sl aj×Int×Int×Int×Int×Sl ap):=
 bif is_1 then((h_ (x_0_out.l++[(⟨kind_2,k_3,h_4⟩:ap)])).bind fun l1=>
 some (x_0_t,x_0_old,x_0_now,x_0_p_Moves,x_0_p_Rounds,x_0_p_Miss,x_0_p_Life,x_0_p_From,x_0_p_To,(Sl.mk l1)))else
 (some (x_0_t,x_0_old,x_0_now,x_0_p_Moves,x_0_p_Rounds,x_0_p_Miss,x_0_p_Life,x_0_p_From,x_0_p_To,x_0_out))
def Qi:mo:=⟨[(true,.pb y6 (.st (.pr (.x y0) (.pr (.x (.sl (.sl (.i .i64)))) (.pr (.x (.sl (.sl (.i .i64)))) (.pr (.st (.pr (.x (.sl y4)) (.pr (.x (.sl y5)) (.pr (.x (.i .i64)) (.pr (.x (.i .i64)) (.pr (.x (.i .i64)) (.pr (.x (.i .i64)) .ni))))))) (.pr (.os y7) .ni))))))),(false,.x .b),(false,.x (.i .i64)),(false,.x (.i .i64)),(false,.x (.i .i64))],[([],[.pb y6 (.st (.pr (.x y0) (.pr (.x (.sl (.sl (.i .i64)))) (.pr (.x (.sl (.sl (.i .i64)))) (.pr (.st (.pr (.x (.sl y4)) (.pr (.x (.sl y5)) (.pr (.x (.i .i64)) (.pr (.x (.i .i64)) (.pr (.x (.i .i64)) (.pr (.x (.i .i64)) .ni))))))) (.pr (.os y7) .ni))))))])],false,[true,false,false,false,false],fun p=>match p with|(x_0_t,x_0_old,x_0_now,x_0_p_Moves,x_0_p_Rounds,x_0_p_Miss,x_0_p_Life,x_0_p_From,x_0_p_To,x_0_out,is_1,kind_2,k_3,h_4)=>bG x_0_t x_0_old x_0_now x_0_p_Moves x_0_p_Rounds x_0_p_Miss x_0_p_Life x_0_p_From x_0_p_To x_0_out is_1 kind_2 k_3 h_4⟩
theorem Nz:dL prog 57 Qi:=cT eB eD (db:=db) (np:=5) (an:=[]) .nil (by kernel_rfl) (by kernel_rfl)
def fh(x_0:bw)(m_1:af):Option Bool:=some ((((decide ((af.Sw m_1)>=0))&&(decide ((af.Sw m_1)<(ah.bh (bw.t x_0)))))&&(decide ((af.mr m_1)>=0)))&&(decide ((af.mr m_1)<(((ah.a_ (bw.t x_0)).l).length:Int))))
def Qh:mo:=⟨[(false,.pt y6),(false,.x y4)],[([.x .b],[])],true,[],fun p=>match p with|(x_0,m_1)=>fh x_0 m_1⟩
theorem O6:dL prog 58 Qh:=cT eB eD (db:=db) (np:=2) (an:=[]) .nil (by kernel_rfl) (by kernel_rfl)
def dG(i13:Int)(s47:Sl ap)(i43:Int)(i45:Int)(i46:Int)(n48:Nat)(s16:Sl (Sl Int))(n24:Nat)(i37:Int)(x38:ah)(s39:Sl (Sl Int))(s40:Sl (Sl Int))(s41:Sl af)(s42:Sl aj)(i44:Int):(Int×Int)->Option ((Int×Int)⊕Int):=fun(i51,i52)=>
 bif decide (i52<(s41.l.length:Int))then(((e_ i52 s41.l.length).bind fun n53=>
 (bif((((af.Sw (gt s41.l n53))==i13)&&((af.mr (gt s41.l n53))==i37))&&((af.mq (gt s41.l n53))==(gt ((gt s16.l n24).l) n48)))then((eT (⟨x38,s39,s40,(⟨s41,s42,i43,i44,i45,i46⟩:aE),s47⟩:bw) (gt s41.l n53)).bind fun r54=>
 some r54)else
 (some false):Option Bool).bind fun b55=>
 bif b55 then(some (wr .i64 (i51+1)))else
 (some i51):Option Int).bind fun i56=>
 some (.inl (i56,wr .i64 (i52+1))))else
 (some (.inr i51))
def eP(i13:Int)(s16:Sl (Sl Int))(n24:Nat):(Int×ah×Sl (Sl Int)×Sl (Sl Int)×Sl af×Sl aj×Int×Int×Int×Int×Sl ap)->Option ((Int×ah×Sl (Sl Int)×Sl (Sl Int)×Sl af×Sl aj×Int×Int×Int×Int×Sl ap)⊕(ah×Sl (Sl Int)×Sl (Sl Int)×Sl af×Sl aj×Int×Int×Int×Int×Sl ap)):=fun(i37,x38,s39,s40,s41,s42,i43,i44,i45,i46,s47)=>
 bif decide (i37<(((gt s16.l n24).l).length:Int))then((e_ i37 ((gt s16.l n24).l).length).bind fun n48=>
 (br (dG i13 s47 i43 i45 i46 n48 s16 n24 i37 x38 s39 s40 s41 s42 i44) (0,0)).bind fun i57=>
 (e_ i13 s39.l.length).bind fun n58=>
 (e_ i37 ((gt s39.l n58).l).length).bind fun n59=>
 (bG x38 s39 s40 s41 s42 i43 i44 i45 i46 s47 (((gt ((gt s16.l n24).l) n48) !=(gt ((gt s39.l n58).l) n59))&&(i57 !=1)) 2 i13 i37).bind fun(q60,q61,q62,q63,q64,q65,q66,q67,q68,s69)=>
 some (.inl (wr .i64 (i37+1),q60,q61,q62,q63,q64,q65,q66,q67,q68,s69)))else
 (some (.inr (x38,s39,s40,s41,s42,i43,i44,i45,i46,s47)))
def eO(x_0_now:Sl (Sl Int)):(Int×ah×Sl (Sl Int)×Sl (Sl Int)×Sl af×Sl aj×Int×Int×Int×Int×Sl ap)->Option ((Int×ah×Sl (Sl Int)×Sl (Sl Int)×Sl af×Sl aj×Int×Int×Int×Int×Sl ap)⊕(ah×Sl (Sl Int)×Sl (Sl Int)×Sl af×Sl aj×Int×Int×Int×Int×Sl ap)):=fun(i13,x14,s15,s16,s17,s18,i19,i20,i21,i22,s23)=>
 bif decide (i13<(x_0_now.l.length:Int))then((e_ i13 s16.l.length).bind fun n24=>
 (br (eP i13 s16 n24) (0,x14,s15,s16,s17,s18,i19,i20,i21,i22,s23)).bind fun(x70,s71,s72,s73,s74,i75,i76,i77,i78,s79)=>
 some (.inl (wr .i64 (i13+1),x70,s71,s72,s73,s74,i75,i76,i77,i78,s79)))else
 (some (.inr (x14,s15,s16,s17,s18,i19,i20,i21,i22,s23)))
def eN(s83:Sl af):(Int×ah×Sl (Sl Int)×Sl (Sl Int)×Sl af×Sl aj×Int×Int×Int×Int×Sl ap)->Option ((Int×ah×Sl (Sl Int)×Sl (Sl Int)×Sl af×Sl aj×Int×Int×Int×Int×Sl ap)⊕(ah×Sl (Sl Int)×Sl (Sl Int)×Sl af×Sl aj×Int×Int×Int×Int×Sl ap)):=fun(i102,x103,s104,s105,s106,s107,i108,i109,i110,i111,s112)=>
 bif decide (i102<(s83.l.length:Int))then((e_ i102 s83.l.length).bind fun n113=>
 ((fh (⟨x103,s104,s105,(⟨s106,s107,i108,i109,i110,i111⟩:aE),s112⟩:bw) (gt s83.l n113)).bind fun r114=>
 bif(!r114)then((bG x103 s104 s105 s106 s107 i108 i109 i110 i111 s112 true 3 i102 (af.mr (gt s83.l n113))).bind fun(q115,q116,q117,q118,q119,q120,q121,q122,q123,s124)=>
 some (q115,q116,q117,q118,q119,q120,q121,q122,q123,s124))else
 ((e_ (af.Sw (gt s83.l n113)) s105.l.length).bind fun n125=>
 (e_ (af.mr (gt s83.l n113)) ((gt s105.l n125).l).length).bind fun n126=>
 bif((gt ((gt s105.l n125).l) n126) !=(af.mq (gt s83.l n113)))then((bG x103 s104 s105 s106 s107 i108 i109 i110 i111 s112 true 3 i102 (af.mr (gt s83.l n113))).bind fun(q127,q128,q129,q130,q131,q132,q133,q134,q135,s136)=>
 some (q127,q128,q129,q130,q131,q132,q133,q134,q135,s136))else
 ((e_ (af.Sw (gt s83.l n113)) s104.l.length).bind fun n137=>
 (e_ (af.mr (gt s83.l n113)) ((gt s104.l n137).l).length).bind fun n138=>
 bif((gt ((gt s104.l n137).l) n138)==(af.mq (gt s83.l n113)))then((bG x103 s104 s105 s106 s107 i108 i109 i110 i111 s112 true 3 i102 (af.mr (gt s83.l n113))).bind fun(q139,q140,q141,q142,q143,q144,q145,q146,q147,s148)=>
 some (q139,q140,q141,q142,q143,q144,q145,q146,q147,s148))else
 ((eT (⟨x103,s104,s105,(⟨s106,s107,i108,i109,i110,i111⟩:aE),s112⟩:bw) (gt s83.l n113)).bind fun r149=>
 (bG x103 s104 s105 s106 s107 i108 i109 i110 i111 s112 (!r149) 3 i102 (af.mr (gt s83.l n113))).bind fun(q150,q151,q152,q153,q154,q155,q156,q157,q158,s159)=>
 some (q150,q151,q152,q153,q154,q155,q156,q157,q158,s159)))):Option (ah×Sl (Sl Int)×Sl (Sl Int)×Sl af×Sl aj×Int×Int×Int×Int×Sl ap)).bind fun(x160,s161,s162,s163,s164,i165,i166,i167,i168,s169)=>
 some (.inl (wr .i64 (i102+1),x160,s161,s162,s163,s164,i165,i166,i167,i168,s169)))else
 (some (.inr (x103,s104,s105,s106,s107,i108,i109,i110,i111,s112)))
def fK(x_0_t:ah)(x_0_old:Sl (Sl Int))(x_0_now:Sl (Sl Int))(x_0_p_Moves:Sl af)(x_0_p_Rounds:Sl aj)(x_0_p_Miss:Int)(x_0_p_Life:Int)(x_0_p_From:Int)(x_0_p_To:Int)(x_0_out:Sl ap):Option (ah×Sl (Sl Int)×Sl (Sl Int)×Sl af×Sl aj×Int×Int×Int×Int×Sl ap):=
 (br (eO x_0_now) (0,x_0_t,x_0_old,x_0_now,x_0_p_Moves,x_0_p_Rounds,x_0_p_Miss,x_0_p_Life,x_0_p_From,x_0_p_To,x_0_out)).bind fun(x80,s81,s82,s83,s84,i85,i86,i87,i88,s89)=>
 (br (eN s83) (0,x80,s81,s82,s83,s84,i85,i86,i87,i88,s89)).bind fun(x170,s171,s172,s173,s174,i175,i176,i177,i178,s179)=>
 some (x170,s171,s172,s173,s174,i175,i176,i177,i178,s179)
def Qg:mo:=⟨[(true,.pb y6 (.st (.pr (.x y0) (.pr (.x (.sl (.sl (.i .i64)))) (.pr (.x (.sl (.sl (.i .i64)))) (.pr (.st (.pr (.x (.sl y4)) (.pr (.x (.sl y5)) (.pr (.x (.i .i64)) (.pr (.x (.i .i64)) (.pr (.x (.i .i64)) (.pr (.x (.i .i64)) .ni))))))) (.pr (.os y7) .ni)))))))],[([],[.pb y6 (.st (.pr (.x y0) (.pr (.x (.sl (.sl (.i .i64)))) (.pr (.x (.sl (.sl (.i .i64)))) (.pr (.st (.pr (.x (.sl y4)) (.pr (.x (.sl y5)) (.pr (.x (.i .i64)) (.pr (.x (.i .i64)) (.pr (.x (.i .i64)) (.pr (.x (.i .i64)) .ni))))))) (.pr (.os y7) .ni))))))])],false,[true],fun p=>match p with|(x_0_t,x_0_old,x_0_now,x_0_p_Moves,x_0_p_Rounds,x_0_p_Miss,x_0_p_Life,x_0_p_From,x_0_p_To,x_0_out)=>fK x_0_t x_0_old x_0_now x_0_p_Moves x_0_p_Rounds x_0_p_Miss x_0_p_Life x_0_p_From x_0_p_To x_0_out⟩
theorem Q3:dL prog 27 Qg:=cT eB eD (db:=db) (np:=1) (an:=[(3,{j:=some {vs:=[(0,.op 0 y6 []),(15,.x (.i .i64))],gs:=(.co (.op 0 y6 []) .ni),os:=[.bx y6 (.rc (.co (.x y0) (.co (.x (.sl (.sl (.i .i64)))) (.co (.x (.sl (.sl (.i .i64)))) (.co (.rc (.co (.x (.sl y4)) (.co (.x (.sl y5)) (.co (.x (.i .i64)) (.co (.x (.i .i64)) (.co (.x (.i .i64)) (.co (.x (.i .i64)) .ni))))))) (.co (.so 1) .ni)))))),.ar y7],kl:=[0,12]},e:=[(.exit 0,{vs:=[(0,.op 0 y6 [])],gs:=(.co (.op 0 y6 []) .ni),os:=[.bx y6 (.rc (.co (.x y0) (.co (.x (.sl (.sl (.i .i64)))) (.co (.x (.sl (.sl (.i .i64)))) (.co (.rc (.co (.x (.sl y4)) (.co (.x (.sl y5)) (.co (.x (.i .i64)) (.co (.x (.i .i64)) (.co (.x (.i .i64)) (.co (.x (.i .i64)) .ni))))))) (.co (.so 1) .ni)))))),.ar y7],kl:=[0,12]})]}),(12,{j:=some {vs:=[(0,.op 0 y6 []),(26,.x (.i .i64))],gs:=(.co (.op 0 y6 []) .ni),os:=[.bx y6 (.rc (.co (.x y0) (.co (.x (.sl (.sl (.i .i64)))) (.co (.x (.sl (.sl (.i .i64)))) (.co (.rc (.co (.x (.sl y4)) (.co (.x (.sl y5)) (.co (.x (.i .i64)) (.co (.x (.i .i64)) (.co (.x (.i .i64)) (.co (.x (.i .i64)) .ni))))))) (.co (.so 1) .ni)))))),.ar y7],kl:=[13,14]},e:=[(.exit 2,{vs:=[(0,.op 0 y6 [])],gs:=(.co (.op 0 y6 []) .ni),os:=[.bx y6 (.rc (.co (.x y0) (.co (.x (.sl (.sl (.i .i64)))) (.co (.x (.sl (.sl (.i .i64)))) (.co (.rc (.co (.x (.sl y4)) (.co (.x (.sl y5)) (.co (.x (.i .i64)) (.co (.x (.i .i64)) (.co (.x (.i .i64)) (.co (.x (.i .i64)) .ni))))))) (.co (.so 1) .ni)))))),.ar y7],kl:=[13,14]})]}),(24,{j:=some {vs:=[(5,.x (.i .i64)),(37,.x (.i .i64))]},e:=[(.exit 4,{vs:=[(5,.x (.i .i64))]})]}),(28,{e:=[(.normal,{vs:=[(5,.x (.i .i64))]})]}),(32,{j:=some {vs:=[(61,.x .b)]}}),(40,{j:=some {vs:=[(0,.op 0 y6 []),(93,.x (.i .i64))],gs:=(.co (.op 0 y6 []) .ni),os:=[.bx y6 (.rc (.co (.x y0) (.co (.x (.sl (.sl (.i .i64)))) (.co (.x (.sl (.sl (.i .i64)))) (.co (.rc (.co (.x (.sl y4)) (.co (.x (.sl y5)) (.co (.x (.i .i64)) (.co (.x (.i .i64)) (.co (.x (.i .i64)) (.co (.x (.i .i64)) .ni))))))) (.co (.so 1) .ni)))))),.ar y7],kl:=[13,14]},e:=[(.exit 6,{gs:=(.co (.op 0 y6 []) .ni),os:=[.bx y6 (.rc (.co (.x y0) (.co (.x (.sl (.sl (.i .i64)))) (.co (.x (.sl (.sl (.i .i64)))) (.co (.rc (.co (.x (.sl y4)) (.co (.x (.sl y5)) (.co (.x (.i .i64)) (.co (.x (.i .i64)) (.co (.x (.i .i64)) (.co (.x (.i .i64)) .ni))))))) (.co (.so 1) .ni)))))),.ar y7],kl:=[13,14]})]}),(47,{j:=some {vs:=[(0,.op 0 y6 [])],gs:=(.co (.op 0 y6 []) .ni),os:=[.bx y6 (.rc (.co (.x y0) (.co (.x (.sl (.sl (.i .i64)))) (.co (.x (.sl (.sl (.i .i64)))) (.co (.rc (.co (.x (.sl y4)) (.co (.x (.sl y5)) (.co (.x (.i .i64)) (.co (.x (.i .i64)) (.co (.x (.i .i64)) (.co (.x (.i .i64)) .ni))))))) (.co (.so 1) .ni)))))),.ar y7],kl:=[15,16]}})]) (.cons Q4 (.cons Nz (.cons O6 .nil))) (by kernel_rfl) (by kernel_rfl)
def iR(t_0:ah):(Int×Int)->Option ((Int×Int)⊕Int):=fun(i3,i4)=>
 bif decide (i4<(((ah.bT t_0).l).length:Int))then((e_ i4 ((ah.bT t_0).l).length).bind fun n5=>
 some (.inl ((if(bA.pk (gt ((ah.bT t_0).l) n5))>i3 then(bA.pk (gt ((ah.bT t_0).l) n5))else i3),wr .i64 (i4+1))))else
 (some (.inr i3))
def kR(t_0:ah):Option Int:=
 (br (iR t_0) (0,0)).bind fun i6=>
 some i6
def Qf:mo:=⟨[(false,.x y0)],[([.x (.i .i64)],[])],true,[],fun p=>match p with|t_0=>kR t_0⟩
theorem Q2:dL prog 85 Qf:=cT eB eD (db:=db) (np:=1) (an:=[(7,{j:=some {vs:=[(3,.x (.i .i64)),(9,.x (.i .i64))]},e:=[(.exit 0,{vs:=[(3,.x (.i .i64))]})]})]) .nil (by kernel_rfl) (by kernel_rfl)
def oB(t_0:ah):Option Int:=
 (kR t_0).bind fun r1=>
 some (wr .i64 ((ah.bh t_0)*r1))
def Qe:mo:=⟨[(false,.x y0)],[([.x (.i .i64)],[])],true,[],fun p=>match p with|t_0=>oB t_0⟩
theorem Q1:dL prog 52 Qe:=cT eB eD (db:=db) (np:=1) (an:=[]) (.cons Q2 .nil) (by kernel_rfl) (by kernel_rfl)
def oN(t_0:ah)(miss_1:Int):Option Int:=
 (oB t_0).bind fun r1=>
 some (wr .i64 ((wr .i64 ((wr .i64 (2*miss_1))+r1))+1))
def Qd:mo:=⟨[(false,.x y0),(false,.x (.i .i64))],[([.x (.i .i64)],[])],true,[],fun p=>match p with|(t_0,miss_1)=>oN t_0 miss_1⟩
theorem Q0:dL prog 54 Qd:=cT eB eD (db:=db) (np:=2) (an:=[]) (.cons Q1 .nil) (by kernel_rfl) (by kernel_rfl)
def iW(n_0:Int):Option Int:=some (if 1125899906842624<(if(-1125899906842624)>n_0 then(-1125899906842624)else n_0)then 1125899906842624 else(if(-1125899906842624)>n_0 then(-1125899906842624)else n_0))
def Qc:mo:=⟨[(false,.x (.i .i64))],[([.x (.i .i64)],[])],true,[],fun p=>match p with|n_0=>iW n_0⟩
theorem QZ:dL prog 59 Qc:=cT eB eD (db:=db) (np:=1) (an:=[]) .nil (by kernel_rfl) (by kernel_rfl)
def dF(r1:Int):(Int×ah×Sl (Sl Int)×Sl (Sl Int)×Sl af×Sl aj×Int×Int×Int×Int×Sl ap)->Option ((Int×ah×Sl (Sl Int)×Sl (Sl Int)×Sl af×Sl aj×Int×Int×Int×Int×Sl ap)⊕(ah×Sl (Sl Int)×Sl (Sl Int)×Sl af×Sl aj×Int×Int×Int×Int×Sl ap)):=fun(i14,x15,s16,s17,s18,s19,i20,i21,i22,i23,s24)=>
 bif decide (i14<(s19.l.length:Int))then((e_ i14 s19.l.length).bind fun n25=>
 (iW (aj.At (gt s19.l n25))).bind fun r26=>
 (e_ (wr .i64 (i14-1)) s19.l.length).bind fun n27=>
 (iW (aj.At (gt s19.l n27))).bind fun r28=>
 (bG x15 s16 s17 s18 s19 i20 i21 i22 i23 s24 (decide ((wr .i64 (r26-r28))<r1)) 4 i14 0).bind fun(q29,q30,q31,q32,q33,q34,q35,q36,q37,s38)=>
 some (.inl (wr .i64 (i14+1),q29,q30,q31,q32,q33,q34,q35,q36,q37,s38)))else
 (some (.inr (x15,s16,s17,s18,s19,i20,i21,i22,i23,s24)))
def fJ(x_0_t:ah)(x_0_old:Sl (Sl Int))(x_0_now:Sl (Sl Int))(x_0_p_Moves:Sl af)(x_0_p_Rounds:Sl aj)(x_0_p_Miss:Int)(x_0_p_Life:Int)(x_0_p_From:Int)(x_0_p_To:Int)(x_0_out:Sl ap):Option (ah×Sl (Sl Int)×Sl (Sl Int)×Sl af×Sl aj×Int×Int×Int×Int×Sl ap):=
 (oN x_0_t (if 1048576<(if 0>x_0_p_Miss then 0 else x_0_p_Miss)then 1048576 else(if 0>x_0_p_Miss then 0 else x_0_p_Miss))).bind fun r1=>
 (br (dF r1) (1,x_0_t,x_0_old,x_0_now,x_0_p_Moves,x_0_p_Rounds,x_0_p_Miss,x_0_p_Life,x_0_p_From,x_0_p_To,x_0_out)).bind fun(x39,s40,s41,s42,s43,i44,i45,i46,i47,s48)=>
 some (x39,s40,s41,s42,s43,i44,i45,i46,i47,s48)
def Qb:mo:=⟨[(true,.pb y6 (.st (.pr (.x y0) (.pr (.x (.sl (.sl (.i .i64)))) (.pr (.x (.sl (.sl (.i .i64)))) (.pr (.st (.pr (.x (.sl y4)) (.pr (.x (.sl y5)) (.pr (.x (.i .i64)) (.pr (.x (.i .i64)) (.pr (.x (.i .i64)) (.pr (.x (.i .i64)) .ni))))))) (.pr (.os y7) .ni)))))))],[([],[.pb y6 (.st (.pr (.x y0) (.pr (.x (.sl (.sl (.i .i64)))) (.pr (.x (.sl (.sl (.i .i64)))) (.pr (.st (.pr (.x (.sl y4)) (.pr (.x (.sl y5)) (.pr (.x (.i .i64)) (.pr (.x (.i .i64)) (.pr (.x (.i .i64)) (.pr (.x (.i .i64)) .ni))))))) (.pr (.os y7) .ni))))))])],false,[true],fun p=>match p with|(x_0_t,x_0_old,x_0_now,x_0_p_Moves,x_0_p_Rounds,x_0_p_Miss,x_0_p_Life,x_0_p_From,x_0_p_To,x_0_out)=>fJ x_0_t x_0_old x_0_now x_0_p_Moves x_0_p_Rounds x_0_p_Miss x_0_p_Life x_0_p_From x_0_p_To x_0_out⟩
theorem QY:dL prog 28 Qb:=cT eB eD (db:=db) (np:=1) (an:=[(6,{j:=some {vs:=[(0,.op 0 y6 []),(4,.x (.i .i64))],gs:=(.co (.op 0 y6 []) .ni),os:=[.bx y6 (.rc (.co (.x y0) (.co (.x (.sl (.sl (.i .i64)))) (.co (.x (.sl (.sl (.i .i64)))) (.co (.rc (.co (.x (.sl y4)) (.co (.x (.sl y5)) (.co (.x (.i .i64)) (.co (.x (.i .i64)) (.co (.x (.i .i64)) (.co (.x (.i .i64)) .ni))))))) (.co (.so 1) .ni)))))),.ar y7],kl:=[0,12]},e:=[(.exit 0,{gs:=(.co (.op 0 y6 []) .ni),os:=[.bx y6 (.rc (.co (.x y0) (.co (.x (.sl (.sl (.i .i64)))) (.co (.x (.sl (.sl (.i .i64)))) (.co (.rc (.co (.x (.sl y4)) (.co (.x (.sl y5)) (.co (.x (.i .i64)) (.co (.x (.i .i64)) (.co (.x (.i .i64)) (.co (.x (.i .i64)) .ni))))))) (.co (.so 1) .ni)))))),.ar y7],kl:=[0,12]})]})]) (.cons Q0 (.cons QZ (.cons Nz .nil))) (by kernel_rfl) (by kernel_rfl)
def iU(s_0:Sl Int):Option (Sl Int):=
 bif s_0.fC then(some Sl.nil)else
 ((h_ ([]++s_0.l)).bind fun l1=>
 some (vM (Sl.mk []) s_0.l l1))
def Qa:mo:=⟨[(false,.x (.sl (.i .i64)))],[([.os (.i .i64)],[])],false,[],fun p=>match p with|s_0=>iU s_0⟩
theorem QX:dL prog 60 Qa:=cT eB eD (db:=db) (np:=1) (an:=[]) .nil (by kernel_rfl) (by kernel_rfl)
def jG(n_0:Int)(l_1:Sl aO):Int->Option (Int⊕(Bool⊕Unit)):=fun i2=>
 bif decide (i2<(l_1.l.length:Int))then((e_ i2 l_1.l.length).bind fun n3=>
 bif((((decide ((aO.oz (gt l_1.l n3))<0))||(decide ((aO.oz (gt l_1.l n3))>=n_0)))||(decide ((aO.To (gt l_1.l n3))<0)))||(decide ((aO.To (gt l_1.l n3))>=n_0)))then(some (.inr (.inl false)))else
 (some (.inl (wr .i64 (i2+1)))))else
 (some (.inr (.inr ())))
def kI(n_0:Int)(l_1:Sl aO):Option Bool:=
 bif((decide (n_0<0))||(decide (n_0>16)))then(some false)else
 ((br (jG n_0 l_1) 0).bind fun
 |.inl b4=>(some b4)
 |.inr _=>(some true))
def P_:mo:=⟨[(false,.x (.i .i64)),(false,.x (.sl y2))],[([.x .b],[])],true,[],fun p=>match p with|(n_0,l_1)=>kI n_0 l_1⟩
theorem QW:dL prog 47 P_:=cT eB eD (db:=db) (np:=2) (an:=[(10,{j:=some {vs:=[(15,.x (.i .i64))]},e:=[(.ret,{vs:=[(4,.x .b)]}),(.exit 0,{})]})]) .nil (by kernel_rfl) (by kernel_rfl)
def kc(l_1:Sl aO):(Int×Sl Int)->Option ((Int×Sl Int)⊕(Sl Int)):=fun(i5,s6)=>
 bif decide (i5<(l_1.l.length:Int))then((e_ i5 l_1.l.length).bind fun n7=>
 (e_ (aO.oz (gt l_1.l n7)) s6.l.length).bind fun n8=>
 (w8 .u16 1 (aO.To (gt l_1.l n7))).bind fun i9=>
 (e_ (aO.oz (gt l_1.l n7)) s6.l.length).bind fun n10=>
 some (.inl (wr .i64 (i5+1),(Sl.mk (s6.l.set n10 (OQ .u16 (gt s6.l n8) i9))))))else
 (some (.inr s6))
def mR(n_0:Int)(l_1:Sl aO):Option (Sl Int):=
 (Bf 0 n_0 n_0).bind fun l1=>
 (br (kc l_1) (0,(Sl.mk l1))).bind fun s11=>
 some s11
def P9:mo:=⟨[(false,.x (.i .i64)),(false,.x (.sl y2))],[([.x (.sl (.i .u16))],[])],false,[],fun p=>match p with|(n_0,l_1)=>mR n_0 l_1⟩
theorem QV:dL prog 48 P9:=cT eB eD (db:=db) (np:=2) (an:=[(7,{j:=some {vs:=[(5,.so 0),(12,.x (.i .i64))],os:=[.ar (.i .u16)],kl:=[0]},e:=[(.exit 0,{vs:=[(5,.so 0)],os:=[.ar (.i .u16)],kl:=[0]})]})]) .nil (by kernel_rfl) (by kernel_rfl)
def dn(x_0:Int):Option Int:=
 bif(x_0==0)then(some 16)else
 ((e_ (HJ .u32 (wr .u32 ((wr .u32 (HK .u16 x_0 (wr .u16 (0-x_0))))*125613361)) 27) 32).bind fun n1=>
 some (wr .i64 (gt KX.1 n1)))
def P8:mo:=⟨[(false,.x (.i .u16))],[([.x (.i .i64)],[])],true,[],fun p=>match p with|x_0=>dn x_0⟩
theorem O5:dL prog 50 P8:=cT eB eD (db:=db) (np:=1) (an:=[]) .nil (by kernel_rfl) (by kernel_rfl)
def ke:(Int×Sl Int)->Option ((Int×Sl Int)⊕(Sl Int)):=fun(i4,s5)=>
 bif(i4 !=0)then((dn i4).bind fun r6=>
 (h_ (s5.l++[r6])).bind fun l7=>
 some (.inl (HK .u16 i4 (wr .u16 (i4-1)),(Sl.mk l7))))else
 (some (.inr s5))
def mS(set_0:Int):Option (Sl Int):=
 (br (ke) (set_0,Sl.nil)).bind fun s8=>
 some s8
def P7:mo:=⟨[(false,.x (.i .u16))],[([.x (.sl (.i .i64))],[])],false,[],fun p=>match p with|set_0=>mS set_0⟩
theorem QU:dL prog 84 P7:=cT eB eD (db:=db) (np:=1) (an:=[(5,{j:=some {vs:=[(0,.x (.i .u16)),(3,.so 0)],os:=[.ar (.i .i64)]},e:=[(.exit 0,{vs:=[(3,.so 0)],os:=[.ar (.i .i64)]})]})]) (.cons O5 .nil) (by kernel_rfl) (by kernel_rfl)
def j_(to_0:Sl Int)(r1:Sl Int):(Int×Int)->Option ((Int×Int)⊕Int):=fun(i4,i5)=>
 bif decide (i5<(r1.l.length:Int))then((e_ i5 r1.l.length).bind fun n6=>
 (e_ (gt r1.l n6) to_0.l.length).bind fun n7=>
 some (.inl (OQ .u16 i4 (gt to_0.l n7),wr .i64 (i5+1))))else
 (some (.inr i4))
def mQ(to_0:Sl Int)(set_1:Int):Option Int:=
 (mS set_1).bind fun r1=>
 (br (j_ to_0 r1) (0,0)).bind fun i8=>
 some i8
def P6:mo:=⟨[(false,.x (.sl (.i .u16))),(false,.x (.i .u16))],[([.x (.i .u16)],[])],true,[],fun p=>match p with|(to_0,set_1)=>mQ to_0 set_1⟩
theorem QT:dL prog 49 P6:=cT eB eD (db:=db) (np:=2) (an:=[(7,{j:=some {vs:=[(5,.x (.i .u16)),(11,.x (.i .i64))]},e:=[(.exit 0,{vs:=[(5,.x (.i .u16))]})]})]) (.cons QU .nil) (by kernel_rfl) (by kernel_rfl)
def iF(r2:Sl Int):(Int×Sl Int)->Option ((Int×Sl Int)⊕(Bool⊕(Sl Int))):=fun(i7,s8)=>
 bif(i7 !=0)then((mQ r2 i7).bind fun r9=>
 bif((qY .u16 i7 r9)==0)then(some (.inr (.inl false)))else
 ((dn (qY .u16 i7 r9)).bind fun r10=>
 (h_ (s8.l++[r10])).bind fun l11=>
 (w8 .u16 1 r10).bind fun i12=>
 some (.inl (qY .u16 i7 i12,(Sl.mk l11)))))else
 (some (.inr (.inr s8)))
def ig(n_0:Int)(l_1:Sl aO):Option (Sl Int×Bool):=
 (kI n_0 l_1).bind fun r1=>
 bif(!r1)then(some (Sl.nil,false))else
 ((mR n_0 l_1).bind fun r2=>
 (w8 .u16 1 n_0).bind fun i3=>
 (br (iF r2) (wr .u16 (i3-1),Sl.nil)).bind fun
 |.inl b13=>(some (Sl.nil,b13))
 |.inr s14=>(some (s14,true)))
def P5:mo:=⟨[(false,.x (.i .i64)),(false,.x (.sl y2))],[([.x (.sl (.i .i64)),.x .b],[])],false,[],fun p=>match p with|(n_0,l_1)=>ig n_0 l_1⟩
theorem QS:dL prog 25 P5:=cT eB eD (db:=db) (np:=2) (an:=[(14,{j:=some {vs:=[(7,.x (.i .u16)),(8,.so 0)],os:=[.ar (.i .i64)]},e:=[(.ret,{vs:=[(4,.nl 0),(5,.x .b)]}),(.exit 0,{vs:=[(8,.so 0)],os:=[.ar (.i .i64)]})]})]) (.cons QW (.cons QV (.cons QT (.cons O5 .nil)))) (by kernel_rfl) (by kernel_rfl)
def dW(x_0_t:ah)(ports_1:Sl (Sl Int))(h_3:Int)(i7:Int)(n9:Nat):(Bool×Int×Sl aO)->Option ((Bool×Int×Sl aO)⊕(Bool×Sl aO)):=fun(b13,i14,s15)=>
 bif decide (i14<(((gt ports_1.l n9).l).length:Int))then(((e_ i14 ((gt ports_1.l n9).l).length).bind fun n16=>
 (mH x_0_t i7 (gt ((gt ports_1.l n9).l) n16)).bind fun(r17,r18,r19,r20)=>
 bif r20 then((h_ (s15.l++[(⟨i7,r17⟩:aO)])).bind fun l21=>
 some (b13,(Sl.mk l21)))else
 ((e_ h_3 ((ah.a_ x_0_t).l).length).bind fun n22=>
 bif(!(decide ((gt ((ah.a_ x_0_t).l) n22)=(⟨i7,gt ((gt ports_1.l n9).l) n16⟩:fH))))then(some (true,s15))else
 (some (b13,s15))):Option (Bool×Sl aO)).bind fun(b23,s24)=>
 some (.inl (b23,wr .i64 (i14+1),s24)))else
 (some (.inr (b13,s15)))
def fc(x_0_t:ah)(ports_1:Sl (Sl Int))(h_3:Int):(Bool×Int×Sl aO)->Option ((Bool×Int×Sl aO)⊕(Bool×Sl aO)):=fun(b6,i7,s8)=>
 bif decide (i7<(ports_1.l.length:Int))then((e_ i7 ports_1.l.length).bind fun n9=>
 (br (dW x_0_t ports_1 h_3 i7 n9) (b6,0,s8)).bind fun(b25,s26)=>
 some (.inl (b25,wr .i64 (i7+1),s26)))else
 (some (.inr (b6,s8)))
def gN(x_0_t:ah)(x_0_old:Sl (Sl Int))(x_0_now:Sl (Sl Int))(x_0_p_Moves:Sl af)(x_0_p_Rounds:Sl aj)(x_0_p_Miss:Int)(x_0_p_Life:Int)(x_0_p_From:Int)(x_0_p_To:Int)(x_0_out:Sl ap)(ports_1:Sl (Sl Int))(k_2:Int)(h_3:Int):Option (ah×Sl (Sl Int)×Sl (Sl Int)×Sl af×Sl aj×Int×Int×Int×Int×Sl ap):=
 (br (fc x_0_t ports_1 h_3) (false,0,Sl.nil)).bind fun(b27,s28)=>
 (ig (ah.bh x_0_t) s28).bind fun(r29,r30)=>
 (bG x_0_t x_0_old x_0_now x_0_p_Moves x_0_p_Rounds x_0_p_Miss x_0_p_Life x_0_p_From x_0_p_To x_0_out b27 5 k_2 h_3).bind fun(q31,q32,q33,q34,q35,q36,q37,q38,q39,s40)=>
 (bG q31 q32 q33 q34 q35 q36 q37 q38 q39 s40 (!r30) 6 k_2 h_3).bind fun(q41,q42,q43,q44,q45,q46,q47,q48,q49,s50)=>
 some (q41,q42,q43,q44,q45,q46,q47,q48,q49,s50)
def P4:mo:=⟨[(true,.pb y6 (.st (.pr (.x y0) (.pr (.x (.sl (.sl (.i .i64)))) (.pr (.x (.sl (.sl (.i .i64)))) (.pr (.st (.pr (.x (.sl y4)) (.pr (.x (.sl y5)) (.pr (.x (.i .i64)) (.pr (.x (.i .i64)) (.pr (.x (.i .i64)) (.pr (.x (.i .i64)) .ni))))))) (.pr (.os y7) .ni))))))),(false,.x (.sl (.sl (.i .i64)))),(false,.x (.i .i64)),(false,.x (.i .i64))],[([],[.pb y6 (.st (.pr (.x y0) (.pr (.x (.sl (.sl (.i .i64)))) (.pr (.x (.sl (.sl (.i .i64)))) (.pr (.st (.pr (.x (.sl y4)) (.pr (.x (.sl y5)) (.pr (.x (.i .i64)) (.pr (.x (.i .i64)) (.pr (.x (.i .i64)) (.pr (.x (.i .i64)) .ni))))))) (.pr (.os y7) .ni))))))])],false,[true,false,false,false],fun p=>match p with|(x_0_t,x_0_old,x_0_now,x_0_p_Moves,x_0_p_Rounds,x_0_p_Miss,x_0_p_Life,x_0_p_From,x_0_p_To,x_0_out,ports_1,k_2,h_3)=>gN x_0_t x_0_old x_0_now x_0_p_Moves x_0_p_Rounds x_0_p_Miss x_0_p_Life x_0_p_From x_0_p_To x_0_out ports_1 k_2 h_3⟩
theorem QR:dL prog 62 P4:=cT eB eD (db:=db) (np:=4) (an:=[(7,{j:=some {vs:=[(8,.so 0),(9,.x .b),(22,.x (.i .i64))],os:=[.ar y2]},e:=[(.exit 0,{vs:=[(8,.so 0),(9,.x .b)],os:=[.ar y2]})]}),(16,{j:=some {vs:=[(8,.so 0),(9,.x .b),(29,.x (.i .i64))],os:=[.ar y2],kl:=[13]},e:=[(.exit 2,{vs:=[(8,.so 0),(9,.x .b)],os:=[.ar y2],kl:=[13]})]}),(20,{e:=[(.normal,{vs:=[(8,.so 0),(9,.x .b)],os:=[.ar y2],kl:=[14]})]})]) (.cons O9 (.cons QS (.cons Nz .nil))) (by kernel_rfl) (by kernel_rfl)
def fr(x_0_old:Sl (Sl Int)):(Int×Sl (Sl Int))->Option ((Int×Sl (Sl Int))⊕(Sl (Sl Int))):=fun(i5,s6)=>
 bif decide (i5<(x_0_old.l.length:Int))then((e_ i5 x_0_old.l.length).bind fun n7=>
 (iU (gt x_0_old.l n7)).bind fun s8=>
 (e_ i5 s6.l.length).bind fun n9=>
 some (.inl (wr .i64 (i5+1),(Sl.mk (s6.l.set n9 s8)))))else
 (some (.inr s6))
def fq(i50:Int)(s60:Sl (Sl Int)):(Int×Sl (Sl Int)×Sl (Sl Int))->Option ((Int×Sl (Sl Int)×Sl (Sl Int))⊕(Sl (Sl Int)×Sl (Sl Int))):=fun(i67,s68,s69)=>
 bif decide (i67<(s60.l.length:Int))then((e_ i67 s68.l.length).bind fun n70=>
 (e_ i50 ((gt s68.l n70).l).length).bind fun n71=>
 (e_ i67 s69.l.length).bind fun n72=>
 some (.inl (wr .i64 (i67+1),(Sl.mk (s68.l.set n70 (gt s68.l n70))),(Sl.mk (s69.l.set n72 (Sl.mk [gt ((gt s68.l n70).l) n71]))))))else
 (some (.inr (s68,s69)))
def eh(x_0_p_Rounds:Sl aj)(n36:Nat)(s52:Sl (Sl Int))(s53:Sl (Sl Int))(s61:Sl ap)(s55:Sl aj)(s54:Sl af)(i50:Int)(x51:ah)(i56:Int)(i57:Int)(i58:Int)(i59:Int):(Int×Sl (Sl Int))->Option ((Int×Sl (Sl Int))⊕(Sl (Sl Int))):=fun(i78,s79)=>
 bif decide (i78<(s54.l.length:Int))then(((e_ i78 s54.l.length).bind fun n80=>
 (bif((af.mr (gt s54.l n80))==i50)then((fh (⟨x51,s52,s53,(⟨s54,s55,i56,i57,i58,i59⟩:aE),s61⟩:bw) (gt s54.l n80)).bind fun r81=>
 bif r81 then((jS (gt x_0_p_Rounds.l n36) (gt s54.l n80)).bind fun r82=>
 some r82)else
 (some false))else
 (some false):Option Bool).bind fun b83=>
 bif b83 then((e_ (af.Sw (gt s54.l n80)) s79.l.length).bind fun n84=>
 (h_ (((gt s79.l n84).l)++[af.mq (gt s54.l n80)])).bind fun l85=>
 (e_ (af.Sw (gt s54.l n80)) s79.l.length).bind fun n86=>
 bif Nat.beq n84 n86 then(some (Sl.mk (s79.l.set n86 (Sl.mk l85))))else(none))else
 (some s79):Option (Sl (Sl Int))).bind fun s87=>
 some (.inl (wr .i64 (i78+1),s87)))else
 (some (.inr s79))
def eg(x_0_p_Rounds:Sl aj)(n36:Nat)(i24:Int)(x25:ah):(Int×ah×Sl (Sl Int)×Sl (Sl Int)×Sl af×Sl aj×Int×Int×Int×Int×Sl (Sl Int)×Sl ap)->Option ((Int×ah×Sl (Sl Int)×Sl (Sl Int)×Sl af×Sl aj×Int×Int×Int×Int×Sl (Sl Int)×Sl ap)⊕(ah×Sl (Sl Int)×Sl (Sl Int)×Sl af×Sl aj×Int×Int×Int×Int×Sl (Sl Int)×Sl ap)):=fun(i50,x51,s52,s53,s54,s55,i56,i57,i58,i59,s60,s61)=>
 bif decide (i50<(((ah.a_ x25).l).length:Int))then((Bf (Sl.nil:Sl Int) (s60.l.length:Int) (s60.l.length:Int)).bind fun l62=>
 (br (fq i50 s60) (0,s60,(Sl.mk l62))).bind fun(s73,s74)=>
 (br (eh x_0_p_Rounds n36 s52 s53 s61 s55 s54 i50 x51 i56 i57 i58 i59) (0,s74)).bind fun s88=>
 (gN x51 s52 s53 s54 s55 i56 i57 i58 i59 s61 s88 i24 i50).bind fun(q89,q90,q91,q92,q93,q94,q95,q96,q97,s98)=>
 some (.inl (wr .i64 (i50+1),q89,q90,q91,q92,q93,q94,q95,q96,q97,s73,s98)))else
 (some (.inr (x51,s52,s53,s54,s55,i56,i57,i58,i59,s60,s61)))
def ed(x_0_p_Rounds:Sl aj)(n36:Nat)(s100:Sl (Sl Int))(s102:Sl af)(s109:Sl ap)(x99:ah)(s101:Sl (Sl Int))(s103:Sl aj)(i104:Int)(i105:Int)(i106:Int)(i107:Int):(Int×Sl (Sl Int))->Option ((Int×Sl (Sl Int))⊕(Sl (Sl Int))):=fun(i113,s114)=>
 bif decide (i113<(s102.l.length:Int))then(((e_ i113 s102.l.length).bind fun n115=>
 ((fh (⟨x99,s100,s101,(⟨s102,s103,i104,i105,i106,i107⟩:aE),s109⟩:bw) (gt s102.l n115)).bind fun r116=>
 bif r116 then((jS (gt x_0_p_Rounds.l n36) (gt s102.l n115)).bind fun r117=>
 some r117)else
 (some false):Option Bool).bind fun b118=>
 bif b118 then((e_ (af.Sw (gt s102.l n115)) s114.l.length).bind fun n119=>
 (e_ (af.mr (gt s102.l n115)) ((gt s114.l n119).l).length).bind fun n120=>
 some (Sl.mk (s114.l.set n119 (Sl.mk (((gt s114.l n119).l).set n120 (af.mq (gt s102.l n115)))))))else
 (some s114):Option (Sl (Sl Int))).bind fun s121=>
 some (.inl (wr .i64 (i113+1),s121)))else
 (some (.inr s114))
def d_(x_0_p_Rounds:Sl aj):(Int×ah×Sl (Sl Int)×Sl (Sl Int)×Sl af×Sl aj×Int×Int×Int×Int×Sl (Sl Int)×Sl ap)->Option ((Int×ah×Sl (Sl Int)×Sl (Sl Int)×Sl af×Sl aj×Int×Int×Int×Int×Sl (Sl Int)×Sl ap)⊕(ah×Sl (Sl Int)×Sl (Sl Int)×Sl af×Sl aj×Int×Int×Int×Int×Sl ap)):=fun(i24,x25,s26,s27,s28,s29,i30,i31,i32,i33,s34,s35)=>
 bif decide (i24<(x_0_p_Rounds.l.length:Int))then((e_ i24 x_0_p_Rounds.l.length).bind fun n36=>
 (br (eg x_0_p_Rounds n36 i24 x25) (0,x25,s26,s27,s28,s29,i30,i31,i32,i33,s34,s35)).bind fun(x99,s100,s101,s102,s103,i104,i105,i106,i107,s108,s109)=>
 (br (ed x_0_p_Rounds n36 s100 s102 s109 x99 s101 s103 i104 i105 i106 i107) (0,s108)).bind fun s122=>
 some (.inl (wr .i64 (i24+1),x99,s100,s101,s102,s103,i104,i105,i106,i107,s122,s109)))else
 (some (.inr (x25,s26,s27,s28,s29,i30,i31,i32,i33,s35)))
def gi(x_0_t:ah)(x_0_old:Sl (Sl Int))(x_0_now:Sl (Sl Int))(x_0_p_Moves:Sl af)(x_0_p_Rounds:Sl aj)(x_0_p_Miss:Int)(x_0_p_Life:Int)(x_0_p_From:Int)(x_0_p_To:Int)(x_0_out:Sl ap):Option (ah×Sl (Sl Int)×Sl (Sl Int)×Sl af×Sl aj×Int×Int×Int×Int×Sl ap):=
 (Bf (Sl.nil:Sl Int) (x_0_old.l.length:Int) (x_0_old.l.length:Int)).bind fun l1=>
 (br (fr x_0_old) (0,(Sl.mk l1))).bind fun s10=>
 (br (d_ x_0_p_Rounds) (0,x_0_t,x_0_old,x_0_now,x_0_p_Moves,x_0_p_Rounds,x_0_p_Miss,x_0_p_Life,x_0_p_From,x_0_p_To,s10,x_0_out)).bind fun(x123,s124,s125,s126,s127,i128,i129,i130,i131,s132)=>
 some (x123,s124,s125,s126,s127,i128,i129,i130,i131,s132)
def P3:mo:=⟨[(true,.pb y6 (.st (.pr (.x y0) (.pr (.x (.sl (.sl (.i .i64)))) (.pr (.x (.sl (.sl (.i .i64)))) (.pr (.st (.pr (.x (.sl y4)) (.pr (.x (.sl y5)) (.pr (.x (.i .i64)) (.pr (.x (.i .i64)) (.pr (.x (.i .i64)) (.pr (.x (.i .i64)) .ni))))))) (.pr (.os y7) .ni)))))))],[([],[.pb y6 (.st (.pr (.x y0) (.pr (.x (.sl (.sl (.i .i64)))) (.pr (.x (.sl (.sl (.i .i64)))) (.pr (.st (.pr (.x (.sl y4)) (.pr (.x (.sl y5)) (.pr (.x (.i .i64)) (.pr (.x (.i .i64)) (.pr (.x (.i .i64)) (.pr (.x (.i .i64)) .ni))))))) (.pr (.os y7) .ni))))))])],false,[true],fun p=>match p with|(x_0_t,x_0_old,x_0_now,x_0_p_Moves,x_0_p_Rounds,x_0_p_Miss,x_0_p_Life,x_0_p_From,x_0_p_To,x_0_out)=>gi x_0_t x_0_old x_0_now x_0_p_Moves x_0_p_Rounds x_0_p_Miss x_0_p_Life x_0_p_From x_0_p_To x_0_out⟩
theorem QQ:dL prog 29 P3:=cT eB eD (db:=Qw) (np:=1) (an:=[(5,{j:=some {vs:=[(2,.sr 0),(25,.x (.i .i64))],os:=[.rw (.i .i64)],kl:=[13]},e:=[(.exit 0,{vs:=[(2,.sr 0)],os:=[.rw (.i .i64)],kl:=[13]})]}),(16,{j:=some {vs:=[(0,.op 0 y6 []),(2,.sr 1),(42,.x (.i .i64))],gs:=(.co (.op 0 y6 []) .ni),os:=[.bx y6 (.rc (.co (.x y0) (.co (.x (.sl (.sl (.i .i64)))) (.co (.x (.sl (.sl (.i .i64)))) (.co (.rc (.co (.x (.sl y4)) (.co (.x (.sl y5)) (.co (.x (.i .i64)) (.co (.x (.i .i64)) (.co (.x (.i .i64)) (.co (.x (.i .i64)) .ni))))))) (.co (.so 2) .ni)))))),.rw (.i .i64),.ar y7],kl:=[0,12,14]},e:=[(.exit 2,{gs:=(.co (.op 0 y6 []) .ni),os:=[.bx y6 (.rc (.co (.x y0) (.co (.x (.sl (.sl (.i .i64)))) (.co (.x (.sl (.sl (.i .i64)))) (.co (.rc (.co (.x (.sl y4)) (.co (.x (.sl y5)) (.co (.x (.i .i64)) (.co (.x (.i .i64)) (.co (.x (.i .i64)) (.co (.x (.i .i64)) .ni))))))) (.co (.so 1) .ni)))))),.ar y7],kl:=[0,12,14]})]}),(26,{j:=some {vs:=[(0,.op 0 y6 []),(2,.sr 1),(53,.x (.i .i64))],gs:=(.co (.op 0 y6 []) .ni),os:=[.bx y6 (.rc (.co (.x y0) (.co (.x (.sl (.sl (.i .i64)))) (.co (.x (.sl (.sl (.i .i64)))) (.co (.rc (.co (.x (.sl y4)) (.co (.x (.sl y5)) (.co (.x (.i .i64)) (.co (.x (.i .i64)) (.co (.x (.i .i64)) (.co (.x (.i .i64)) .ni))))))) (.co (.so 2) .ni)))))),.rw (.i .i64),.ar y7],kl:=[15,16,17]},e:=[(.exit 4,{vs:=[(0,.op 0 y6 []),(2,.sr 1)],gs:=(.co (.op 0 y6 []) .ni),os:=[.bx y6 (.rc (.co (.x y0) (.co (.x (.sl (.sl (.i .i64)))) (.co (.x (.sl (.sl (.i .i64)))) (.co (.rc (.co (.x (.sl y4)) (.co (.x (.sl y5)) (.co (.x (.i .i64)) (.co (.x (.i .i64)) (.co (.x (.i .i64)) (.co (.x (.i .i64)) .ni))))))) (.co (.so 2) .ni)))))),.rw (.i .i64),.ar y7],kl:=[15,16,17]})]}),(38,{j:=some {vs:=[(2,.sr 0),(8,.sr 1),(61,.x (.i .i64))],os:=[.rw (.i .i64),.rw (.i .i64)],kl:=[20,22]},e:=[(.exit 6,{vs:=[(2,.sr 0),(8,.sr 1)],os:=[.rw (.i .i64),.rw (.i .i64)],kl:=[20,22]})]}),(50,{j:=some {vs:=[(8,.sr 0),(82,.x (.i .i64))],os:=[.rw (.i .i64)],kl:=[24]},e:=[(.exit 8,{vs:=[(8,.sr 0)],os:=[.rw (.i .i64)],kl:=[24]})]}),(54,{e:=[(.normal,{vs:=[(8,.sr 0)],os:=[.rw (.i .i64)],kl:=[25]})]}),(58,{j:=some {vs:=[(99,.x .b)]}}),(65,{j:=some {vs:=[(2,.sr 0),(126,.x (.i .i64))],os:=[.rw (.i .i64)],kl:=[20]},e:=[(.exit 10,{vs:=[(2,.sr 0)],os:=[.rw (.i .i64)],kl:=[20]})]}),(69,{e:=[(.normal,{vs:=[(2,.sr 0)],os:=[.rw (.i .i64)],kl:=[22]})]}),(73,{j:=some {vs:=[(137,.x .b)]}})]) (.cons QX (.cons O6 (.cons O7 (.cons QR .nil)))) (by kernel_rfl) (by kernel_rfl)
def ie(t_0:ah)(old_1:Sl (Sl Int))(now_2:Sl (Sl Int))(p_3:bn):Option (Sl ap):=
 ((iC t_0 old_1).bind fun r1=>
 bif(!r1)then(some true)else
 ((iC t_0 now_2).bind fun r2=>
 some (!r2)):Option Bool).bind fun b3=>
 bif b3 then(some (Sl.mk [(⟨1,0,0⟩:ap)]))else
 ((fK t_0 old_1 now_2 (bn.cZ p_3) (bn.bc p_3) (bn.tZ p_3) (bn.Dd p_3) (bn.oz p_3) (bn.To p_3) Sl.nil).bind fun(q4,q5,q6,q7,q8,q9,q10,q11,q12,s13)=>
 (fJ q4 q5 q6 q7 q8 q9 q10 q11 q12 s13).bind fun(q14,q15,q16,q17,q18,q19,q20,q21,q22,s23)=>
 (gi q14 q15 q16 q17 q18 q19 q20 q21 q22 s23).bind fun(q24,q25,q26,q27,q28,q29,q30,q31,q32,s33)=>
 some s33)
def P2:mo:=⟨[(false,.x y0),(false,.x (.sl (.sl (.i .i64)))),(false,.x (.sl (.sl (.i .i64)))),(false,.x y3)],[([.x (.sl y7)],[])],false,[],fun p=>match p with|(t_0,old_1,now_2,p_3)=>ie t_0 old_1 now_2 p_3⟩
theorem O4:dL prog 11 P2:=cT eB eD (db:=db) (np:=4) (an:=[(4,{j:=some {vs:=[(19,.x .b)]}})]) (.cons O8 (.cons Q3 (.cons QY (.cons QQ .nil)))) (by kernel_rfl) (by kernel_rfl)
def tN(kind_0:Int):Option ByteArray:=
 bif((decide (kind_0<1))||(decide (kind_0>6)))then(some (⟨#[63]⟩:ByteArray))else
 ((e_ (wr .i64 (kind_0-1)) 6).bind fun n1=>
 some (gt ((Arr.set (Arr.set (Arr.set (Arr.set (Arr.set (Arr.set (rq (.ar 6 .s)) 0 (⟨#[119,114,111,110,103]⟩:ByteArray)) 1 (⟨#[109,105,115,115,105,110,103]⟩:ByteArray)) 2 (⟨#[101,120,116,114,97]⟩:ByteArray)) 3 (⟨#[99,108,111,115,101]⟩:ByteArray)) 4 (⟨#[104,111,108,101]⟩:ByteArray)) 5 (⟨#[108,111,111,112]⟩:ByteArray)).1) n1))
def P1:mo:=⟨[(false,.x (.i .i64))],[([.x .s],[])],true,[],fun p=>match p with|kind_0=>tN kind_0⟩
theorem QP:dL prog 14 P1:=cT eB eD (db:=db) (np:=1) (an:=[]) .nil (by kernel_rfl) (by kernel_rfl)
def kF:Option Bool:=
 (ie (⟨3,(Sl.mk [(⟨0,0,1,0,1,1⟩:bA),(⟨1,1,2,0,1,1⟩:bA),(⟨0,1,2,1,1,1⟩:bA)]),(Sl.mk [(⟨2,7⟩:fH)])⟩:ah) (Sl.mk [(Sl.mk [0]),(Sl.mk [1]),(Sl.mk [7])]) (Sl.mk [(Sl.mk [1]),(Sl.mk [1]),(Sl.mk [7])]) (⟨Sl.nil,Sl.nil,0,0,0,0⟩:bn)).bind fun r1=>
 (bif((r1.l.length:Int)==1)then((e_ 0 r1.l.length).bind fun n2=>
 bif decide ((gt r1.l n2)=(⟨2,0,0⟩:ap))then((tN 6).bind fun r3=>
 bif(r3.toList==(⟨#[108,111,111,112]⟩:ByteArray).toList)then((ie (⟨0,Sl.nil,Sl.nil⟩:ah) Sl.nil Sl.nil (⟨Sl.nil,Sl.nil,0,0,0,0⟩:bn)).bind fun r4=>
 some ((r4.l.length:Int)==1))else
 (some false))else
 (some false))else
 (some false):Option Bool).bind fun b5=>
 some b5
def P0:mo:=⟨[],[([.x .b],[])],true,[],fun p=>match p with|_=>kF⟩
theorem QO:dL prog 9 P0:=cT eB eD (db:=db) (np:=0) (an:=[(7,{j:=some {vs:=[(0,.x .b)]}})]) (.cons O4 (.cons QP .nil)) (by kernel_rfl) (by kernel_rfl)
def mZ(l_0:Sl cn):(Int×Sl af)->Option ((Int×Sl af)⊕(Sl af)):=fun(i4,s5)=>
 bif decide (i4<(l_0.l.length:Int))then((e_ i4 l_0.l.length).bind fun n6=>
 (e_ i4 l_0.l.length).bind fun n7=>
 (e_ i4 l_0.l.length).bind fun n8=>
 (e_ i4 l_0.l.length).bind fun n9=>
 (h_ (s5.l++[(⟨cn.Sw (gt l_0.l n6),cn.mr (gt l_0.l n7),cn.mq (gt l_0.l n8),cn.yt (gt l_0.l n9)⟩:af)])).bind fun l10=>
 some (.inl (wr .i64 (i4+1),(Sl.mk l10))))else
 (some (.inr s5))
def qM(l_0:Sl cn):Option (Sl af):=
 (br (mZ l_0) (0,Sl.nil)).bind fun s11=>
 some s11
def PZ:mo:=⟨[(false,.x (.sl y4))],[([.x (.sl y4)],[])],false,[],fun p=>match p with|l_0=>qM l_0⟩
theorem QN:dL prog 30 PZ:=cT eB eD (db:=db) (np:=1) (an:=[(7,{j:=some {vs:=[(3,.so 0),(4,.x (.i .i64))],os:=[.ar y4]},e:=[(.exit 0,{vs:=[(3,.so 0)],os:=[.ar y4]})]})]) .nil (by kernel_rfl) (by kernel_rfl)
def ll(p_0:aE):(Int×Sl af×Int×Int×Int×Int×Sl aj)->Option ((Int×Sl af×Int×Int×Int×Int×Sl aj)⊕(Sl af×Int×Int×Int×Int×Sl aj)):=fun(i10,s11,i12,i13,i14,i15,s16)=>
 bif decide (i10<(((aE.bc p_0).l).length:Int))then((e_ i10 ((aE.bc p_0).l).length).bind fun n17=>
 (e_ i10 ((aE.bc p_0).l).length).bind fun n18=>
 (e_ i10 ((aE.bc p_0).l).length).bind fun n19=>
 (h_ (s16.l++[(⟨eK.No (gt ((aE.bc p_0).l) n17),eK.At (gt ((aE.bc p_0).l) n18),eK.MS (gt ((aE.bc p_0).l) n19)⟩:aj)])).bind fun l20=>
 some (.inl (wr .i64 (i10+1),s11,i12,i13,i14,i15,(Sl.mk l20))))else
 (some (.inr (s11,i12,i13,i14,i15,s16)))
def qL(p_0:aE):Option bn:=
 (qM (aE.cZ p_0)).bind fun r1=>
 (br (ll p_0) (0,r1,aE.tZ p_0,aE.Dd p_0,aE.oz p_0,aE.To p_0,Sl.nil)).bind fun(s21,i22,i23,i24,i25,s26)=>
 some (⟨s21,s26,i22,i23,i24,i25⟩:aE)
def PY:mo:=⟨[(false,.x y3)],[([.x y3],[])],false,[],fun p=>match p with|p_0=>qL p_0⟩
theorem QM:dL prog 12 PY:=cT eB eD (db:=db) (np:=1) (an:=[(7,{j:=some {vs:=[(3,.op 0 y3 []),(4,.x (.i .i64))],os:=[.bx y3 (.rc (.co (.x (.sl y4)) (.co (.so 1) (.co (.x (.i .i64)) (.co (.x (.i .i64)) (.co (.x (.i .i64)) (.co (.x (.i .i64)) .ni))))))),.ar y5],kl:=[12000002]},e:=[(.exit 0,{vs:=[(3,.op 0 y3 [])],os:=[.bx y3 (.rc (.co (.x (.sl y4)) (.co (.so 1) (.co (.x (.i .i64)) (.co (.x (.i .i64)) (.co (.x (.i .i64)) (.co (.x (.i .i64)) .ni))))))),.ar y5],kl:=[12000002]})]})]) (.cons QN .nil) (by kernel_rfl) (by kernel_rfl)
def As(l_0:Sl Int)(x_1:Int):Int->Option (Int⊕(Bool⊕Unit)):=fun i2=>
 bif decide (i2<(l_0.l.length:Int))then((e_ i2 l_0.l.length).bind fun n3=>
 bif((gt l_0.l n3)==x_1)then(some (.inr (.inl true)))else
 (some (.inl (wr .i64 (i2+1)))))else
 (some (.inr (.inr ())))
def vf(l_0:Sl Int)(x_1:Int):Option Bool:=
 (br (As l_0 x_1) 0).bind fun
 |.inl b4=>(some b4)
 |.inr _=>(some false)
def PX:mo:=⟨[(false,.x (.sl (.i .i64))),(false,.x (.i .i64))],[([.x .b],[])],true,[],fun p=>match p with|(l_0,x_1)=>vf l_0 x_1⟩
theorem QL:dL prog 99 PX:=cT eB eD (db:=db) (np:=2) (an:=[(5,{j:=some {vs:=[(5,.x (.i .i64))]},e:=[(.ret,{vs:=[(4,.x .b)]}),(.exit 0,{})]})]) .nil (by kernel_rfl) (by kernel_rfl)
def qF(p_0:aE)(k_1:Int)(m_2:cn):Option Bool:=
 ((e_ k_1 ((aE.bc p_0).l).length).bind fun n1=>
 bif((eK.No (gt ((aE.bc p_0).l) n1))==(cn.yt m_2))then((e_ k_1 ((aE.bc p_0).l).length).bind fun n2=>
 (vf (eK.MS (gt ((aE.bc p_0).l) n2)) (cn.Sw m_2)).bind fun r3=>
 some r3)else
 (some false):Option Bool).bind fun b4=>
 some b4
def PW:mo:=⟨[(false,.x y3),(false,.x (.i .i64)),(false,.x y4)],[([.x .b],[])],true,[],fun p=>match p with|(p_0,k_1,m_2)=>qF p_0 k_1 m_2⟩
theorem QK:dL prog 74 PW:=cT eB eD (db:=db) (np:=3) (an:=[(3,{j:=some {vs:=[(6,.x .b)]}})]) (.cons QL .nil) (by kernel_rfl) (by kernel_rfl)
def ng(p_1:aE)(sw_3:Int)(h_4:Int)(i6:Int):(Int×Int)->Option ((Int×Int)⊕Int):=fun(i9,i10)=>
 bif decide (i10<(((aE.cZ p_1).l).length:Int))then((((e_ i10 ((aE.cZ p_1).l).length).bind fun n11=>
 bif((cn.Sw (gt ((aE.cZ p_1).l) n11))==sw_3)then((e_ i10 ((aE.cZ p_1).l).length).bind fun n12=>
 bif((cn.mr (gt ((aE.cZ p_1).l) n12))==h_4)then((e_ i10 ((aE.cZ p_1).l).length).bind fun n13=>
 (qF p_1 i6 (gt ((aE.cZ p_1).l) n13)).bind fun r14=>
 some r14)else
 (some false))else
 (some false):Option Bool).bind fun b15=>
 bif b15 then((e_ i10 ((aE.cZ p_1).l).length).bind fun n16=>
 some (cn.mq (gt ((aE.cZ p_1).l) n16)))else
 (some i9):Option Int).bind fun i17=>
 some (.inl (i17,wr .i64 (i10+1))))else
 (some (.inr i9))
def nf(p_1:aE)(k_2:Int)(sw_3:Int)(h_4:Int):(Int×Int)->Option ((Int×Int)⊕Int):=fun(i5,i6)=>
 bif decide (i6<k_2)then((br (ng p_1 sw_3 h_4 i6) (i5,0)).bind fun i18=>
 some (.inl (i18,wr .i64 (i6+1))))else
 (some (.inr i5))
def rE(old_0:Sl (Sl Int))(p_1:aE)(k_2:Int)(sw_3:Int)(h_4:Int):Option Int:=
 (e_ sw_3 old_0.l.length).bind fun n1=>
 (e_ h_4 ((gt old_0.l n1).l).length).bind fun n2=>
 (br (nf p_1 k_2 sw_3 h_4) (gt ((gt old_0.l n1).l) n2,0)).bind fun i19=>
 some i19
def PV:mo:=⟨[(false,.x (.sl (.sl (.i .i64)))),(false,.x y3),(false,.x (.i .i64)),(false,.x (.i .i64)),(false,.x (.i .i64))],[([.x (.i .i64)],[])],true,[],fun p=>match p with|(old_0,p_1,k_2,sw_3,h_4)=>rE old_0 p_1 k_2 sw_3 h_4⟩
theorem QJ:dL prog 37 PV:=cT eB eD (db:=db) (np:=5) (an:=[(7,{j:=some {vs:=[(11,.x (.i .i64)),(12,.x (.i .i64))]},e:=[(.exit 0,{vs:=[(11,.x (.i .i64))]})]}),(14,{j:=some {vs:=[(11,.x (.i .i64)),(13,.x (.i .i64))]},e:=[(.exit 2,{vs:=[(11,.x (.i .i64))]})]}),(18,{e:=[(.normal,{vs:=[(11,.x (.i .i64))]})]}),(20,{j:=some {vs:=[(60,.x .b)]}})]) (.cons QK .nil) (by kernel_rfl) (by kernel_rfl)
def oe(l_0:Sl Int)(x_1:Int):Int->Option (Int⊕(Bool⊕Unit)):=fun i2=>
 bif decide (i2<(l_0.l.length:Int))then((e_ i2 l_0.l.length).bind fun n3=>
 bif((gt l_0.l n3)==x_1)then(some (.inr (.inl true)))else
 (some (.inl (wr .i64 (i2+1)))))else
 (some (.inr (.inr ())))
def zr(l_0:Sl Int)(x_1:Int):Option Bool:=
 (br (oe l_0 x_1) 0).bind fun
 |.inl b4=>(some b4)
 |.inr _=>(some false)
def lk(some_3:Sl Int)(i4:Int):(Bool×Int)->Option ((Bool×Int)⊕Bool):=fun(b8,i9)=>
 bif decide (i9<(some_3.l.length:Int))then((bif b8 then(some true)else
 ((e_ i9 some_3.l.length).bind fun n10=>
 some ((gt some_3.l n10)==i4)):Option Bool).bind fun b11=>
 some (.inl (b11,wr .i64 (i9+1))))else
 (some (.inr b8))
def j9(old_0:Sl (Sl Int))(p_1:aE)(k_2:Int)(i4:Int)(b12:Bool):(Int×Sl Int)->Option ((Int×Sl Int)⊕(Sl Int)):=fun(i16,s17)=>
 (e_ i4 old_0.l.length).bind fun n18=>
 bif decide (i16<(((gt old_0.l n18).l).length:Int))then((bif b12 then((rE old_0 p_1 (wr .i64 (k_2+1)) i4 i16).bind fun r19=>
 (h_ (s17.l++[r19])).bind fun l20=>
 some (Sl.mk l20))else
 ((rE old_0 p_1 k_2 i4 i16).bind fun r21=>
 (h_ (s17.l++[r21])).bind fun l22=>
 some (Sl.mk l22)):Option (Sl Int)).bind fun s23=>
 some (.inl (wr .i64 (i16+1),s23)))else
 (some (.inr s17))
def lj(old_0:Sl (Sl Int))(p_1:aE)(k_2:Int)(some_3:Sl Int):(Int×Sl (Sl Int))->Option ((Int×Sl (Sl Int))⊕(Sl (Sl Int))):=fun(i4,s5)=>
 bif decide (i4<(old_0.l.length:Int))then((br (lk some_3 i4) (false,0)).bind fun b12=>
 (br (j9 old_0 p_1 k_2 i4 b12) (0,Sl.nil)).bind fun s24=>
 (h_ (s5.l++[s24])).bind fun l25=>
 some (.inl (wr .i64 (i4+1),(Sl.mk l25))))else
 (some (.inr s5))
def mN(old_0:Sl (Sl Int))(p_1:aE)(k_2:Int)(some_3:Sl Int):Option (Sl (Sl Int)):=
 (br (lj old_0 p_1 k_2 some_3) (0,Sl.nil)).bind fun s26=>
 some s26
def PU:mo:=⟨[(false,.x (.sl (.sl (.i .i64)))),(false,.x y3),(false,.x (.i .i64)),(false,.x (.sl (.i .i64)))],[([.x (.sl (.sl (.i .i64)))],[])],false,[],fun p=>match p with|(old_0,p_1,k_2,some_3)=>mN old_0 p_1 k_2 some_3⟩
theorem QH:dL prog 17 PU:=cT eB eD (db:=db) (np:=4) (an:=[(7,{j:=some {vs:=[(9,.so 0),(10,.x (.i .i64))],os:=[.ar (.sl (.i .i64))]},e:=[(.exit 0,{vs:=[(9,.so 0)],os:=[.ar (.sl (.i .i64))]})]}),(17,{j:=some {vs:=[(11,.x .b),(12,.x (.i .i64))]},e:=[(.exit 2,{vs:=[(11,.x .b)]})]}),(22,{j:=some {vs:=[(11,.x .b)]}}),(29,{j:=some {vs:=[(13,.so 0),(14,.x (.i .i64))],os:=[.ar (.i .i64)]},e:=[(.exit 4,{vs:=[(13,.so 0)],os:=[.ar (.i .i64)]})]}),(33,{e:=[(.normal,{vs:=[(13,.so 0)],os:=[.ar (.i .i64)],kl:=[2]})]})]) (.cons QJ .nil) (by kernel_rfl) (by kernel_rfl)
def mY(a_0:Sl Int)(b_1:Sl Int):Int->Option (Int⊕(Bool⊕Unit)):=fun i2=>
 bif decide (i2<(a_0.l.length:Int))then((e_ i2 a_0.l.length).bind fun n3=>
 (e_ i2 b_1.l.length).bind fun n4=>
 bif((gt a_0.l n3) !=(gt b_1.l n4))then(some (.inr (.inl false)))else
 (some (.inl (wr .i64 (i2+1)))))else
 (some (.inr (.inr ())))
def qG(a_0:Sl Int)(b_1:Sl Int):Option Bool:=
 bif((a_0.l.length:Int) !=(b_1.l.length:Int))then(some false)else
 ((br (mY a_0 b_1) 0).bind fun
 |.inl b5=>(some b5)
 |.inr _=>(some true))
def PT:mo:=⟨[(false,.x (.sl (.i .i64))),(false,.x (.sl (.i .i64)))],[([.x .b],[])],true,[],fun p=>match p with|(a_0,b_1)=>qG a_0 b_1⟩
theorem QG:dL prog 38 PT:=cT eB eD (db:=db) (np:=2) (an:=[(10,{j:=some {vs:=[(5,.x (.i .i64))]},e:=[(.ret,{vs:=[(4,.x .b)]}),(.exit 0,{})]})]) .nil (by kernel_rfl) (by kernel_rfl)
def mX(a_0:Sl (Sl Int))(b_1:Sl (Sl Int)):Int->Option (Int⊕(Bool⊕Unit)):=fun i2=>
 bif decide (i2<(a_0.l.length:Int))then((e_ i2 a_0.l.length).bind fun n3=>
 (e_ i2 b_1.l.length).bind fun n4=>
 (qG (gt a_0.l n3) (gt b_1.l n4)).bind fun r5=>
 bif(!r5)then(some (.inr (.inl false)))else
 (some (.inl (wr .i64 (i2+1)))))else
 (some (.inr (.inr ())))
def oM(a_0:Sl (Sl Int))(b_1:Sl (Sl Int)):Option Bool:=
 bif((a_0.l.length:Int) !=(b_1.l.length:Int))then(some false)else
 ((br (mX a_0 b_1) 0).bind fun
 |.inl b6=>(some b6)
 |.inr _=>(some true))
def PS:mo:=⟨[(false,.x (.sl (.sl (.i .i64)))),(false,.x (.sl (.sl (.i .i64))))],[([.x .b],[])],true,[],fun p=>match p with|(a_0,b_1)=>oM a_0 b_1⟩
theorem QF:dL prog 18 PS:=cT eB eD (db:=db) (np:=2) (an:=[(10,{j:=some {vs:=[(5,.x (.i .i64))]},e:=[(.ret,{vs:=[(4,.x .b)]}),(.exit 0,{})]})]) (.cons QG .nil) (by kernel_rfl) (by kernel_rfl)
def mO(t_0:ah)(old_1:Sl (Sl Int))(now_2:Sl (Sl Int))(p_3:aE)(k_4:Int)(some_5:Sl Int):Option Bool:=
 ((nr t_0 old_1 now_2 p_3).bind fun r1=>
 bif((((!r1)||(decide ((some_5.l.length:Int)>20)))||(decide (k_4<0)))||(decide (k_4>=(((aE.bc p_3).l).length:Int))))then(some true)else
 ((qL p_3).bind fun r2=>
 (ie t_0 old_1 now_2 r2).bind fun r3=>
 some (decide ((r3.l.length:Int)>0))):Option Bool).bind fun b4=>
 bif b4 then((kF).bind fun r5=>
 some r5)else
 (((mN old_1 p_3 k_4 some_5).bind fun r6=>
 (iC t_0 r6).bind fun r7=>
 bif r7 then((mN old_1 p_3 (((aE.bc p_3).l).length:Int) Sl.nil).bind fun r8=>
 (oM r8 now_2).bind fun r9=>
 bif r9 then((kF).bind fun r10=>
 some r10)else
 (some false))else
 (some false):Option Bool).bind fun b11=>
 some b11)
def PR:mo:=⟨[(false,.x y0),(false,.x (.sl (.sl (.i .i64)))),(false,.x (.sl (.sl (.i .i64)))),(false,.x y3),(false,.x (.i .i64)),(false,.x (.sl (.i .i64)))],[([.x .b],[])],true,[],fun p=>match p with|(t_0,old_1,now_2,p_3,k_4,some_5)=>mO t_0 old_1 now_2 p_3 k_4 some_5⟩
theorem QE:dL prog 4 PR:=cT eB eD (db:=db) (np:=6) (an:=[(4,{j:=some {vs:=[(44,.x .b)]}}),(8,{j:=some {vs:=[(12,.x .b)]}})]) (.cons R1 (.cons QM (.cons O4 (.cons QO (.cons QH (.cons O8 (.cons QF .nil))))))) (by kernel_rfl) (by kernel_rfl)
end Go.Proofs.YthcplpfiidlinaaDoor.J
