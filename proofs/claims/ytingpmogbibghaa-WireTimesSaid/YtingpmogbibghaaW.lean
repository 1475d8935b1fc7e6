/- What functions of the program compute, and that the model's run computes it. Conditions: as stated. -/
import Derived.Test.YtingpmogbibghaaKm
import Derived.Test.YtingpmogbibghaaEvW
import Derived.Test.YtingpmogbibghaaChecked
import Derived.KernelRfl
open Go.Ev Go
noncomputable section
namespace Go.Proofs.Ytingpmogbibghaa.W
abbrev prog:Program:=Try.prog
theorem iV:prog.follows .mixedOrders=true:=by kernel_rfl
theorem kx:Mi:=G2 fun _=>rfl
def QC:pT:=fun f=>if f=7 then(true,[])else if f=8 then(true,[])else if f=43 then(true,[])else if f=46 then(true,[])else if f=47 then(false,[true,true,false])else if f=48 then(true,[])else if f=49 then(true,[])else if f=50 then(true,[])else if f=51 then(true,[])else if f=52 then(false,[true,false])else if f=53 then(false,[true,false,false])else if f=54 then(true,[])else if f=55 then(false,[true,false,false,false,false,false])else if f=71 then(true,[])else if f=74 then(true,[])else if f=90 then(true,[])else if f=92 then(true,[])else if f=93 then(false,[true,false,false,false,false,false])else if f=94 then(false,[true,false,false])else if f=95 then(true,[])else if f=96 then(true,[])else if f=97 then(false,[true,false])else if f=98 then(true,[])else if f=99 then(true,[])else if f=100 then(true,[])else if f=101 then(true,[])else if f=102 then(true,[])else if f=103 then(true,[true,false])else if f=104 then(false,[true,false,false])else if f=130 then(true,[])else if f=132 then(false,[true,false])else if f=133 then(true,[true,false,false])else if f=151 then(true,[true,false,false,false])else if f=152 then(true,[true,false,false,false,false])else if f=162 then(true,[true,false,false,false,false])else if f=163 then(true,[true,false,false,false,false])else if f=165 then(true,[true,false,false,false,false])else if f=177 then(true,[true,false,false,false,false])else(false,[])
@[reducible] def qb:Type:=Int×Int×Int×Int×Int×Int
@[reducible] def qb.A (x:qb):Int:=x.1
@[reducible] def qb.Q8 (x:qb):Int:=x.2.1
@[reducible] def qb.B (x:qb):Int:=x.2.2.1
@[reducible] def qb.Q7 (x:qb):Int:=x.2.2.2.1
@[reducible] def qb.Rl (x:qb):Int:=x.2.2.2.2.1
@[reducible] def qb.RX (x:qb):Int:=x.2.2.2.2.2
@[reducible] def Q6:Type:=Int×Int
@[reducible] def Q6.At (x:Q6):Int:=x.1
@[reducible] def Q6.RP (x:Q6):Int:=x.2
@[reducible] def l8:Type:=Int×Sl qb×Sl Q6
@[reducible] def l8.QB (x:l8):Int:=x.1
@[reducible] def l8.qa (x:l8):Sl qb:=x.2.1
@[reducible] def l8.Qy (x:l8):Sl Q6:=x.2.2
@[reducible] def rx:Type:=Int×Int×Int×Int×Int×Int×Arr 4 Int
@[reducible] def rx.T2 (x:rx):Int:=x.1
@[reducible] def rx.TC (x:rx):Int:=x.2.1
@[reducible] def rx.Sw (x:rx):Int:=x.2.2.1
@[reducible] def rx.RP (x:rx):Int:=x.2.2.2.1
@[reducible] def rx.Id (x:rx):Int:=x.2.2.2.2.1
@[reducible] def rx.K (x:rx):Int:=x.2.2.2.2.2.1
@[reducible] def rx.P (x:rx):Arr 4 Int:=x.2.2.2.2.2.2
@[reducible] def ry:Type:=Int×Int
@[reducible] def ry.sw (x:ry):Int:=x.1
@[reducible] def ry.Sr (x:ry):Int:=x.2
@[reducible] def y0:Ty:=.st (.pr (.i .i64) (.i .i64))
@[reducible] def y2:Ty:=.st (.pr (.i .i64) (.pr (.i .i64) (.pr (.i .i64) (.pr (.i .i64) (.pr (.i .i64) (.i .i64))))))
@[reducible] def y1:Ty:=.st (.pr (.i .i64) (.pr (.sl y2) (.sl y0)))
@[reducible] def nn:Type:=Int×Int×Int×Arr 4 Int×Int×Int
@[reducible] def nn.Id (x:nn):Int:=x.1
@[reducible] def nn.Sw (x:nn):Int:=x.2.1
@[reducible] def nn.RP (x:nn):Int:=x.2.2.1
@[reducible] def nn.P (x:nn):Arr 4 Int:=x.2.2.2.1
@[reducible] def nn.Sn (x:nn):Int:=x.2.2.2.2.1
@[reducible] def nn.QQ (x:nn):Int:=x.2.2.2.2.2
@[reducible] def sy:Type:=l8×Sl nn
@[reducible] def sy.t (x:sy):l8:=x.1
@[reducible] def sy.l (x:sy):Sl nn:=x.2
@[reducible] def y4:Ty:=.st (.pr (.i .i64) (.pr (.i .i64) (.pr (.i .i64) (.pr (.ar 4 (.i .i64)) (.pr (.i .i64) (.i .i64))))))
@[reducible] def y3:Ty:=.st (.pr y1 (.sl y4))
@[reducible] def sx:Type:=Int×Int×Int×Arr 4 Int×Int×Int
@[reducible] def sx.Id (x:sx):Int:=x.1
@[reducible] def sx.Sw (x:sx):Int:=x.2.1
@[reducible] def sx.RP (x:sx):Int:=x.2.2.1
@[reducible] def sx.P (x:sx):Arr 4 Int:=x.2.2.2.1
@[reducible] def sx.Sn (x:sx):Int:=x.2.2.2.2.1
@[reducible] def sx.QQ (x:sx):Int:=x.2.2.2.2.2
@[reducible] def Q5:Type:=l8×Sl sx
@[reducible] def Q5.T (x:Q5):l8:=x.1
@[reducible] def Q5.L (x:Q5):Sl sx:=x.2
@[reducible] def y5:Ty:=.st (.pr (.i .i64) (.pr (.i .i64) (.pr (.i .i64) (.pr (.i .i64) (.pr (.i .i64) (.pr (.i .i64) (.ar 4 (.i .i64))))))))
def Rq(t_0:l8):(Int×Sl ry)->Option ((Int×Sl ry)⊕(Sl ry)):=fun(i4,s5)=>
 bif decide (i4<(((l8.qa t_0).l).length:Int))then((rM i4 ((l8.qa t_0).l).length).bind fun n6=>
 (pO (s5.l++[(⟨qb.A (gt ((l8.qa t_0).l) n6),qb.Q8 (gt ((l8.qa t_0).l) n6)⟩:ry),(⟨qb.B (gt ((l8.qa t_0).l) n6),qb.Q7 (gt ((l8.qa t_0).l) n6)⟩:ry)])).bind fun l7=>
 some (.inl (wr .i64 (i4+1),(Sl.mk l7))))else
 (some (.inr s5))
def Rp(t_0:l8):(Int×Sl ry)->Option ((Int×Sl ry)⊕(Sl ry)):=fun(i11,s12)=>
 bif decide (i11<(((l8.Qy t_0).l).length:Int))then((rM i11 ((l8.Qy t_0).l).length).bind fun n13=>
 (pO (s12.l++[gt ((l8.Qy t_0).l) n13])).bind fun l14=>
 some (.inl (wr .i64 (i11+1),(Sl.mk l14))))else
 (some (.inr s12))
def RI(t_0:l8):Option (Sl ry):=
 (zu (Rq t_0) (0,Sl.nil)).bind fun s8=>
 (zu (Rp t_0) (0,s8)).bind fun s15=>
 some s15
def UI:pE:=⟨[(false,.x y1)],[([.x (.sl y0)],[])],false,[],fun p=>match p with|t_0=>RI t_0⟩
theorem Jn:gg prog 131 UI:=iF iV kx (QC:=QC) (np:=1) (an:=[(7,{j:=some {vs:=[(3,.so 0),(11,.x (.i .i64))],os:=[.ar y0]},e:=[(.exit 0,{vs:=[(3,.so 0)],os:=[.ar y0]})]}),(19,{j:=some {vs:=[(3,.so 0),(32,.x (.i .i64))],os:=[.ar y0],kl:=[1]},e:=[(.exit 2,{vs:=[(3,.so 0)],os:=[.ar y0],kl:=[1]})]})]) .nil (by kernel_rfl) (by kernel_rfl)
def Rw(t_0:l8):Int->Option (Int⊕(Bool⊕Unit)):=fun i2=>
 bif decide (i2<(((l8.qa t_0).l).length:Int))then((rM i2 ((l8.qa t_0).l).length).bind fun n3=>
 bif(((((qb.A (gt ((l8.qa t_0).l) n3))==(qb.B (gt ((l8.qa t_0).l) n3)))||(decide ((qb.Rl (gt ((l8.qa t_0).l) n3))<1)))||(decide ((qb.Rl (gt ((l8.qa t_0).l) n3))>(qb.RX (gt ((l8.qa t_0).l) n3)))))||(decide ((qb.RX (gt ((l8.qa t_0).l) n3))>1000)))then(some (.inr (.inl false)))else
 (some (.inl (wr .i64 (i2+1)))))else
 (some (.inr (.inr ())))
def QW(t_0:l8)(r5:Sl ry):(Int×Mp ry Int)->Option ((Int×Mp ry Int)⊕(Bool⊕Unit)):=fun(i9,m10)=>
 bif decide (i9<(r5.l.length:Int))then((rM i9 r5.l.length).bind fun n11=>
 (zr ((md m10 0 (gt r5.l n11)).1) ((md m10 0 (gt r5.l n11)).2.2) (wr .i64 ((sK m10 0 (gt r5.l n11))+1))).bind fun m12=>
 bif(((((decide ((ry.sw (gt r5.l n11))<0))||(decide ((ry.sw (gt r5.l n11))>=(l8.QB t_0))))||(decide ((ry.Sr (gt r5.l n11))<0)))||(decide ((ry.Sr (gt r5.l n11))>=8)))||(decide ((sK m12 0 (gt r5.l n11))>1)))then(some (.inr (.inl false)))else
 (some (.inl (wr .i64 (i9+1),m12))))else
 (some (.inr (.inr ())))
def RS(t_0:l8):Option Bool:=
 bif((((decide ((l8.QB t_0)<1))||(decide ((l8.QB t_0)>8)))||(decide ((((l8.qa t_0).l).length:Int)>24)))||(decide ((((l8.Qy t_0).l).length:Int)>8)))then(some false)else
 ((zu (Rw t_0) 0).bind fun
 |.inl b4=>(some b4)
 |.inr _=>((RI t_0).bind fun r5=>
 (zu (QW t_0 r5) (0,(Mp.none:Mp ry Int))).bind fun
 |.inl b13=>(some b13)
 |.inr _=>(some true)))
def JW:pE:=⟨[(false,.x y1)],[([.x .b],[])],true,[],fun p=>match p with|t_0=>RS t_0⟩
theorem J1:gg prog 92 JW:=iF iV kx (QC:=QC) (np:=1) (an:=[(10,{j:=some {vs:=[(31,.x (.i .i64))]},e:=[(.ret,{vs:=[(2,.x .b)]}),(.exit 0,{})]}),(27,{j:=some {vs:=[(5,.om 0),(62,.x (.i .i64))],os:=[.mp y0 (.i .i64)],kl:=[1]},e:=[(.ret,{vs:=[(2,.x .b)],kl:=[1]}),(.exit 2,{kl:=[1]})]})]) (.cons Jn .nil) (by kernel_rfl) (by kernel_rfl)
def R4(t_0:l8):Option (Int⊕(l8×Sl nn×Int)):=
 (RS t_0).bind fun r1=>
 bif(!r1)then(some (.inl 2))else
 (some (.inr (t_0,Sl.nil,0)))
def Lv:pE:=⟨[(false,.x y1)],[([.nl 1,.x (.i .i64)],[]),([.pb y3 (.st (.pr (.x y1) (.pr (.os y4) .ni))),.x (.i .i64)],[])],false,[],fun p=>match p with|t_0=>R4 t_0⟩
theorem Ly:gg prog 44 Lv:=iF iV kx (QC:=QC) (np:=1) (an:=[]) (.cons J1 .nil) (by kernel_rfl) (by kernel_rfl)
def RH(now_1:Int)(sw_2:Int)(port_3:Int)(id_4:Int)(p_5:Arr 4 Int):Option Int:=some 1
def JU:pE:=⟨[(true,.nl 1),(false,.x (.i .i64)),(false,.x (.i .i64)),(false,.x (.i .i64)),(false,.x (.i .i64)),(false,.x (.ar 4 (.i .i64)))],[([.x (.i .i64)],[.nl 1])],false,[true,false,false,false,false,false],fun p=>match p with|(now_1,sw_2,port_3,id_4,p_5)=>RH now_1 sw_2 port_3 id_4 p_5⟩
theorem J0:gg prog 55 JU:=iF iV kx (QC:=QC) (np:=6) (an:=[]) .nil (by kernel_rfl) (by kernel_rfl)
def R1(k_1:Int):Option (nn×Int):=some ((⟨0,0,0,(lX (.ar 4 (.i .i64))),0,0⟩:nn),1)
def JT:pE:=⟨[(false,.nl 1),(false,.x (.i .i64))],[([.x y4,.x (.i .i64)],[])],true,[],fun p=>match p with|k_1=>R1 k_1⟩
theorem JZ:gg prog 98 JT:=iF iV kx (QC:=QC) (np:=2) (an:=[]) .nil (by kernel_rfl) (by kernel_rfl)
def QT(now_1:Int)(k_2:Int):Option (nn×Int):=
 (R1 k_2).bind fun(r1,r2)=>
 bif(r2 !=0)then(some (r1,r2))else
 (bif decide (now_1<(nn.Sn r1))then(some ((⟨0,0,0,(lX (.ar 4 (.i .i64))),0,0⟩:nn),15))else
 (none))
def JS:pE:=⟨[(true,.nl 1),(false,.x (.i .i64)),(false,.x (.i .i64))],[([.x y4,.x (.i .i64)],[.nl 1])],false,[true,false,false],fun p=>match p with|(now_1,k_2)=>QT now_1 k_2⟩
theorem JJ:gg prog 53 JS:=iF iV kx (QC:=QC) (np:=3) (an:=[]) (.cons JZ .nil) (by kernel_rfl) (by kernel_rfl)
def Rm:Option Int:=some 0
def JR:pE:=⟨[(false,.nl 1)],[([.x (.i .i64)],[])],true,[],fun p=>match p with|_=>Rm⟩
theorem JY:gg prog 48 JR:=iF iV kx (QC:=QC) (np:=1) (an:=[]) .nil (by kernel_rfl) (by kernel_rfl)
def QU:Option Int:=
 (Rm).bind fun r1=>
 bif(r1==0)then(some (-1))else
 (none)
def Lu:pE:=⟨[(false,.nl 1)],[([.x (.i .i64)],[])],true,[],fun p=>match p with|_=>QU⟩
theorem Lx:gg prog 49 Lu:=iF iV kx (QC:=QC) (np:=1) (an:=[]) (.cons JY .nil) (by kernel_rfl) (by kernel_rfl)
def RK(t_0:l8)(sw_1:Int)(port_2:Int):Int->Option (Int⊕((Int×Int×Int×Bool)⊕Unit)):=fun i2=>
 bif decide (i2<(((l8.qa t_0).l).length:Int))then((rM i2 ((l8.qa t_0).l).length).bind fun n3=>
 bif decide ((⟨sw_1,port_2⟩:ry)=(⟨qb.A (gt ((l8.qa t_0).l) n3),qb.Q8 (gt ((l8.qa t_0).l) n3)⟩:ry))then(some (.inr (.inl (qb.B (gt ((l8.qa t_0).l) n3),qb.Q7 (gt ((l8.qa t_0).l) n3),i2,true))))else
 (bif decide ((⟨sw_1,port_2⟩:ry)=(⟨qb.B (gt ((l8.qa t_0).l) n3),qb.Q7 (gt ((l8.qa t_0).l) n3)⟩:ry))then(some (.inr (.inl (qb.A (gt ((l8.qa t_0).l) n3),qb.Q8 (gt ((l8.qa t_0).l) n3),i2,true))))else
 (some (.inl (wr .i64 (i2+1))))))else
 (some (.inr (.inr ())))
def R3(t_0:l8)(sw_1:Int)(port_2:Int):Option (Int×Int×Int×Bool):=
 (zu (RK t_0 sw_1 port_2) 0).bind fun
 |.inl (i4,i5,i6,b7)=>(some (i4,i5,i6,b7))
 |.inr _=>(some (0,0,0,false))
def Lt:pE:=⟨[(false,.x y1),(false,.x (.i .i64)),(false,.x (.i .i64))],[([.x (.i .i64),.x (.i .i64),.x (.i .i64),.x .b],[])],true,[],fun p=>match p with|(t_0,sw_1,port_2)=>R3 t_0 sw_1 port_2⟩
theorem Lw:gg prog 74 Lt:=iF iV kx (QC:=QC) (np:=3) (an:=[(7,{j:=some {vs:=[(21,.x (.i .i64))]},e:=[(.ret,{vs:=[(6,.x (.i .i64)),(7,.x (.i .i64)),(8,.x (.i .i64)),(9,.x .b)]}),(.exit 0,{})]})]) .nil (by kernel_rfl) (by kernel_rfl)
def QR(w_0_t:l8)(w_0_l:Sl nn)(now_1:Int)(sw_2:Int)(port_3:Int)(id_4:Int)(p_5:Arr 4 Int):Option (Int×l8×Sl nn):=
 (R3 w_0_t sw_2 port_3).bind fun(r1,r2,r3,r4)=>
 bif(!r4)then(some (7,w_0_t,w_0_l))else
 (bif decide ((w_0_l.l.length:Int)>=256)then(some (6,w_0_t,w_0_l))else
 ((rM r3 ((l8.qa w_0_t).l).length).bind fun n5=>
 (pO (w_0_l.l++[(⟨id_4,r1,r2,p_5,wr .i64 (now_1+(qb.Rl (gt ((l8.qa w_0_t).l) n5))),wr .i64 (now_1+(qb.RX (gt ((l8.qa w_0_t).l) n5)))⟩:nn)])).bind fun l6=>
 some (0,w_0_t,(Sl.mk l6))))
def JQ:pE:=⟨[(true,.pb y3 (.st (.pr (.x y1) (.pr (.os y4) .ni)))),(false,.x (.i .i64)),(false,.x (.i .i64)),(false,.x (.i .i64)),(false,.x (.i .i64)),(false,.x (.ar 4 (.i .i64)))],[([.x (.i .i64)],[.pb y3 (.st (.pr (.x y1) (.pr (.os y4) .ni)))])],false,[true,false,false,false,false,false],fun p=>match p with|(w_0_t,w_0_l,now_1,sw_2,port_3,id_4,p_5)=>QR w_0_t w_0_l now_1 sw_2 port_3 id_4 p_5⟩
theorem JX:gg prog 55 JQ:=iF iV kx (QC:=QC) (np:=6) (an:=[]) (.cons Lw .nil) (by kernel_rfl) (by kernel_rfl)
def RE(w_0:sy)(k_1:Int):Option (nn×Int):=
 bif((decide (k_1<0))||(decide (k_1>=(((sy.l w_0).l).length:Int))))then(some ((⟨0,0,0,(lX (.ar 4 (.i .i64))),0,0⟩:nn),7))else
 ((rM k_1 ((sy.l w_0).l).length).bind fun n1=>
 some (gt ((sy.l w_0).l) n1,0))
def UA:pE:=⟨[(false,.pt y3),(false,.x (.i .i64))],[([.x y4,.x (.i .i64)],[])],true,[],fun p=>match p with|(w_0,k_1)=>RE w_0 k_1⟩
theorem Jm:gg prog 98 UA:=iF iV kx (QC:=QC) (np:=2) (an:=[]) .nil (by kernel_rfl) (by kernel_rfl)
def QF(s_0:Sl nn):Option (Sl nn):=
 bif s_0.QH then(some Sl.nil)else
 ((pO ([]++s_0.l)).bind fun l1=>
 some (pR (Sl.mk []) s_0.l l1))
def I8:pE:=⟨[(false,.x (.sl y4))],[([.os y4],[])],false,[],fun p=>match p with|s_0=>QF s_0⟩
theorem Jl:gg prog 105 I8:=iF iV kx (QC:=QC) (np:=1) (an:=[]) .nil (by kernel_rfl) (by kernel_rfl)
theorem Ay:gg prog 104 (Ue y4):=Uw iV (QC:=QC) (nt:=33) (z:=iU y4) (by kernel_rfl) (by kernel_rfl)
def QI(w_0_t:l8)(w_0_l:Sl nn)(now_1:Int)(k_2:Int):Option (nn×Int×l8×Sl nn):=
 (RE (⟨w_0_t,w_0_l⟩:sy) k_2).bind fun(r1,r2)=>
 bif(r2 !=0)then(some (r1,r2,w_0_t,w_0_l))else
 (bif decide (now_1<(nn.Sn r1))then(some ((⟨0,0,0,(lX (.ar 4 (.i .i64))),0,0⟩:nn),15,w_0_t,w_0_l))else
 ((QF w_0_l).bind fun s3=>
 (TJ s3 k_2 (wr .i64 (k_2+1))).bind fun s4=>
 some (r1,0,w_0_t,s4)))
def I6:pE:=⟨[(true,.pb y3 (.st (.pr (.x y1) (.pr (.os y4) .ni)))),(false,.x (.i .i64)),(false,.x (.i .i64))],[([.x y4,.x (.i .i64)],[.pb y3 (.st (.pr (.x y1) (.pr (.os y4) .ni)))])],false,[true,false,false],fun p=>match p with|(w_0_t,w_0_l,now_1,k_2)=>QI w_0_t w_0_l now_1 k_2⟩
theorem Il:gg prog 53 I6:=iF iV kx (QC:=QC) (np:=3) (an:=[]) (.cons Jm (.cons Jl (.cons Ay .nil))) (by kernel_rfl) (by kernel_rfl)
def Rf(w_0:sy):Option Int:=some (((sy.l w_0).l).length:Int)
def I5:pE:=⟨[(false,.pt y3)],[([.x (.i .i64)],[])],true,[],fun p=>match p with|w_0=>Rf w_0⟩
theorem Jk:gg prog 48 I5:=iF iV kx (QC:=QC) (np:=1) (an:=[]) .nil (by kernel_rfl) (by kernel_rfl)
def ME(x_0:Int):Option Bool:=some (x_0 !=x_0)
def I4:pE:=⟨[(false,.x (.i .i64))],[([.x .b],[])],true,[],fun p=>match p with|x_0=>ME x_0⟩
theorem Ik:gg prog 130 I4:=iF iV kx (QC:=QC) (np:=1) (an:=[]) .nil (by kernel_rfl) (by kernel_rfl)
def Mm(x_0:Int)(y_1:Int):Option Int:=
 (ME x_0).bind fun r1=>
 (ME y_1).bind fun r2=>
 bif r1 then(bif r2 then(some 0)else
 (some (-1)))else
 (bif r2 then(some 1)else
 (bif decide (x_0<y_1)then(some (-1))else
 (bif decide (x_0>y_1)then(some 1)else
 (some 0))))
def I3:pE:=⟨[(false,.x (.i .i64)),(false,.x (.i .i64))],[([.x (.i .i64)],[])],true,[],fun p=>match p with|(x_0,y_1)=>Mm x_0 y_1⟩
theorem Jj:gg prog 90 I3:=iF iV kx (QC:=QC) (np:=2) (an:=[]) (.cons Ik .nil) (by kernel_rfl) (by kernel_rfl)
def QE(a_0:nn)(b_1:nn):Option Int:=
 (Mm (nn.QQ a_0) (nn.QQ b_1)).bind fun r1=>
 some r1
def I2:pE:=⟨[(false,.x y4),(false,.x y4)],[([.x (.i .i64)],[])],true,[],fun p=>match p with|(a_0,b_1)=>QE a_0 b_1⟩
theorem Ji:gg prog 101 I2:=iF iV kx (QC:=QC) (np:=2) (an:=[]) (.cons Jj .nil) (by kernel_rfl) (by kernel_rfl)
def su(x_0:Sl nn):(Int×nn)->Option ((Int×nn)⊕nn):=fun(i5,x6)=>
 bif decide (i5<(x_0.l.length:Int))then(((rM i5 x_0.l.length).bind fun n7=>
 (QE (gt x_0.l n7) x6).bind fun r8=>
 bif decide (r8<0)then((rM i5 x_0.l.length).bind fun n9=>
 some (gt x_0.l n9))else
 (some x6):Option nn).bind fun x10=>
 some (.inl (wr .i64 (i5+1),x10)))else
 (some (.inr x6))
def wi(x_0:Sl nn):Option nn:=
 bif decide ((x_0.l.length:Int)<1)then(none)else
 ((rM 0 x_0.l.length).bind fun n1=>
 (zu (su x_0) (1,gt x_0.l n1)).bind fun x11=>
 some x11)
def I1:pE:=⟨[(false,.x (.sl y4)),(false,.fn 101 .ni)],[([.x y4],[])],true,[],fun p=>match p with|x_0=>wi x_0⟩
theorem Jh:gg prog 100 I1:=iF iV kx (QC:=QC) (np:=2) (an:=[(11,{j:=some {vs:=[(5,.op 0 y4 []),(6,.x (.i .i64))],os:=[.bx y4 (.x y4)],kl:=[1]},e:=[(.exit 0,{vs:=[(5,.op 0 y4 [])],os:=[.bx y4 (.x y4)],kl:=[1]})]}),(15,{e:=[(.normal,{vs:=[(5,.op 0 y4 [])],os:=[.bx y4 (.x y4)],kl:=[2]})]})]) (.cons Ji .nil) (by kernel_rfl) (by kernel_rfl)
def QM(w_0:sy):Option Int:=
 (Rf w_0).bind fun r1=>
 bif(r1==0)then(some (-1))else
 ((wi (sy.l w_0)).bind fun r2=>
 some (nn.QQ r2))
def I0:pE:=⟨[(false,.pt y3)],[([.x (.i .i64)],[])],true,[],fun p=>match p with|w_0=>QM w_0⟩
theorem Jg:gg prog 49 I0:=iF iV kx (QC:=QC) (np:=1) (an:=[]) (.cons Jk (.cons Jh .nil)) (by kernel_rfl) (by kernel_rfl)
def Rk:Option Bool:=
 (R4 (⟨2,(Sl.mk [(⟨0,0,1,3,2,5⟩:qb)]),Sl.nil⟩:l8)).bind fun
 |.inl r1=>((RH 10 0 0 7 (Arr.set (lX (.ar 4 (.i .i64))) 0 1)).bind fun r2=>
 (QT 11 0).bind fun(r3,r4)=>
 (QU).bind fun r5=>
 (QT 12 0).bind fun(r6,r7)=>
 (bif((((((((r1==0)&&(r2==0))&&(r4==15))&&(r5==15))&&(r7==0))&&((nn.Id r6)==7))&&((nn.Sw r6)==1))&&((nn.RP r6)==3))then((Rm).bind fun r8=>
 bif(r8==0)then((QU).bind fun r9=>
 some (r9==(-1)))else
 (some false))else
 (some false):Option Bool).bind fun b10=>
 some b10)
 |.inr (r11,s12,r13)=>((QR r11 s12 10 0 0 7 (Arr.set (lX (.ar 4 (.i .i64))) 0 1)).bind fun(r14,q15,s16)=>
 (QI q15 s16 11 0).bind fun(r17,r18,q19,s20)=>
 (QM (⟨q19,s20⟩:sy)).bind fun r21=>
 (QI q19 s20 12 0).bind fun(r22,r23,q24,s25)=>
 (bif((((((((r13==0)&&(r14==0))&&(r18==15))&&(r21==15))&&(r23==0))&&((nn.Id r22)==7))&&((nn.Sw r22)==1))&&((nn.RP r22)==3))then((Rf (⟨q24,s25⟩:sy)).bind fun r26=>
 bif(r26==0)then((QM (⟨q24,s25⟩:sy)).bind fun r27=>
 some (r27==(-1)))else
 (some false))else
 (some false):Option Bool).bind fun b28=>
 some b28)
def IZ:pE:=⟨[],[([.x .b],[])],true,[],fun p=>match p with|_=>Rk⟩
theorem Jf:gg prog 43 IZ:=iF iV kx (QC:=QC) (np:=0) (an:=[(13,{j:=some {vs:=[(0,.x .b)]}})]) (.cons Ly (.cons J0 (.cons JJ (.cons Lx (.cons JY (.cons JX (.cons Il (.cons Jg (.cons Jk .nil))))))))) (by kernel_rfl) (by kernel_rfl)
def Ry(t_0:l8)(sw_1:Int)(p_2:Int):(Int×Int)->Option ((Int×Int)⊕Int):=fun(i3,i4)=>
 bif decide (i4<(((l8.qa t_0).l).length:Int))then(((rM i4 ((l8.qa t_0).l).length).bind fun n5=>
 (bif(((qb.A (gt ((l8.qa t_0).l) n5))==sw_1)&&((qb.Q8 (gt ((l8.qa t_0).l) n5))==p_2))then(some (wr .i64 (i3+1)))else
 (some i3):Option Int).bind fun i6=>
 bif(((qb.B (gt ((l8.qa t_0).l) n5))==sw_1)&&((qb.Q7 (gt ((l8.qa t_0).l) n5))==p_2))then(some (wr .i64 (i6+1)))else
 (some i6):Option Int).bind fun i7=>
 some (.inl (i7,wr .i64 (i4+1))))else
 (some (.inr i3))
def Rx(t_0:l8)(sw_1:Int)(p_2:Int):(Int×Int)->Option ((Int×Int)⊕Int):=fun(i11,i12)=>
 bif decide (i12<(((l8.Qy t_0).l).length:Int))then((((rM i12 ((l8.Qy t_0).l).length).bind fun n13=>
 bif((Q6.At (gt ((l8.Qy t_0).l) n13))==sw_1)then((rM i12 ((l8.Qy t_0).l).length).bind fun n14=>
 some ((Q6.RP (gt ((l8.Qy t_0).l) n14))==p_2))else
 (some false):Option Bool).bind fun b15=>
 bif b15 then(some (wr .i64 (i11+1)))else
 (some i11):Option Int).bind fun i16=>
 some (.inl (i16,wr .i64 (i12+1))))else
 (some (.inr i11))
def RW(t_0:l8)(sw_1:Int)(p_2:Int):Option Bool:=
 (zu (Ry t_0 sw_1 p_2) (0,0)).bind fun i8=>
 (zu (Rx t_0 sw_1 p_2) (i8,0)).bind fun i17=>
 some (((((decide (sw_1>=0))&&(decide (sw_1<(l8.QB t_0))))&&(decide (p_2>=0)))&&(decide (p_2<=7)))&&(i17==1))
def P2:pE:=⟨[(false,.x y1),(false,.x (.i .i64)),(false,.x (.i .i64))],[([.x .b],[])],true,[],fun p=>match p with|(t_0,sw_1,p_2)=>RW t_0 sw_1 p_2⟩
theorem Qp:gg prog 102 P2:=iF iV kx (QC:=QC) (np:=3) (an:=[(7,{j:=some {vs:=[(7,.x (.i .i64)),(8,.x (.i .i64))]},e:=[(.exit 0,{vs:=[(7,.x (.i .i64))]})]}),(11,{e:=[(.normal,{vs:=[(7,.x (.i .i64))]})]}),(14,{e:=[(.normal,{vs:=[(7,.x (.i .i64))]})]}),(25,{j:=some {vs:=[(7,.x (.i .i64)),(10,.x (.i .i64))]},e:=[(.exit 2,{vs:=[(7,.x (.i .i64))]})]}),(29,{e:=[(.normal,{vs:=[(7,.x (.i .i64))]})]}),(31,{j:=some {vs:=[(71,.x .b)]}})]) .nil (by kernel_rfl) (by kernel_rfl)
def RM(t_0:l8):Int->Option (Int⊕(Bool⊕Unit)):=fun i2=>
 bif decide (i2<(((l8.qa t_0).l).length:Int))then((rM i2 ((l8.qa t_0).l).length).bind fun n3=>
 (bif(((((qb.A (gt ((l8.qa t_0).l) n3))==(qb.B (gt ((l8.qa t_0).l) n3)))||(decide ((qb.Rl (gt ((l8.qa t_0).l) n3))<1)))||(decide ((qb.Rl (gt ((l8.qa t_0).l) n3))>(qb.RX (gt ((l8.qa t_0).l) n3)))))||(decide ((qb.RX (gt ((l8.qa t_0).l) n3))>1000)))then(some true)else
 ((RW t_0 (qb.A (gt ((l8.qa t_0).l) n3)) (qb.Q8 (gt ((l8.qa t_0).l) n3))).bind fun r4=>
 bif(!r4)then(some true)else
 ((RW t_0 (qb.B (gt ((l8.qa t_0).l) n3)) (qb.Q7 (gt ((l8.qa t_0).l) n3))).bind fun r5=>
 some (!r5))):Option Bool).bind fun b6=>
 bif b6 then(some (.inr (.inl false)))else
 (some (.inl (wr .i64 (i2+1)))))else
 (some (.inr (.inr ())))
def RL(t_0:l8):Int->Option (Int⊕(Bool⊕Unit)):=fun i9=>
 bif decide (i9<(((l8.Qy t_0).l).length:Int))then((rM i9 ((l8.Qy t_0).l).length).bind fun n10=>
 (rM i9 ((l8.Qy t_0).l).length).bind fun n11=>
 (RW t_0 (Q6.At (gt ((l8.Qy t_0).l) n10)) (Q6.RP (gt ((l8.Qy t_0).l) n11))).bind fun r12=>
 bif(!r12)then(some (.inr (.inl false)))else
 (some (.inl (wr .i64 (i9+1)))))else
 (some (.inr (.inr ())))
def R9(t_0:l8):Option Bool:=
 bif((((decide ((l8.QB t_0)<1))||(decide ((l8.QB t_0)>8)))||(decide ((((l8.qa t_0).l).length:Int)>24)))||(decide ((((l8.Qy t_0).l).length:Int)>8)))then(some false)else
 ((zu (RM t_0) 0).bind fun
 |.inl b7=>(some b7)
 |.inr _=>((zu (RL t_0) 0).bind fun
 |.inl b13=>(some b13)
 |.inr _=>(some true)))
def P1:pE:=⟨[(false,.x y1)],[([.x .b],[])],true,[],fun p=>match p with|t_0=>R9 t_0⟩
theorem Qo:gg prog 51 P1:=iF iV kx (QC:=QC) (np:=1) (an:=[(10,{j:=some {vs:=[(3,.x (.i .i64))]},e:=[(.ret,{vs:=[(2,.x .b)]}),(.exit 0,{})]}),(18,{j:=some {vs:=[(77,.x .b)]}}),(25,{j:=some {vs:=[(5,.x (.i .i64))]},e:=[(.ret,{vs:=[(2,.x .b)]}),(.exit 2,{})]})]) (.cons Qp .nil) (by kernel_rfl) (by kernel_rfl)
def RY(t_0:l8)(sw_1:Int)(p_2:Int):Int->Option (Int⊕((Int×Int×Int×Bool)⊕Unit)):=fun i2=>
 bif decide (i2<(((l8.qa t_0).l).length:Int))then((rM i2 ((l8.qa t_0).l).length).bind fun n3=>
 bif(((qb.A (gt ((l8.qa t_0).l) n3))==sw_1)&&((qb.Q8 (gt ((l8.qa t_0).l) n3))==p_2))then(some (.inr (.inl (qb.B (gt ((l8.qa t_0).l) n3),qb.Q7 (gt ((l8.qa t_0).l) n3),i2,true))))else
 (bif(((qb.B (gt ((l8.qa t_0).l) n3))==sw_1)&&((qb.Q7 (gt ((l8.qa t_0).l) n3))==p_2))then(some (.inr (.inl (qb.A (gt ((l8.qa t_0).l) n3),qb.Q8 (gt ((l8.qa t_0).l) n3),i2,true))))else
 (some (.inl (wr .i64 (i2+1))))))else
 (some (.inr (.inr ())))
def R5(t_0:l8)(sw_1:Int)(p_2:Int):Option (Int×Int×Int×Bool):=
 (zu (RY t_0 sw_1 p_2) 0).bind fun
 |.inl (i4,i5,i6,b7)=>(some (i4,i5,i6,b7))
 |.inr _=>(some (0,0,0,false))
def PY:pE:=⟨[(false,.x y1),(false,.x (.i .i64)),(false,.x (.i .i64))],[([.x (.i .i64),.x (.i .i64),.x (.i .i64),.x .b],[])],true,[],fun p=>match p with|(t_0,sw_1,p_2)=>R5 t_0 sw_1 p_2⟩
theorem Ql:gg prog 71 PY:=iF iV kx (QC:=QC) (np:=3) (an:=[(5,{j:=some {vs:=[(10,.x (.i .i64))]},e:=[(.ret,{vs:=[(6,.x (.i .i64)),(7,.x (.i .i64)),(8,.x (.i .i64)),(9,.x .b)]}),(.exit 0,{})]})]) .nil (by kernel_rfl) (by kernel_rfl)
def Sm(w_0_T:l8)(w_0_L:Sl sx)(now_1:Int)(sw_2:Int)(port_3:Int)(id_4:Int)(p_5:Arr 4 Int):Option (Int×l8×Sl sx):=
 (R5 w_0_T sw_2 port_3).bind fun(r1,r2,r3,r4)=>
 bif(!r4)then(some (7,w_0_T,w_0_L))else
 (bif decide ((w_0_L.l.length:Int)>255)then(some (6,w_0_T,w_0_L))else
 ((rM r3 ((l8.qa w_0_T).l).length).bind fun n5=>
 (rM r3 ((l8.qa w_0_T).l).length).bind fun n6=>
 (pO (w_0_L.l++[(⟨id_4,r1,r2,p_5,wr .i64 (now_1+(qb.Rl (gt ((l8.qa w_0_T).l) n5))),wr .i64 (now_1+(qb.RX (gt ((l8.qa w_0_T).l) n6)))⟩:sx)])).bind fun l7=>
 some (0,w_0_T,(Sl.mk l7))))
def RU(w_0:Q5)(k_1:Int):Option (sx×Int):=
 bif((decide (k_1<0))||(decide (k_1>=(((Q5.L w_0).l).length:Int))))then(some ((⟨0,0,0,(lX (.ar 4 (.i .i64))),0,0⟩:sx),7))else
 ((rM k_1 ((Q5.L w_0).l).length).bind fun n1=>
 some (gt ((Q5.L w_0).l) n1,0))
def QG(w_0_L:Sl sx)(k_1:Int):(Int×Sl sx)->Option ((Int×Sl sx)⊕(Sl sx)):=fun(i4,s5)=>
 bif decide (i4<(w_0_L.l.length:Int))then((bif(i4 !=k_1)then((rM i4 w_0_L.l.length).bind fun n6=>
 (pO (s5.l++[gt w_0_L.l n6])).bind fun l7=>
 some (Sl.mk l7))else
 (some s5):Option (Sl sx)).bind fun s8=>
 some (.inl (wr .i64 (i4+1),s8)))else
 (some (.inr s5))
def Rv(w_0_T:l8)(w_0_L:Sl sx)(k_1:Int):Option (l8×Sl sx):=
 (zu (QG w_0_L k_1) (0,Sl.nil)).bind fun s9=>
 some (w_0_T,s9)
def Sb(w_0_T:l8)(w_0_L:Sl sx)(now_1:Int)(k_2:Int):Option (sx×Int×l8×Sl sx):=
 (RU (⟨w_0_T,w_0_L⟩:sy) k_2).bind fun(r1,r2)=>
 bif(r2 !=0)then(some (r1,r2,w_0_T,w_0_L))else
 (bif decide ((sx.Sn r1)>now_1)then(some ((⟨0,0,0,(lX (.ar 4 (.i .i64))),0,0⟩:sx),15,w_0_T,w_0_L))else
 ((Rv w_0_T w_0_L k_2).bind fun(q3,s4)=>
 some (r1,0,q3,s4)))
def QY(a_1:Int):(Int×Sl nn)->Option ((Int×Sl nn)⊕(Sl nn)):=fun(i9,s10)=>
 (bif decide (i9>a_1)then((rM i9 s10.l.length).bind fun n11=>
 (rM (wr .i64 (i9-1)) s10.l.length).bind fun n12=>
 (QE (gt s10.l n11) (gt s10.l n12)).bind fun r13=>
 some (decide (r13<0)))else
 (some false):Option Bool).bind fun b14=>
 bif b14 then((rM (wr .i64 (i9-1)) s10.l.length).bind fun n15=>
 (rM i9 s10.l.length).bind fun n16=>
 (rM i9 s10.l.length).bind fun n17=>
 (rM (wr .i64 (i9-1)) (s10.l.set n17 (gt s10.l n15)).length).bind fun n18=>
 some (.inl (wr .i64 (i9-1),(Sl.mk ((s10.l.set n17 (gt s10.l n15)).set n18 (gt s10.l n16))))))else
 (some (.inr s10))
def QX(a_1:Int)(b_2:Int):(Int×Sl nn)->Option ((Int×Sl nn)⊕(Sl nn)):=fun(i4,s5)=>
 bif decide (i4<b_2)then((zu (QY a_1) (i4,s5)).bind fun s19=>
 some (.inl (wr .i64 (i4+1),s19)))else
 (some (.inr s5))
def Qw(data_0:Sl nn)(a_1:Int)(b_2:Int):Option (Sl nn):=
 (zu (QX a_1 b_2) (wr .i64 (a_1+1),data_0)).bind fun s20=>
 some s20
def PS:pE:=⟨[(true,.os y4),(false,.x (.i .i64)),(false,.x (.i .i64)),(false,.fn 101 .ni)],[([],[.os y4])],true,[true,false,false,false],fun p=>match p with|(data_0,a_1,b_2)=>Qw data_0 a_1 b_2⟩
theorem Qg:gg prog 151 PS:=iF iV kx (QC:=QC) (np:=4) (an:=[(2,{j:=some {vs:=[(0,.so 0),(8,.x (.i .i64))],gs:=(.co (.so 0) .ni),os:=[.ar y4],kl:=[0]},e:=[(.exit 0,{gs:=(.co (.so 0) .ni),os:=[.ar y4],kl:=[0]})]}),(9,{j:=some {vs:=[(0,.so 0),(9,.x (.i .i64))],gs:=(.co (.so 0) .ni),os:=[.ar y4],kl:=[1]},e:=[(.exit 2,{vs:=[(0,.so 0)],gs:=(.co (.so 0) .ni),os:=[.ar y4],kl:=[1]})]}),(12,{j:=some {vs:=[(34,.x .b)]}})]) (.cons Ji .nil) (by kernel_rfl) (by kernel_rfl)
def Q3(a_1:Int)(b_2:Int)(n_3:Int):(Int×Sl nn)->Option ((Int×Sl nn)⊕(Sl nn)):=fun(i4,s5)=>
 bif decide (i4<n_3)then((rM (wr .i64 (b_2+i4)) s5.l.length).bind fun n6=>
 (rM (wr .i64 (a_1+i4)) s5.l.length).bind fun n7=>
 (rM (wr .i64 (a_1+i4)) s5.l.length).bind fun n8=>
 (rM (wr .i64 (b_2+i4)) (s5.l.set n8 (gt s5.l n6)).length).bind fun n9=>
 some (.inl (wr .i64 (i4+1),(Sl.mk ((s5.l.set n8 (gt s5.l n6)).set n9 (gt s5.l n7))))))else
 (some (.inr s5))
def Qu(data_0:Sl nn)(a_1:Int)(b_2:Int)(n_3:Int):Option (Sl nn):=
 (zu (Q3 a_1 b_2 n_3) (0,data_0)).bind fun s10=>
 some s10
def PR:pE:=⟨[(true,.os y4),(false,.x (.i .i64)),(false,.x (.i .i64)),(false,.x (.i .i64)),(false,.fn 101 .ni)],[([],[.os y4])],true,[true,false,false,false,false],fun p=>match p with|(data_0,a_1,b_2,n_3)=>Qu data_0 a_1 b_2 n_3⟩
theorem Qf:gg prog 177 PR:=iF iV kx (QC:=QC) (np:=5) (an:=[(2,{j:=some {vs:=[(0,.so 0),(10,.x (.i .i64))],gs:=(.co (.so 0) .ni),os:=[.ar y4],kl:=[0]},e:=[(.exit 0,{gs:=(.co (.so 0) .ni),os:=[.ar y4],kl:=[0]})]})]) .nil (by kernel_rfl) (by kernel_rfl)
def Ri(m_2:Int):(Int×Int×Sl nn)->Option ((Int×Int×Sl nn)⊕(Int×Sl nn)):=fun(i6,i7,s8)=>
 bif(i6 !=i7)then(bif decide (i6>i7)then((Qu s8 (wr .i64 (m_2-i6)) m_2 i7).bind fun s9=>
 (AK s9 s8).bind fun _=>
 some (.inl (wr .i64 (i6-i7),i7,s9)))else
 ((Qu s8 (wr .i64 (m_2-i6)) (wr .i64 ((wr .i64 (m_2+i7))-i6)) i6).bind fun s10=>
 (AK s10 s8).bind fun _=>
 some (.inl (i6,wr .i64 (i7-i6),s10))))else
 (some (.inr (i6,s8)))
def QN(data_0:Sl nn)(a_1:Int)(m_2:Int)(b_3:Int):Option (Sl nn):=
 (zu (Ri m_2) (wr .i64 (m_2-a_1),wr .i64 (b_3-m_2),data_0)).bind fun(i11,s12)=>
 (Qu s12 (wr .i64 (m_2-i11)) m_2 i11).bind fun s13=>
 (AK s13 s12).bind fun _=>
 some s13
def PQ:pE:=⟨[(true,.os y4),(false,.x (.i .i64)),(false,.x (.i .i64)),(false,.x (.i .i64)),(false,.fn 101 .ni)],[([],[.os y4])],true,[true,false,false,false,false],fun p=>match p with|(data_0,a_1,m_2,b_3)=>QN data_0 a_1 m_2 b_3⟩
theorem Qe:gg prog 163 PQ:=iF iV kx (QC:=QC) (np:=5) (an:=[(5,{j:=some {vs:=[(0,.so 0),(10,.x (.i .i64)),(11,.x (.i .i64))],gs:=(.co (.so 0) .ni),os:=[.ar y4],kl:=[0]},e:=[(.exit 0,{vs:=[(0,.so 0),(10,.x (.i .i64))],gs:=(.co (.so 0) .ni),os:=[.ar y4],kl:=[0]})]})]) (.cons Qf .nil) (by kernel_rfl) (by kernel_rfl)
def Rd(data_0:Sl nn)(a_1:Int):(Int×Int)->Option ((Int×Int)⊕Int):=fun(i3,i4)=>
 bif decide (i3<i4)then((rM (wr .i64 (HF .u64 (wr .u64 (wr .i64 (i3+i4))) 1)) data_0.l.length).bind fun n5=>
 (rM a_1 data_0.l.length).bind fun n6=>
 (QE (gt data_0.l n5) (gt data_0.l n6)).bind fun r7=>
 bif decide (r7<0)then(some (.inl (wr .i64 ((wr .i64 (HF .u64 (wr .u64 (wr .i64 (i3+i4))) 1))+1),i4)))else
 (some (.inl (i3,wr .i64 (HF .u64 (wr .u64 (wr .i64 (i3+i4))) 1)))))else
 (some (.inr i3))
def Rc(i8:Int):(Int×Sl nn)->Option ((Int×Sl nn)⊕(Sl nn)):=fun(i12,s13)=>
 bif decide (i12<(wr .i64 (i8-1)))then((rM (wr .i64 (i12+1)) s13.l.length).bind fun n14=>
 (rM i12 s13.l.length).bind fun n15=>
 (rM i12 s13.l.length).bind fun n16=>
 (rM (wr .i64 (i12+1)) (s13.l.set n16 (gt s13.l n14)).length).bind fun n17=>
 some (.inl (wr .i64 (i12+1),(Sl.mk ((s13.l.set n16 (gt s13.l n14)).set n17 (gt s13.l n15))))))else
 (some (.inr s13))
def Rb(data_0:Sl nn)(m_2:Int):(Int×Int)->Option ((Int×Int)⊕Int):=fun(i21,i22)=>
 bif decide (i21<i22)then((rM m_2 data_0.l.length).bind fun n23=>
 (rM (wr .i64 (HF .u64 (wr .u64 (wr .i64 (i21+i22))) 1)) data_0.l.length).bind fun n24=>
 (QE (gt data_0.l n23) (gt data_0.l n24)).bind fun r25=>
 bif(!(decide (r25<0)))then(some (.inl (wr .i64 ((wr .i64 (HF .u64 (wr .u64 (wr .i64 (i21+i22))) 1))+1),i22)))else
 (some (.inl (i21,wr .i64 (HF .u64 (wr .u64 (wr .i64 (i21+i22))) 1)))))else
 (some (.inr i21))
def Ra(i26:Int):(Int×Sl nn)->Option ((Int×Sl nn)⊕(Sl nn)):=fun(i30,s31)=>
 bif decide (i30>i26)then((rM (wr .i64 (i30-1)) s31.l.length).bind fun n32=>
 (rM i30 s31.l.length).bind fun n33=>
 (rM i30 s31.l.length).bind fun n34=>
 (rM (wr .i64 (i30-1)) (s31.l.set n34 (gt s31.l n32)).length).bind fun n35=>
 some (.inl (wr .i64 (i30-1),(Sl.mk ((s31.l.set n34 (gt s31.l n32)).set n35 (gt s31.l n33))))))else
 (some (.inr s31))
def Q_(data_0:Sl nn)(a_1:Int)(m_2:Int)(b_3:Int):(Int×Int)->Option ((Int×Int)⊕Int):=fun(i41,i42)=>
 bif decide (i41<i42)then((rM (wr .i64 ((wr .i64 ((wr .i64 ((wr .i64 (HF .u64 (wr .u64 (wr .i64 (a_1+b_3))) 1))+m_2))-1))-(wr .i64 (HF .u64 (wr .u64 (wr .i64 (i41+i42))) 1)))) data_0.l.length).bind fun n43=>
 (rM (wr .i64 (HF .u64 (wr .u64 (wr .i64 (i41+i42))) 1)) data_0.l.length).bind fun n44=>
 (QE (gt data_0.l n43) (gt data_0.l n44)).bind fun r45=>
 bif(!(decide (r45<0)))then(some (.inl (wr .i64 ((wr .i64 (HF .u64 (wr .u64 (wr .i64 (i41+i42))) 1))+1),i42)))else
 (some (.inl (i41,wr .i64 (HF .u64 (wr .u64 (wr .i64 (i41+i42))) 1)))))else
 (some (.inr i41))
def Qz(rc:Sl nn->Int->Int->Int->Option (Sl nn))(data_0:Sl nn)(a_1:Int)(m_2:Int)(b_3:Int):Option (Sl nn):=
 bif((wr .i64 (m_2-a_1))==1)then((zu (Rd data_0 a_1) (m_2,b_3)).bind fun i8=>
 (zu (Rc i8) (a_1,data_0)).bind fun s18=>
 some s18)else
 (bif((wr .i64 (b_3-m_2))==1)then((zu (Rb data_0 m_2) (a_1,m_2)).bind fun i26=>
 (zu (Ra i26) (m_2,data_0)).bind fun s36=>
 some s36)else
 ((bif decide (m_2>(wr .i64 (HF .u64 (wr .u64 (wr .i64 (a_1+b_3))) 1)))then(some (wr .i64 ((wr .i64 ((wr .i64 (HF .u64 (wr .u64 (wr .i64 (a_1+b_3))) 1))+m_2))-b_3),wr .i64 (HF .u64 (wr .u64 (wr .i64 (a_1+b_3))) 1)))else
 (some (a_1,m_2)):Option (Int×Int)).bind fun(i37,i38)=>
 (zu (Q_ data_0 a_1 m_2 b_3) (i37,i38)).bind fun i46=>
 (bif((decide (i46<m_2))&&(decide (m_2<(wr .i64 ((wr .i64 ((wr .i64 (HF .u64 (wr .u64 (wr .i64 (a_1+b_3))) 1))+m_2))-i46)))))then((QN data_0 i46 m_2 (wr .i64 ((wr .i64 ((wr .i64 (HF .u64 (wr .u64 (wr .i64 (a_1+b_3))) 1))+m_2))-i46))).bind fun s47=>
 (AK s47 data_0).bind fun _=>
 some s47)else
 (some data_0):Option (Sl nn)).bind fun s48=>
 (bif((decide (a_1<i46))&&(decide (i46<(wr .i64 (HF .u64 (wr .u64 (wr .i64 (a_1+b_3))) 1)))))then((rc s48 a_1 i46 (wr .i64 (HF .u64 (wr .u64 (wr .i64 (a_1+b_3))) 1))).bind fun s49=>
 (AK s49 s48).bind fun _=>
 some s49)else
 (some s48):Option (Sl nn)).bind fun s50=>
 bif((decide ((wr .i64 (HF .u64 (wr .u64 (wr .i64 (a_1+b_3))) 1))<(wr .i64 ((wr .i64 ((wr .i64 (HF .u64 (wr .u64 (wr .i64 (a_1+b_3))) 1))+m_2))-i46))))&&(decide ((wr .i64 ((wr .i64 ((wr .i64 (HF .u64 (wr .u64 (wr .i64 (a_1+b_3))) 1))+m_2))-i46))<b_3)))then((rc s50 (wr .i64 (HF .u64 (wr .u64 (wr .i64 (a_1+b_3))) 1)) (wr .i64 ((wr .i64 ((wr .i64 (HF .u64 (wr .u64 (wr .i64 (a_1+b_3))) 1))+m_2))-i46)) b_3).bind fun s51=>
 (AK s51 s50).bind fun _=>
 some s51)else
 (some s50)))
def rE:Nat->Sl nn->Int->Int->Int->Option (Sl nn)
 |0=>fun _ _ _ _=>none
 |n+1=>Qz (rE n)
def TM(rc:Sl nn->Int->Int->Int->Option (Sl nn)):pE:=⟨[(true,.os y4),(false,.x (.i .i64)),(false,.x (.i .i64)),(false,.x (.i .i64)),(false,.fn 101 .ni)],[([],[.os y4])],true,[true,false,false,false,false],fun p=>match p with|(data_0,a_1,m_2,b_3)=>rc data_0 a_1 m_2 b_3⟩
theorem Uz(rc:Sl nn->Int->Int->Int->Option (Sl nn))(h:gg prog 152 (TM rc)):gg prog 152 (TM (Qz rc)):=iF iV kx (QC:=QC) (np:=5) (an:=[(8,{j:=some {vs:=[(10,.x (.i .i64)),(11,.x (.i .i64))]},e:=[(.exit 0,{vs:=[(10,.x (.i .i64))]})]}),(21,{j:=some {vs:=[(0,.so 0),(13,.x (.i .i64))],gs:=(.co (.so 0) .ni),os:=[.ar y4],kl:=[0]},e:=[(.exit 2,{gs:=(.co (.so 0) .ni),os:=[.ar y4],kl:=[0]})]}),(36,{j:=some {vs:=[(14,.x (.i .i64)),(15,.x (.i .i64))]},e:=[(.exit 4,{vs:=[(14,.x (.i .i64))]})]}),(49,{j:=some {vs:=[(0,.so 0),(17,.x (.i .i64))],gs:=(.co (.so 0) .ni),os:=[.ar y4],kl:=[0]},e:=[(.exit 6,{gs:=(.co (.so 0) .ni),os:=[.ar y4],kl:=[0]})]}),(62,{e:=[(.normal,{vs:=[(20,.x (.i .i64)),(21,.x (.i .i64))]})]}),(74,{j:=some {vs:=[(20,.x (.i .i64)),(21,.x (.i .i64))]},e:=[(.exit 8,{vs:=[(20,.x (.i .i64))]})]}),(86,{e:=[(.normal,{vs:=[(0,.so 0)],gs:=(.co (.so 0) .ni),os:=[.ar y4],kl:=[0]})]}),(90,{e:=[(.normal,{vs:=[(0,.so 0)],gs:=(.co (.so 0) .ni),os:=[.ar y4],kl:=[1]})]})]) (.cons Ji (.cons Qe (.cons h .nil))) (by kernel_rfl) (by kernel_rfl)
theorem Uo:∀n,gg prog 152 (TM (rE n))
 |0=>⟨rfl,fun p r h=>by cases h⟩
 |n+1=>Uz _ (Uo n)
def PP:pE:=TM (rE 8)
theorem Qd:gg prog 152 PP:=Uo 8
def Rh(n_1:Int):(Int×Int×Sl nn)->Option ((Int×Int×Sl nn)⊕(Int×Sl nn)):=fun(i6,i7,s8)=>
 bif decide (i7<=n_1)then((Qw s8 i6 i7).bind fun s9=>
 (AK s9 s8).bind fun _=>
 some (.inl (i7,wr .i64 (i7+20),s9)))else
 (some (.inr (i6,s8)))
def Qv(n_1:Int)(i16:Int):(Int×Int×Sl nn)->Option ((Int×Int×Sl nn)⊕(Int×Sl nn)):=fun(i23,i24,s25)=>
 bif decide (i24<=n_1)then((rE 8 s25 i23 (wr .i64 (i23+i16)) i24).bind fun s26=>
 (AK s26 s25).bind fun _=>
 some (.inl (i24,wr .i64 (i24+(wr .i64 (2*i16))),s26)))else
 (some (.inr (i23,s25)))
def QA(n_1:Int):(Int×Sl nn)->Option ((Int×Sl nn)⊕(Sl nn)):=fun(i16,s17)=>
 bif decide (i16<n_1)then((zu (Qv n_1 i16) (0,wr .i64 (2*i16),s17)).bind fun(i27,s28)=>
 (bif decide ((wr .i64 (i27+i16))<n_1)then((rE 8 s28 i27 (wr .i64 (i27+i16)) n_1).bind fun s29=>
 (AK s29 s28).bind fun _=>
 some s29)else
 (some s28):Option (Sl nn)).bind fun s30=>
 some (.inl (wr .i64 (i16*2),s30)))else
 (some (.inr s17))
def QD(data_0:Sl nn)(n_1:Int):Option (Sl nn):=
 (zu (Rh n_1) (0,20,data_0)).bind fun(i10,s11)=>
 (Qw s11 i10 n_1).bind fun s12=>
 (AK s12 s11).bind fun _=>
 (zu (QA n_1) (20,s12)).bind fun s31=>
 some s31
def PO:pE:=⟨[(true,.os y4),(false,.x (.i .i64)),(false,.fn 101 .ni)],[([],[.os y4])],true,[true,false,false],fun p=>match p with|(data_0,n_1)=>QD data_0 n_1⟩
theorem Qc:gg prog 133 PO:=iF iV kx (QC:=QC) (np:=3) (an:=[(5,{j:=some {vs:=[(0,.so 0),(7,.x (.i .i64)),(8,.x (.i .i64))],gs:=(.co (.so 0) .ni),os:=[.ar y4],kl:=[0]},e:=[(.exit 0,{vs:=[(0,.so 0),(7,.x (.i .i64))],gs:=(.co (.so 0) .ni),os:=[.ar y4],kl:=[0]})]}),(16,{j:=some {vs:=[(0,.so 0),(6,.x (.i .i64))],gs:=(.co (.so 0) .ni),os:=[.ar y4],kl:=[1]},e:=[(.exit 2,{gs:=(.co (.so 0) .ni),os:=[.ar y4],kl:=[1]})]}),(23,{j:=some {vs:=[(0,.so 0),(7,.x (.i .i64)),(8,.x (.i .i64))],gs:=(.co (.so 0) .ni),os:=[.ar y4],kl:=[2]},e:=[(.exit 4,{vs:=[(0,.so 0),(7,.x (.i .i64))],gs:=(.co (.so 0) .ni),os:=[.ar y4],kl:=[2]})]}),(32,{e:=[(.normal,{vs:=[(0,.so 0)],gs:=(.co (.so 0) .ni),os:=[.ar y4],kl:=[3]})]})]) (.cons Qg (.cons Qd .nil)) (by kernel_rfl) (by kernel_rfl)
def Fl(x_0:Sl nn):Option (Sl nn):=
 (QD x_0 (x_0.l.length:Int)).bind fun s1=>
 (AK s1 x_0).bind fun _=>
 some s1
def PN:pE:=⟨[(true,.os y4),(false,.fn 101 .ni)],[([],[.os y4])],true,[true,false],fun p=>match p with|x_0=>Fl x_0⟩
theorem Pk:gg prog 103 PN:=iF iV kx (QC:=QC) (np:=2) (an:=[]) (.cons Qc .nil) (by kernel_rfl) (by kernel_rfl)
def QS(w_0_l:Sl nn)(now_1:Int):(Int×Sl nn×Sl nn)->Option ((Int×Sl nn×Sl nn)⊕(Sl nn×Sl nn)):=fun(i5,s6,s7)=>
 bif decide (i5<(w_0_l.l.length:Int))then(((rM i5 w_0_l.l.length).bind fun n8=>
 bif decide ((nn.QQ (gt w_0_l.l n8))<=now_1)then((pO (s6.l++[gt w_0_l.l n8])).bind fun l9=>
 some ((Sl.mk l9),s7))else
 ((pO (s7.l++[gt w_0_l.l n8])).bind fun l10=>
 some (s6,(Sl.mk l10))):Option (Sl nn×Sl nn)).bind fun(s11,s12)=>
 some (.inl (wr .i64 (i5+1),s11,s12)))else
 (some (.inr (s6,s7)))
def RJ(w_0_t:l8)(w_0_l:Sl nn)(now_1:Int):Option (Sl nn×l8×Sl nn):=
 (zu (QS w_0_l now_1) (0,Sl.nil,Sl.nil)).bind fun(s13,s14)=>
 (Fl s13).bind fun s15=>
 (AK s15 s13).bind fun _=>
 some (s15,w_0_t,s14)
def PM:pE:=⟨[(true,.pb y3 (.st (.pr (.x y1) (.pr (.os y4) .ni)))),(false,.x (.i .i64))],[([.os y4],[.pb y3 (.st (.pr (.x y1) (.pr (.os y4) .ni)))])],false,[true,false],fun p=>match p with|(w_0_t,w_0_l,now_1)=>RJ w_0_t w_0_l now_1⟩
theorem Qb:gg prog 52 PM:=iF iV kx (QC:=QC) (np:=2) (an:=[(12,{j:=some {vs:=[(5,.so 0),(6,.so 1),(16,.x (.i .i64))],os:=[.ar y4,.ar y4]},e:=[(.exit 0,{vs:=[(5,.so 0),(6,.so 1)],os:=[.ar y4,.ar y4]})]}),(16,{e:=[(.normal,{vs:=[(5,.so 0),(6,.so 1)],os:=[.ar y4,.ar y4],kl:=[5,6]})]})]) (.cons Pk .nil) (by kernel_rfl) (by kernel_rfl)
def Sj(t_0:l8)(x_1:nn)(from_2:Int)(took_3:Int):Option Bool:=
 (R5 t_0 (nn.Sw x_1) (nn.RP x_1)).bind fun(r1,r2,r3,r4)=>
 (bif(r4&&(r1==from_2))then((rM r3 ((l8.qa t_0).l).length).bind fun n5=>
 bif decide (took_3>=(qb.Rl (gt ((l8.qa t_0).l) n5)))then((rM r3 ((l8.qa t_0).l).length).bind fun n6=>
 some (decide (took_3<=(qb.RX (gt ((l8.qa t_0).l) n6)))))else
 (some false))else
 (some false):Option Bool).bind fun b7=>
 some b7
def PG:pE:=⟨[(false,.x y1),(false,.x y4),(false,.x (.i .i64)),(false,.x (.i .i64))],[([.x .b],[])],true,[],fun p=>match p with|(t_0,x_1,from_2,took_3)=>Sj t_0 x_1 from_2 took_3⟩
theorem P7:gg prog 54 PG:=iF iV kx (QC:=QC) (np:=4) (an:=[(5,{j:=some {vs:=[(8,.x .b)]}})]) (.cons Ql .nil) (by kernel_rfl) (by kernel_rfl)
def Q0(t_0:l8)(i30:Int)(s20:Sl Int)(s21:Sl Int)(s42:Sl nn):(Int×Sl Bool)->Option ((Int×Sl Bool)⊕(Bool⊕(Sl Bool))):=fun(i47,s48)=>
 bif decide (i47<(s42.l.length:Int))then((rM i47 s42.l.length).bind fun n49=>
 (bif((decide ((nn.Id (gt s42.l n49))<0))||(decide ((nn.Id (gt s42.l n49))>=(s20.l.length:Int))))then(some true)else
 ((rM (nn.Id (gt s42.l n49)) s48.l.length).bind fun n50=>
 bif gt s48.l n50 then(some true)else
 ((rM i47 s42.l.length).bind fun n51=>
 (rM (nn.Id (gt s42.l n49)) s21.l.length).bind fun n52=>
 (rM (nn.Id (gt s42.l n49)) s20.l.length).bind fun n53=>
 (Sj t_0 (gt s42.l n51) (gt s21.l n52) (wr .i64 (i30-(gt s20.l n53)))).bind fun r54=>
 some (!r54))):Option Bool).bind fun b55=>
 bif b55 then(some (.inr (.inl false)))else
 ((rM (nn.Id (gt s42.l n49)) s48.l.length).bind fun n56=>
 some (.inl (wr .i64 (i47+1),(Sl.mk (s48.l.set n56 true))))))else
 (some (.inr (.inr s48)))
def QJ(t_0:l8)(l_1:Sl rx):(Int×Int×l8×Sl Int×Sl Int×Sl Bool×Sl nn)->Option ((Int×Int×l8×Sl Int×Sl Int×Sl Bool×Sl nn)⊕(Bool⊕Unit)):=fun(i17,i18,x19,s20,s21,s22,s23)=>
 bif((decide (i18<(l_1.l.length:Int)))&&(decide (i18<60)))then((((rM i18 l_1.l.length).bind fun n24=>
 bif decide ((rx.TC (gt l_1.l n24))<0)then(some true)else
 ((rM i18 l_1.l.length).bind fun n25=>
 some (decide ((rx.TC (gt l_1.l n25))>10000))):Option Bool).bind fun b26=>
 bif b26 then((Rk).bind fun r27=>
 some (.inr r27))else
 ((rM i18 l_1.l.length).bind fun n28=>
 ((QM (⟨x19,s23⟩:sy)).bind fun r29=>
 bif((decide (r29>=0))&&(decide (r29<(wr .i64 (i17+((rx.TC (gt l_1.l n28)).tmod 8))))))then(some r29)else
 (some (wr .i64 (i17+((rx.TC (gt l_1.l n28)).tmod 8)))):Option Int).bind fun i30=>
 (RJ x19 s23 i30).bind fun(s31,q32,s33)=>
 ((rM i18 l_1.l.length).bind fun n34=>
 bif((rx.T2 (gt l_1.l n34))==3)then((rM i18 l_1.l.length).bind fun n35=>
 (QI q32 s33 i30 (rx.K (gt l_1.l n35))).bind fun(r36,r37,q38,s39)=>
 bif(r37==0)then((pO (s31.l++[r36])).bind fun l40=>
 some (q38,(Sl.mk l40),s39))else
 (some (q38,s31,s39)))else
 (some (q32,s31,s33)):Option (l8×Sl nn×Sl nn)).bind fun(x41,s42,s43)=>
 (zu (Q0 t_0 i30 s20 s21 s42) (0,s22)).bind fun
 |.inl b57=>(some (.inr b57))
 |.inr s58=>(((rM i18 l_1.l.length).bind fun n59=>
 bif decide ((rx.T2 (gt l_1.l n59))<3)then((rM i18 l_1.l.length).bind fun n60=>
 (rM i18 l_1.l.length).bind fun n61=>
 (rM i18 l_1.l.length).bind fun n62=>
 (QR x41 s43 i30 (rx.Sw (gt l_1.l n60)) (rx.RP (gt l_1.l n61)) (s20.l.length:Int) (rx.P (gt l_1.l n62))).bind fun(r63,q64,s65)=>
 some ((r63==0),q64,s65))else
 (some (false,x41,s43)):Option (Bool×l8×Sl nn)).bind fun(b66,x67,s68)=>
 bif b66 then((pO (s20.l++[i30])).bind fun l69=>
 (rM i18 l_1.l.length).bind fun n70=>
 (pO (s21.l++[rx.Sw (gt l_1.l n70)])).bind fun l71=>
 (pO (s58.l++[false])).bind fun l72=>
 some (.inl (i30,x67,(Sl.mk l69),(Sl.mk l71),(Sl.mk l72),s68)))else
 (some (.inl (i30,x67,s20,s21,s58,s68))))):Option ((Int×l8×Sl Int×Sl Int×Sl Bool×Sl nn)⊕Bool)).bind fun
 |.inl (i73,x74,s75,s76,s77,s78)=>(some (.inl (i73,wr .i64 (i18+1),x74,s75,s76,s77,s78)))
 |.inr b79=>(some (.inr (.inl b79))))else
 (some (.inr (.inr ())))
def RZ(t_0:l8)(l_1:Sl rx):Option Bool:=
 (bif((decide ((((l8.qa t_0).l).length:Int)>30))||(decide ((((l8.Qy t_0).l).length:Int)>12)))then(some true)else
 ((R9 t_0).bind fun r1=>
 some (!r1)):Option Bool).bind fun b2=>
 bif b2 then((Rk).bind fun r3=>
 some r3)else
 ((R4 t_0).bind fun
 |.inl r4=>(bif(r4 !=0)then(some false)else
 (none))
 |.inr (r5,s6,r7)=>(bif(r7 !=0)then(some false)else
 ((zu (QJ t_0 l_1) (0,0,r5,Sl.nil,Sl.nil,Sl.nil,s6)).bind fun
 |.inl b80=>(some b80)
 |.inr _=>((Rk).bind fun r81=>
 some r81))))
def PF:pE:=⟨[(false,.x y1),(false,.x (.sl y5))],[([.x .b],[])],true,[],fun p=>match p with|(t_0,l_1)=>RZ t_0 l_1⟩
theorem P6:gg prog 8 PF:=iF iV kx (QC:=QC) (np:=2) (an:=[(4,{j:=some {vs:=[(33,.x .b)]}}),(23,{j:=some {vs:=[(5,.op 0 y3 []),(7,.x (.i .i64)),(8,.so 1),(9,.so 2),(10,.so 3),(11,.x (.i .i64))],os:=[.bx y3 (.rc (.co (.x y1) (.co (.so 4) .ni))),.ar (.i .i64),.ar (.i .i64),.ar .b,.ar y4],kl:=[1,5]},e:=[(.ret,{vs:=[(4,.x .b)],kl:=[1,5]}),(.exit 0,{kl:=[1,5]})]}),(27,{e:=[(.normal,{vs:=[(5,.op 0 y3 []),(7,.x (.i .i64)),(8,.so 1),(9,.so 2),(10,.so 3)],os:=[.bx y3 (.rc (.co (.x y1) (.co (.so 4) .ni))),.ar (.i .i64),.ar (.i .i64),.ar .b,.ar y4],kl:=[7,8,9,10,11]}),(.ret,{vs:=[(4,.x .b)],kl:=[7,10,11]})]}),(30,{j:=some {vs:=[(65,.x .b)]}}),(35,{e:=[(.normal,{vs:=[(12,.x (.i .i64))]})]}),(45,{e:=[(.normal,{vs:=[(5,.op 0 y3 []),(14,.so 1)],os:=[.bx y3 (.rc (.co (.x y1) (.co (.so 2) .ni))),.ar y4,.ar y4],kl:=[7,15,16]})]}),(56,{j:=some {vs:=[(10,.so 0),(17,.x (.i .i64))],os:=[.ar .b],kl:=[10]},e:=[(.ret,{vs:=[(4,.x .b)],kl:=[10]}),(.exit 2,{vs:=[(10,.so 0)],os:=[.ar .b],kl:=[10]})]}),(65,{j:=some {vs:=[(155,.x .b)]}}),(71,{j:=some {vs:=[(5,.op 0 y3 []),(187,.x .b)],os:=[.bx y3 (.rc (.co (.x y1) (.co (.so 1) .ni))),.ar y4],kl:=[17,19]}})]) (.cons Qo (.cons Jf (.cons Ly (.cons Jg (.cons Qb (.cons Il (.cons JX (.cons P7 .nil)))))))) (by kernel_rfl) (by kernel_rfl)
end Go.Proofs.Ytingpmogbibghaa.W
