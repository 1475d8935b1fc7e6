/- What functions of the program compute, and that the model's run computes it. Conditions: as stated. -/
import Derived.Test.YtpnnnoagjcpmhaaDoorUS
import Derived.Test.YtpnnnoagjcpmhaaDoorChecked
import Derived.KernelRfl
open Option.some renaming inj->aa
open Go.Ev Go
noncomputable section
namespace Go.Proofs.YtpnnnoagjcpmhaaDoor.U
abbrev prog:Program:=Tryd.prog
theorem mixed:prog.follows .mixedOrders=true:=by kernel_rfl
def HN:Arr 32 Int:=⟨[0,1,28,2,29,14,24,3,30,22,20,15,25,17,4,8,31,27,13,23,21,19,16,7,26,12,18,6,11,5,10,9],rfl⟩
theorem eR:kg:=Fe (v:=.pt (.ar 32 (.i .u8)) HN) (fun g w h=>by
 unfold Jv at h;split at h
 .rename_i e;exact⟨e,(aa h).symm⟩
 .cases h) rfl (fun h n=>⟨bM (c_ rfl ⟨rfl,rfl⟩),trivial,rfl⟩)
def da:uY:=fun f=>if f=3 then(true,[])else if f=4 then(true,[])else if f=5 then(true,[])else if f=6 then(true,[])else if f=9 then(true,[])else if f=11 then(true,[])else if f=13 then(true,[])else if f=15 then(true,[])else if f=17 then(false,[true,false])else if f=19 then(true,[])else if f=21 then(false,[true])else if f=22 then(false,[true])else if f=23 then(true,[])else if f=25 then(true,[])else if f=26 then(true,[])else if f=27 then(true,[])else if f=28 then(true,[])else if f=29 then(true,[])else if f=35 then(true,[])else if f=36 then(true,[])else if f=37 then(true,[])else if f=39 then(false,[true,false])else if f=42 then(true,[])else if f=43 then(true,[])else if f=44 then(true,[])else if f=45 then(true,[])else if f=46 then(true,[])else if f=47 then(true,[])else if f=60 then(true,[])else if f=71 then(true,[])else(false,[])
def Nz:uY:=fun f=>if f=1000000000 then(true,[])else da f
def QR:uY:=fun f=>if f=1000000001 then(true,[])else Nz f
@[reducible] def aZ:Type:=Int×Int×Int×Int×Int×Int
@[reducible] def aZ.A (x:aZ):Int:=x.1
@[reducible] def aZ.h_ (x:aZ):Int:=x.2.1
@[reducible] def aZ.B (x:aZ):Int:=x.2.2.1
@[reducible] def aZ.hZ (x:aZ):Int:=x.2.2.2.1
@[reducible] def aZ.mU (x:aZ):Int:=x.2.2.2.2.1
@[reducible] def aZ.rG (x:aZ):Int:=x.2.2.2.2.2
@[reducible] def dl:Type:=Int×Int
@[reducible] def dl.At (x:dl):Int:=x.1
@[reducible] def dl.mN (x:dl):Int:=x.2
@[reducible] def ah:Type:=Int×Sl aZ×Sl dl
@[reducible] def ah.bF (x:ah):Int:=x.1
@[reducible] def ah.aW (x:ah):Sl aZ:=x.2.1
@[reducible] def ah.aR (x:ah):Sl dl:=x.2.2
@[reducible] def y1:Ty:=.st (.pr (.i .i64) (.pr (.i .i64) (.pr (.i .i64) (.pr (.i .i64) (.pr (.i .i64) (.i .i64))))))
@[reducible] def y2:Ty:=.st (.pr (.i .i64) (.i .i64))
@[reducible] def y0:Ty:=.st (.pr (.i .i64) (.pr (.sl y1) (.sl y2)))
@[reducible] def a_:Type:=Int×Int
@[reducible] def a_.sw (x:a_):Int:=x.1
@[reducible] def a_.xS (x:a_):Int:=x.2
@[reducible] def ap:Type:=Int×Int×Int×Int
@[reducible] def ap.Sw (x:ap):Int:=x.1
@[reducible] def ap.uG (x:ap):Int:=x.2.1
@[reducible] def ap.mN (x:ap):Int:=x.2.2.1
@[reducible] def ap.uZ (x:ap):Int:=x.2.2.2
@[reducible] def y3:Ty:=.st (.pr (.i .i64) (.pr (.i .i64) (.pr (.i .i64) (.i .i64))))
@[reducible] def bc:Type:=Int×Int
@[reducible] def bc.tK (x:bc):Int:=x.1
@[reducible] def bc.To (x:bc):Int:=x.2
def lq(r_1:Sl (Sl Int)):Int->Option (Int⊕(Bool⊕Unit)):=fun i2=>
 bif decide (i2<(r_1.l.length:Int))then((fD i2 r_1.l.length).bind fun n3=>
 bif decide ((((gt r_1.l n3).l).length:Int)>12)then(some (.inr (.inl false)))else
 (some (.inl (wr .i64 (i2+1)))))else
 (some (.inr (.inr ())))
def mw(t_0:ah)(r_1:Sl (Sl Int)):Option Bool:=
 (bL (lq r_1) 0).bind fun
 |.inl b4=>(some b4)
 |.inr _=>(some (((decide ((((ah.aW t_0).l).length:Int)<=30))&&(decide ((((ah.aR t_0).l).length:Int)<=12)))&&(decide ((r_1.l.length:Int)<=12))))
def Qa:l8:=⟨[(false,.x y0),(false,.x (.sl (.sl (.i .i64))))],[([.x .b],[])],true,[],fun p=>match p with|(t_0,r_1)=>mw t_0 r_1⟩
theorem Rq:dq prog 4 Qa:=dh mixed eR (da:=da) (np:=2) (an:=[(5,{j:=some {vs:=[(5,.x (.i .i64))]},e:=[(.ret,{vs:=[(4,.x .b)]}),(.exit 0,{})]})]) .nil (by kernel_rfl) (by kernel_rfl)
def kx(t_0:ah)(sw_1:Int)(p_2:Int):(Int×Int)->Option ((Int×Int)⊕Int):=fun(i3,i4)=>
 bif decide (i4<(((ah.aW t_0).l).length:Int))then(((fD i4 ((ah.aW t_0).l).length).bind fun n5=>
 (bif(((aZ.A (gt ((ah.aW t_0).l) n5))==sw_1)&&((aZ.h_ (gt ((ah.aW t_0).l) n5))==p_2))then(some (wr .i64 (i3+1)))else
 (some i3):Option Int).bind fun i6=>
 bif(((aZ.B (gt ((ah.aW t_0).l) n5))==sw_1)&&((aZ.hZ (gt ((ah.aW t_0).l) n5))==p_2))then(some (wr .i64 (i6+1)))else
 (some i6):Option Int).bind fun i7=>
 some (.inl (i7,wr .i64 (i4+1))))else
 (some (.inr i3))
def kw(t_0:ah)(sw_1:Int)(p_2:Int):(Int×Int)->Option ((Int×Int)⊕Int):=fun(i11,i12)=>
 bif decide (i12<(((ah.aR t_0).l).length:Int))then((((fD i12 ((ah.aR t_0).l).length).bind fun n13=>
 bif((dl.At (gt ((ah.aR t_0).l) n13))==sw_1)then((fD i12 ((ah.aR t_0).l).length).bind fun n14=>
 some ((dl.mN (gt ((ah.aR t_0).l) n14))==p_2))else
 (some false):Option Bool).bind fun b15=>
 bif b15 then(some (wr .i64 (i11+1)))else
 (some i11):Option Int).bind fun i16=>
 some (.inl (i16,wr .i64 (i12+1))))else
 (some (.inr i11))
def lV(t_0:ah)(sw_1:Int)(p_2:Int):Option Bool:=
 (bL (kx t_0 sw_1 p_2) (0,0)).bind fun i8=>
 (bL (kw t_0 sw_1 p_2) (i8,0)).bind fun i17=>
 some (((((decide (sw_1>=0))&&(decide (sw_1<(ah.bF t_0))))&&(decide (p_2>=0)))&&(decide (p_2<=7)))&&(i17==1))
def QQ:l8:=⟨[(false,.x y0),(false,.x (.i .i64)),(false,.x (.i .i64))],[([.x .b],[])],true,[],fun p=>match p with|(t_0,sw_1,p_2)=>lV t_0 sw_1 p_2⟩
theorem Rp:dq prog 42 QQ:=dh mixed eR (da:=da) (np:=3) (an:=[(7,{j:=some {vs:=[(7,.x (.i .i64)),(8,.x (.i .i64))]},e:=[(.exit 0,{vs:=[(7,.x (.i .i64))]})]}),(11,{e:=[(.normal,{vs:=[(7,.x (.i .i64))]})]}),(14,{e:=[(.normal,{vs:=[(7,.x (.i .i64))]})]}),(25,{j:=some {vs:=[(7,.x (.i .i64)),(10,.x (.i .i64))]},e:=[(.exit 2,{vs:=[(7,.x (.i .i64))]})]}),(29,{e:=[(.normal,{vs:=[(7,.x (.i .i64))]})]}),(31,{j:=some {vs:=[(71,.x .b)]}})]) .nil (by kernel_rfl) (by kernel_rfl)
def ll(t_0:ah):Int->Option (Int⊕(Bool⊕Unit)):=fun i2=>
 bif decide (i2<(((ah.aW t_0).l).length:Int))then((fD i2 ((ah.aW t_0).l).length).bind fun n3=>
 (bif(((((aZ.A (gt ((ah.aW t_0).l) n3))==(aZ.B (gt ((ah.aW t_0).l) n3)))||(decide ((aZ.mU (gt ((ah.aW t_0).l) n3))<1)))||(decide ((aZ.mU (gt ((ah.aW t_0).l) n3))>(aZ.rG (gt ((ah.aW t_0).l) n3)))))||(decide ((aZ.rG (gt ((ah.aW t_0).l) n3))>1000)))then(some true)else
 ((lV t_0 (aZ.A (gt ((ah.aW t_0).l) n3)) (aZ.h_ (gt ((ah.aW t_0).l) n3))).bind fun r4=>
 bif(!r4)then(some true)else
 ((lV t_0 (aZ.B (gt ((ah.aW t_0).l) n3)) (aZ.hZ (gt ((ah.aW t_0).l) n3))).bind fun r5=>
 some (!r5))):Option Bool).bind fun b6=>
 bif b6 then(some (.inr (.inl false)))else
 (some (.inl (wr .i64 (i2+1)))))else
 (some (.inr (.inr ())))
def lk(t_0:ah):Int->Option (Int⊕(Bool⊕Unit)):=fun i9=>
 bif decide (i9<(((ah.aR t_0).l).length:Int))then((fD i9 ((ah.aR t_0).l).length).bind fun n10=>
 (fD i9 ((ah.aR t_0).l).length).bind fun n11=>
 (lV t_0 (dl.At (gt ((ah.aR t_0).l) n10)) (dl.mN (gt ((ah.aR t_0).l) n11))).bind fun r12=>
 bif(!r12)then(some (.inr (.inl false)))else
 (some (.inl (wr .i64 (i9+1)))))else
 (some (.inr (.inr ())))
def ot(t_0:ah):Option Bool:=
 bif((((decide ((ah.bF t_0)<1))||(decide ((ah.bF t_0)>8)))||(decide ((((ah.aW t_0).l).length:Int)>24)))||(decide ((((ah.aR t_0).l).length:Int)>8)))then(some false)else
 ((bL (ll t_0) 0).bind fun
 |.inl b7=>(some b7)
 |.inr _=>((bL (lk t_0) 0).bind fun
 |.inl b13=>(some b13)
 |.inr _=>(some true)))
def QF:l8:=⟨[(false,.x y0)],[([.x .b],[])],true,[],fun p=>match p with|t_0=>ot t_0⟩
theorem Rh:dq prog 27 QF:=dh mixed eR (da:=da) (np:=1) (an:=[(10,{j:=some {vs:=[(3,.x (.i .i64))]},e:=[(.ret,{vs:=[(2,.x .b)]}),(.exit 0,{})]}),(18,{j:=some {vs:=[(77,.x .b)]}}),(25,{j:=some {vs:=[(5,.x (.i .i64))]},e:=[(.ret,{vs:=[(2,.x .b)]}),(.exit 2,{})]})]) (.cons Rp .nil) (by kernel_rfl) (by kernel_rfl)
def lj(r_1:Sl (Sl Int))(i3:Int):Int->Option (Int⊕(Bool⊕Unit)):=fun i6=>
 (fD i3 r_1.l.length).bind fun n7=>
 bif decide (i6<(((gt r_1.l n7).l).length:Int))then(((fD i3 r_1.l.length).bind fun n8=>
 (fD i6 ((gt r_1.l n8).l).length).bind fun n9=>
 bif decide ((gt ((gt r_1.l n8).l) n9)<0)then(some true)else
 ((fD i3 r_1.l.length).bind fun n10=>
 (fD i6 ((gt r_1.l n10).l).length).bind fun n11=>
 some (decide ((gt ((gt r_1.l n10).l) n11)>7))):Option Bool).bind fun b12=>
 bif b12 then(some (.inr (.inl false)))else
 (some (.inl (wr .i64 (i6+1)))))else
 (some (.inr (.inr ())))
def li(t_0:ah)(r_1:Sl (Sl Int)):Int->Option (Int⊕(Bool⊕Unit)):=fun i3=>
 bif decide (i3<(r_1.l.length:Int))then((fD i3 r_1.l.length).bind fun n4=>
 bif((((gt r_1.l n4).l).length:Int) !=(((ah.aR t_0).l).length:Int))then(some (.inr (.inl false)))else
 ((bL (lj r_1 i3) 0).bind fun
 |.inl b13=>(some (.inr (.inl b13)))
 |.inr _=>(some (.inl (wr .i64 (i3+1))))))else
 (some (.inr (.inr ())))
def mo(t_0:ah)(r_1:Sl (Sl Int)):Option Bool:=
 (ot t_0).bind fun r1=>
 bif((!r1)||((r_1.l.length:Int) !=(ah.bF t_0)))then(some false)else
 ((bL (li t_0 r_1) 0).bind fun
 |.inl b14=>(some b14)
 |.inr _=>(some true))
def Qx:l8:=⟨[(false,.x y0),(false,.x (.sl (.sl (.i .i64))))],[([.x .b],[])],true,[],fun p=>match p with|(t_0,r_1)=>mo t_0 r_1⟩
theorem Qc:dq prog 11 Qx:=dh mixed eR (da:=da) (np:=2) (an:=[(10,{j:=some {vs:=[(5,.x (.i .i64))]},e:=[(.ret,{vs:=[(4,.x .b)]}),(.exit 0,{})]}),(22,{j:=some {vs:=[(6,.x (.i .i64))]},e:=[(.ret,{vs:=[(4,.x .b)]}),(.exit 2,{})]}),(28,{j:=some {vs:=[(58,.x .b)]}})]) (.cons Rh .nil) (by kernel_rfl) (by kernel_rfl)
def ma(t_0:ah)(sw_1:Int)(p_2:Int):Int->Option (Int⊕((Int×Int×Int×Bool)⊕Unit)):=fun i2=>
 bif decide (i2<(((ah.aW t_0).l).length:Int))then((fD i2 ((ah.aW t_0).l).length).bind fun n3=>
 bif(((aZ.A (gt ((ah.aW t_0).l) n3))==sw_1)&&((aZ.h_ (gt ((ah.aW t_0).l) n3))==p_2))then(some (.inr (.inl (aZ.B (gt ((ah.aW t_0).l) n3),aZ.hZ (gt ((ah.aW t_0).l) n3),i2,true))))else
 (bif(((aZ.B (gt ((ah.aW t_0).l) n3))==sw_1)&&((aZ.hZ (gt ((ah.aW t_0).l) n3))==p_2))then(some (.inr (.inl (aZ.A (gt ((ah.aW t_0).l) n3),aZ.h_ (gt ((ah.aW t_0).l) n3),i2,true))))else
 (some (.inl (wr .i64 (i2+1))))))else
 (some (.inr (.inr ())))
def nE(t_0:ah)(sw_1:Int)(p_2:Int):Option (Int×Int×Int×Bool):=
 (bL (ma t_0 sw_1 p_2) 0).bind fun
 |.inl (i4,i5,i6,b7)=>(some (i4,i5,i6,b7))
 |.inr _=>(some (0,0,0,false))
def Sc:l8:=⟨[(false,.x y0),(false,.x (.i .i64)),(false,.x (.i .i64))],[([.x (.i .i64),.x (.i .i64),.x (.i .i64),.x .b],[])],true,[],fun p=>match p with|(t_0,sw_1,p_2)=>nE t_0 sw_1 p_2⟩
theorem R1:dq prog 9 Sc:=dh mixed eR (da:=da) (np:=3) (an:=[(5,{j:=some {vs:=[(10,.x (.i .i64))]},e:=[(.ret,{vs:=[(6,.x (.i .i64)),(7,.x (.i .i64)),(8,.x (.i .i64)),(9,.x .b)]}),(.exit 0,{})]})]) .nil (by kernel_rfl) (by kernel_rfl)
def pQ(t_0:ah)(r_1:Sl (Sl Int))(sw_2:Int)(h_3:Int):Option (Int×Bool):=
 (bif(((decide (sw_2<0))||(decide (sw_2>=(r_1.l.length:Int))))||(decide (h_3<0)))then(some true)else
 ((fD sw_2 r_1.l.length).bind fun n1=>
 some (decide (h_3>=(((gt r_1.l n1).l).length:Int)))):Option Bool).bind fun b2=>
 bif b2 then(some (0,false))else
 ((fD sw_2 r_1.l.length).bind fun n3=>
 (fD h_3 ((gt r_1.l n3).l).length).bind fun n4=>
 (nE t_0 sw_2 (gt ((gt r_1.l n3).l) n4)).bind fun(r5,r6,r7,r8)=>
 some (r5,r8))
def Sb:l8:=⟨[(false,.x y0),(false,.x (.sl (.sl (.i .i64)))),(false,.x (.i .i64)),(false,.x (.i .i64))],[([.x (.i .i64),.x .b],[])],true,[],fun p=>match p with|(t_0,r_1,sw_2,h_3)=>pQ t_0 r_1 sw_2 h_3⟩
theorem Si:dq prog 43 Sb:=dh mixed eR (da:=da) (np:=4) (an:=[(4,{j:=some {vs:=[(34,.x .b)]}})]) (.cons R1 .nil) (by kernel_rfl) (by kernel_rfl)
def gT(t_0:ah)(r_1:Sl (Sl Int))(h_3:Int)(n_4:Int):(Int×Int)->Option ((Int×Int)⊕((Int×Bool)⊕Int)):=fun(i3,i4)=>
 bif decide (i4<=n_4)then(((fD h_3 ((ah.aR t_0).l).length).bind fun n5=>
 bif((dl.At (gt ((ah.aR t_0).l) n5))==i3)then((fD h_3 ((ah.aR t_0).l).length).bind fun n6=>
 (fD i3 r_1.l.length).bind fun n7=>
 (fD h_3 ((gt r_1.l n7).l).length).bind fun n8=>
 some ((dl.mN (gt ((ah.aR t_0).l) n6))==(gt ((gt r_1.l n7).l) n8)))else
 (some false):Option Bool).bind fun b9=>
 bif b9 then(some (.inr (.inl (i3,(i4==n_4)))))else
 (bif(i4==n_4)then(some (.inr (.inl (i3,false))))else
 ((pQ t_0 r_1 i3 h_3).bind fun(r10,r11)=>
 bif(!r11)then(some (.inr (.inl ((-1),false))))else
 (some (.inl (r10,wr .i64 (i4+1)))))))else
 (some (.inr (.inr i3)))
def mn(t_0:ah)(r_1:Sl (Sl Int))(sw_2:Int)(h_3:Int)(n_4:Int):Option (Int×Bool):=
 (bL (gT t_0 r_1 h_3 n_4) (sw_2,0)).bind fun
 |.inl (i12,b13)=>(some (i12,b13))
 |.inr i14=>(some (i14,false))
def Sa:l8:=⟨[(false,.x y0),(false,.x (.sl (.sl (.i .i64)))),(false,.x (.i .i64)),(false,.x (.i .i64)),(false,.x (.i .i64))],[([.x (.i .i64),.x .b],[])],true,[],fun p=>match p with|(t_0,r_1,sw_2,h_3,n_4)=>mn t_0 r_1 sw_2 h_3 n_4⟩
theorem Sg:dq prog 28 Sa:=dh mixed eR (da:=da) (np:=5) (an:=[(7,{j:=some {vs:=[(12,.x (.i .i64)),(13,.x (.i .i64))]},e:=[(.ret,{vs:=[(10,.x (.i .i64)),(11,.x .b)]}),(.exit 0,{vs:=[(12,.x (.i .i64))]})]}),(14,{j:=some {vs:=[(45,.x .b)]}})]) (.cons Si .nil) (by kernel_rfl) (by kernel_rfl)
def eh(t_0:ah)(r_1:Sl (Sl Int))(sw_2:Int)(h_3:Int):(Int×Sl Int)->Option ((Int×Sl Int)⊕((Int×Sl Int)⊕Unit)):=fun(i5,s6)=>
 bif decide (i5<(ah.bF t_0))then((mn t_0 r_1 sw_2 h_3 i5).bind fun(r7,r8)=>
 bif(r7==(-1))then(some (.inr (.inl (13,Sl.nil))))else
 ((jT (s6.l++[r7])).bind fun l9=>
 bif r8 then(some (.inr (.inl (0,(Sl.mk l9)))))else
 (some (.inl (wr .i64 (i5+1),(Sl.mk l9))))))else
 (some (.inr (.inr ())))
def jF(t_0:ah)(r_1:Sl (Sl Int))(sw_2:Int)(h_3:Int):Option (Sl Int×Int):=
 (mo t_0 r_1).bind fun r1=>
 bif(((((!r1)||(decide (sw_2<0)))||(decide (sw_2>=(r_1.l.length:Int))))||(decide (h_3<0)))||(decide (h_3>=(((ah.aR t_0).l).length:Int))))then(some (Sl.nil,2))else
 ((bL (eh t_0 r_1 sw_2 h_3) (0,Sl.nil)).bind fun
 |.inl (i10,s11)=>(some (s11,i10))
 |.inr _=>((mn t_0 r_1 sw_2 h_3 (ah.bF t_0)).bind fun(r12,r13)=>
 bif(r12==(-1))then(some (Sl.nil,13))else
 (some (Sl.nil,12))))
def R_:l8:=⟨[(false,.x y0),(false,.x (.sl (.sl (.i .i64)))),(false,.x (.i .i64)),(false,.x (.i .i64))],[([.x (.sl (.i .i64)),.x (.i .i64)],[])],false,[],fun p=>match p with|(t_0,r_1,sw_2,h_3)=>jF t_0 r_1 sw_2 h_3⟩
theorem Sf:dq prog 12 R_:=dh mixed eR (da:=da) (np:=4) (an:=[(12,{j:=some {vs:=[(10,.so 0),(11,.x (.i .i64))],os:=[.ar (.i .i64)]},e:=[(.ret,{vs:=[(8,.so 0),(9,.x (.i .i64))],os:=[.ar (.i .i64)]}),(.exit 0,{})]})]) (.cons Qc (.cons Sg .nil)) (by kernel_rfl) (by kernel_rfl)
def jk(t_0:ah)(r_1:Sl (Sl Int))(i3:Int):Int->Option (Int⊕(Bool⊕Unit)):=fun i5=>
 bif decide (i5<(((ah.aR t_0).l).length:Int))then((jF t_0 r_1 i3 i5).bind fun(r6,r7)=>
 bif(r7 !=0)then(some (.inr (.inl false)))else
 (some (.inl (wr .i64 (i5+1)))))else
 (some (.inr (.inr ())))
def l_(t_0:ah)(r_1:Sl (Sl Int)):Int->Option (Int⊕(Bool⊕Unit)):=fun i3=>
 bif decide (i3<(r_1.l.length:Int))then((bL (jk t_0 r_1 i3) 0).bind fun
 |.inl b8=>(some (.inr (.inl b8)))
 |.inr _=>(some (.inl (wr .i64 (i3+1)))))else
 (some (.inr (.inr ())))
def nD(t_0:ah)(r_1:Sl (Sl Int)):Option Bool:=
 (mo t_0 r_1).bind fun r1=>
 bif(!r1)then(some false)else
 ((bL (l_ t_0 r_1) 0).bind fun
 |.inl b9=>(some b9)
 |.inr _=>(some true))
def R9:l8:=⟨[(false,.x y0),(false,.x (.sl (.sl (.i .i64))))],[([.x .b],[])],true,[],fun p=>match p with|(t_0,r_1)=>nD t_0 r_1⟩
theorem Se:dq prog 5 R9:=dh mixed eR (da:=da) (np:=2) (an:=[(10,{j:=some {vs:=[(5,.x (.i .i64))]},e:=[(.ret,{vs:=[(4,.x .b)]}),(.exit 0,{})]}),(17,{j:=some {vs:=[(6,.x (.i .i64))]},e:=[(.ret,{vs:=[(4,.x .b)]}),(.exit 2,{})]})]) (.cons Qc (.cons Sf .nil)) (by kernel_rfl) (by kernel_rfl)
def jD(t_0:ah):(Int×Sl a_)->Option ((Int×Sl a_)⊕(Sl a_)):=fun(i4,s5)=>
 bif decide (i4<(((ah.aW t_0).l).length:Int))then((fD i4 ((ah.aW t_0).l).length).bind fun n6=>
 (jT (s5.l++[(⟨aZ.A (gt ((ah.aW t_0).l) n6),aZ.h_ (gt ((ah.aW t_0).l) n6)⟩:a_),(⟨aZ.B (gt ((ah.aW t_0).l) n6),aZ.hZ (gt ((ah.aW t_0).l) n6)⟩:a_)])).bind fun l7=>
 some (.inl (wr .i64 (i4+1),(Sl.mk l7))))else
 (some (.inr s5))
def jC(t_0:ah):(Int×Sl a_)->Option ((Int×Sl a_)⊕(Sl a_)):=fun(i11,s12)=>
 bif decide (i11<(((ah.aR t_0).l).length:Int))then((fD i11 ((ah.aR t_0).l).length).bind fun n13=>
 (jT (s12.l++[gt ((ah.aR t_0).l) n13])).bind fun l14=>
 some (.inl (wr .i64 (i11+1),(Sl.mk l14))))else
 (some (.inr s12))
def kR(t_0:ah):Option (Sl a_):=
 (bL (jD t_0) (0,Sl.nil)).bind fun s8=>
 (bL (jC t_0) (0,s8)).bind fun s15=>
 some s15
def R8:l8:=⟨[(false,.x y0)],[([.x (.sl y2)],[])],false,[],fun p=>match p with|t_0=>kR t_0⟩
theorem Sd:dq prog 59 R8:=dh mixed eR (da:=da) (np:=1) (an:=[(7,{j:=some {vs:=[(3,.so 0),(11,.x (.i .i64))],os:=[.ar y2]},e:=[(.exit 0,{vs:=[(3,.so 0)],os:=[.ar y2]})]}),(19,{j:=some {vs:=[(3,.so 0),(32,.x (.i .i64))],os:=[.ar y2],kl:=[1]},e:=[(.exit 2,{vs:=[(3,.so 0)],os:=[.ar y2],kl:=[1]})]})]) .nil (by kernel_rfl) (by kernel_rfl)
def kp(t_0:ah):Int->Option (Int⊕(Bool⊕Unit)):=fun i2=>
 bif decide (i2<(((ah.aW t_0).l).length:Int))then((fD i2 ((ah.aW t_0).l).length).bind fun n3=>
 bif(((((aZ.A (gt ((ah.aW t_0).l) n3))==(aZ.B (gt ((ah.aW t_0).l) n3)))||(decide ((aZ.mU (gt ((ah.aW t_0).l) n3))<1)))||(decide ((aZ.mU (gt ((ah.aW t_0).l) n3))>(aZ.rG (gt ((ah.aW t_0).l) n3)))))||(decide ((aZ.rG (gt ((ah.aW t_0).l) n3))>1000)))then(some (.inr (.inl false)))else
 (some (.inl (wr .i64 (i2+1)))))else
 (some (.inr (.inr ())))
def gK(t_0:ah)(r5:Sl a_):(Int×Mp a_ Int)->Option ((Int×Mp a_ Int)⊕(Bool⊕Unit)):=fun(i9,m10)=>
 bif decide (i9<(r5.l.length:Int))then((fD i9 r5.l.length).bind fun n11=>
 (s_ ((ky m10 0 (gt r5.l n11)).1) ((ky m10 0 (gt r5.l n11)).2.2) (wr .i64 ((mQ m10 0 (gt r5.l n11))+1))).bind fun m12=>
 bif(((((decide ((a_.sw (gt r5.l n11))<0))||(decide ((a_.sw (gt r5.l n11))>=(ah.bF t_0))))||(decide ((a_.xS (gt r5.l n11))<0)))||(decide ((a_.xS (gt r5.l n11))>=8)))||(decide ((mQ m12 0 (gt r5.l n11))>1)))then(some (.inr (.inl false)))else
 (some (.inl (wr .i64 (i9+1),m12))))else
 (some (.inr (.inr ())))
def lO(t_0:ah):Option Bool:=
 bif((((decide ((ah.bF t_0)<1))||(decide ((ah.bF t_0)>8)))||(decide ((((ah.aW t_0).l).length:Int)>24)))||(decide ((((ah.aR t_0).l).length:Int)>8)))then(some false)else
 ((bL (kp t_0) 0).bind fun
 |.inl b4=>(some b4)
 |.inr _=>((kR t_0).bind fun r5=>
 (bL (gK t_0 r5) (0,(Mp.none:Mp a_ Int))).bind fun
 |.inl b13=>(some b13)
 |.inr _=>(some true)))
def QP:l8:=⟨[(false,.x y0)],[([.x .b],[])],true,[],fun p=>match p with|t_0=>lO t_0⟩
theorem Ro:dq prog 35 QP:=dh mixed eR (da:=da) (np:=1) (an:=[(10,{j:=some {vs:=[(31,.x (.i .i64))]},e:=[(.ret,{vs:=[(2,.x .b)]}),(.exit 0,{})]}),(27,{j:=some {vs:=[(5,.om 0),(62,.x (.i .i64))],os:=[.mp y2 (.i .i64)],kl:=[1]},e:=[(.ret,{vs:=[(2,.x .b)],kl:=[1]}),(.exit 2,{kl:=[1]})]})]) (.cons Sd .nil) (by kernel_rfl) (by kernel_rfl)
def oL(p_0:Int):Option Bool:=some ((decide (p_0<0))||(decide (p_0>=8)))
def QO:l8:=⟨[(false,.x (.i .i64))],[([.x .b],[])],true,[],fun p=>match p with|p_0=>oL p_0⟩
theorem Rn:dq prog 37 QO:=dh mixed eR (da:=da) (np:=1) (an:=[]) .nil (by kernel_rfl) (by kernel_rfl)
def cn(s_0:Sl Int):Int->Option (Int⊕(Int⊕Unit)):=fun i2=>
 bif decide (i2<(s_0.l.length:Int))then((fD i2 s_0.l.length).bind fun n3=>
 (oL (gt s_0.l n3)).bind fun r4=>
 bif r4 then(some (.inr (.inl i2)))else
 (some (.inl (wr .i64 (i2+1)))))else
 (some (.inr (.inr ())))
def cI(s_0:Sl Int):Option Int:=
 (bL (cn s_0) 0).bind fun
 |.inl i5=>(some i5)
 |.inr _=>(some (-1))
def QN:l8:=⟨[(false,.x (.sl (.i .i64))),(false,.fn 37 .ni)],[([.x (.i .i64)],[])],true,[],fun p=>match p with|s_0=>cI s_0⟩
theorem Rm:dq prog 60 QN:=dh mixed eR (da:=da) (np:=2) (an:=[(5,{j:=some {vs:=[(8,.x (.i .i64))]},e:=[(.ret,{vs:=[(4,.x (.i .i64))]}),(.exit 0,{})]})]) (.cons Rn .nil) (by kernel_rfl) (by kernel_rfl)
def bN(s_0:Sl Int):Option Bool:=
 (cI s_0).bind fun r1=>
 some (decide (r1>=0))
def QM:l8:=⟨[(false,.x (.sl (.i .i64))),(false,.fn 37 .ni)],[([.x .b],[])],true,[],fun p=>match p with|s_0=>bN s_0⟩
theorem Rl:dq prog 36 QM:=dh mixed eR (da:=da) (np:=2) (an:=[]) (.cons Rm .nil) (by kernel_rfl) (by kernel_rfl)
def iJ(t_0:ah)(r_1:Sl (Sl Int)):Int->Option (Int⊕(Bool⊕Unit)):=fun i3=>
 bif decide (i3<(r_1.l.length:Int))then((fD i3 r_1.l.length).bind fun n4=>
 (bif((((gt r_1.l n4).l).length:Int) !=(((ah.aR t_0).l).length:Int))then(some true)else
 ((bN (gt r_1.l n4)).bind fun r5=>
 some r5):Option Bool).bind fun b6=>
 bif b6 then(some (.inr (.inl false)))else
 (some (.inl (wr .i64 (i3+1)))))else
 (some (.inr (.inr ())))
def gL(t_0:ah)(r_1:Sl (Sl Int)):Option Bool:=
 (lO t_0).bind fun r1=>
 bif((!r1)||((r_1.l.length:Int) !=(ah.bF t_0)))then(some false)else
 ((bL (iJ t_0 r_1) 0).bind fun
 |.inl b7=>(some b7)
 |.inr _=>(some true))
def QL:l8:=⟨[(false,.x y0),(false,.x (.sl (.sl (.i .i64))))],[([.x .b],[])],true,[],fun p=>match p with|(t_0,r_1)=>gL t_0 r_1⟩
theorem LK:dq prog 19 QL:=dh mixed eR (da:=da) (np:=2) (an:=[(10,{j:=some {vs:=[(19,.x (.i .i64))]},e:=[(.ret,{vs:=[(4,.x .b)]}),(.exit 0,{})]}),(18,{j:=some {vs:=[(32,.x .b)]}})]) (.cons Ro (.cons Rl .nil)) (by kernel_rfl) (by kernel_rfl)
def kI(r_0:Sl (Sl Int))(sw_1:Int)(h_2:Int):Option (Int×Bool):=
 (bif(((decide (sw_1<0))||(decide (sw_1>=(r_0.l.length:Int))))||(decide (h_2<0)))then(some true)else
 ((fD sw_1 r_0.l.length).bind fun n1=>
 some (decide (h_2>=(((gt r_0.l n1).l).length:Int)))):Option Bool).bind fun b2=>
 bif b2 then(some (0,false))else
 ((fD sw_1 r_0.l.length).bind fun n3=>
 (fD h_2 ((gt r_0.l n3).l).length).bind fun n4=>
 some (gt ((gt r_0.l n3).l) n4,true))
def QK:l8:=⟨[(false,.x (.sl (.sl (.i .i64)))),(false,.x (.i .i64)),(false,.x (.i .i64))],[([.x (.i .i64),.x .b],[])],true,[],fun p=>match p with|(r_0,sw_1,h_2)=>kI r_0 sw_1 h_2⟩
theorem PC:dq prog 45 QK:=dh mixed eR (da:=da) (np:=3) (an:=[(4,{j:=some {vs:=[(28,.x .b)]}})]) .nil (by kernel_rfl) (by kernel_rfl)
def fh(s_0:Sl Int)(v_1:Int):Int->Option (Int⊕(Int⊕Unit)):=fun i2=>
 bif decide (i2<(s_0.l.length:Int))then((fD i2 s_0.l.length).bind fun n3=>
 bif(v_1==(gt s_0.l n3))then(some (.inr (.inl i2)))else
 (some (.inl (wr .i64 (i2+1)))))else
 (some (.inr (.inr ())))
def gb(s_0:Sl Int)(v_1:Int):Option Int:=
 (bL (fh s_0 v_1) 0).bind fun
 |.inl i4=>(some i4)
 |.inr _=>(some (-1))
def QJ:l8:=⟨[(false,.x (.sl (.i .i64))),(false,.x (.i .i64))],[([.x (.i .i64)],[])],true,[],fun p=>match p with|(s_0,v_1)=>gb s_0 v_1⟩
theorem Rk:dq prog 44 QJ:=dh mixed eR (da:=da) (np:=2) (an:=[(5,{j:=some {vs:=[(8,.x (.i .i64))]},e:=[(.ret,{vs:=[(4,.x (.i .i64))]}),(.exit 0,{})]})]) .nil (by kernel_rfl) (by kernel_rfl)
def c8(s_0:Sl Int)(v_1:Int):Option Bool:=
 (gb s_0 v_1).bind fun r1=>
 some (decide (r1>=0))
def QI:l8:=⟨[(false,.x (.sl (.i .i64))),(false,.x (.i .i64))],[([.x .b],[])],true,[],fun p=>match p with|(s_0,v_1)=>c8 s_0 v_1⟩
theorem NS:dq prog 29 QI:=dh mixed eR (da:=da) (np:=2) (an:=[]) (.cons Rk .nil) (by kernel_rfl) (by kernel_rfl)
def gp(l_0:Sl Int):Option Bool:=
 (bif decide ((l_0.l.length:Int)>0)then((rF l_0.l 0 (wr .i64 ((l_0.l.length:Int)-1))).bind fun l1=>
 (fD (wr .i64 ((l_0.l.length:Int)-1)) l_0.l.length).bind fun n2=>
 (c8 (l_0.to l1) (gt l_0.l n2)).bind fun r3=>
 some r3)else
 (some false):Option Bool).bind fun b4=>
 some b4
def QH:l8:=⟨[(false,.x (.sl (.i .i64)))],[([.x .b],[])],true,[],fun p=>match p with|l_0=>gp l_0⟩
theorem Rj:dq prog 46 QH:=dh mixed eR (da:=da) (np:=1) (an:=[(3,{j:=some {vs:=[(2,.x .b)]}})]) (.cons NS .nil) (by kernel_rfl) (by kernel_rfl)
def ld(t_0:ah)(sw_1:Int)(port_2:Int):Int->Option (Int⊕((Int×Int×Int×Bool)⊕Unit)):=fun i2=>
 bif decide (i2<(((ah.aW t_0).l).length:Int))then((fD i2 ((ah.aW t_0).l).length).bind fun n3=>
 bif decide ((⟨sw_1,port_2⟩:a_)=(⟨aZ.A (gt ((ah.aW t_0).l) n3),aZ.h_ (gt ((ah.aW t_0).l) n3)⟩:a_))then(some (.inr (.inl (aZ.B (gt ((ah.aW t_0).l) n3),aZ.hZ (gt ((ah.aW t_0).l) n3),i2,true))))else
 (bif decide ((⟨sw_1,port_2⟩:a_)=(⟨aZ.B (gt ((ah.aW t_0).l) n3),aZ.hZ (gt ((ah.aW t_0).l) n3)⟩:a_))then(some (.inr (.inl (aZ.A (gt ((ah.aW t_0).l) n3),aZ.h_ (gt ((ah.aW t_0).l) n3),i2,true))))else
 (some (.inl (wr .i64 (i2+1))))))else
 (some (.inr (.inr ())))
def ng(t_0:ah)(sw_1:Int)(port_2:Int):Option (Int×Int×Int×Bool):=
 (bL (ld t_0 sw_1 port_2) 0).bind fun
 |.inl (i4,i5,i6,b7)=>(some (i4,i5,i6,b7))
 |.inr _=>(some (0,0,0,false))
def QG:l8:=⟨[(false,.x y0),(false,.x (.i .i64)),(false,.x (.i .i64))],[([.x (.i .i64),.x (.i .i64),.x (.i .i64),.x .b],[])],true,[],fun p=>match p with|(t_0,sw_1,port_2)=>ng t_0 sw_1 port_2⟩
theorem Ri:dq prog 71 QG:=dh mixed eR (da:=da) (np:=3) (an:=[(7,{j:=some {vs:=[(21,.x (.i .i64))]},e:=[(.ret,{vs:=[(6,.x (.i .i64)),(7,.x (.i .i64)),(8,.x (.i .i64)),(9,.x .b)]}),(.exit 0,{})]})]) .nil (by kernel_rfl) (by kernel_rfl)
def lT(t_0:ah)(r_1:Sl (Sl Int))(sw_2:Int)(h_3:Int):Option (Int×Bool):=
 (kI r_1 sw_2 h_3).bind fun(r1,r2)=>
 bif(!r2)then(some (0,false))else
 ((ng t_0 sw_2 r1).bind fun(r3,r4,r5,r6)=>
 some (r3,r6))
def QE:l8:=⟨[(false,.x y0),(false,.x (.sl (.sl (.i .i64)))),(false,.x (.i .i64)),(false,.x (.i .i64))],[([.x (.i .i64),.x .b],[])],true,[],fun p=>match p with|(t_0,r_1,sw_2,h_3)=>lT t_0 r_1 sw_2 h_3⟩
theorem Rf:dq prog 47 QE:=dh mixed eR (da:=da) (np:=4) (an:=[]) (.cons PC (.cons Ri .nil)) (by kernel_rfl) (by kernel_rfl)
def iz(t_0:ah)(r_1:Sl (Sl Int))(h_3:Int):(Sl Int)->Option (Sl Int⊕((Int×Sl Int)⊕Unit)):=fun s6=>
 (gp s6).bind fun r7=>
 bif(!r7)then((fD (wr .i64 ((s6.l.length:Int)-1)) s6.l.length).bind fun n8=>
 (fD h_3 ((ah.aR t_0).l).length).bind fun n9=>
 (fD (gt s6.l n8) r_1.l.length).bind fun n10=>
 (fD h_3 ((gt r_1.l n10).l).length).bind fun n11=>
 bif decide ((gt ((ah.aR t_0).l) n9)=(⟨gt s6.l n8,gt ((gt r_1.l n10).l) n11⟩:dl))then(some (.inr (.inl (0,s6))))else
 ((lT t_0 r_1 (gt s6.l n8) h_3).bind fun(r12,r13)=>
 bif(!r13)then(some (.inr (.inl (13,Sl.nil))))else
 ((jT (s6.l++[r12])).bind fun l14=>
 some (.inl (Sl.mk l14)))))else
 (some (.inr (.inr ())))
def lR(t_0:ah)(r_1:Sl (Sl Int))(sw_2:Int)(h_3:Int):Option (Sl Int×Int):=
 (kI r_1 sw_2 h_3).bind fun(r1,r2)=>
 (bif(!r2)then(some true)else
 ((gL t_0 r_1).bind fun r3=>
 some (!r3)):Option Bool).bind fun b4=>
 bif b4 then(some (Sl.nil,2))else
 ((bL (iz t_0 r_1 h_3) (Sl.mk [sw_2])).bind fun
 |.inl (i15,s16)=>(some (s16,i15))
 |.inr _=>(some (Sl.nil,12)))
def QD:l8:=⟨[(false,.x y0),(false,.x (.sl (.sl (.i .i64)))),(false,.x (.i .i64)),(false,.x (.i .i64))],[([.x (.sl (.i .i64)),.x (.i .i64)],[])],false,[],fun p=>match p with|(t_0,r_1,sw_2,h_3)=>lR t_0 r_1 sw_2 h_3⟩
theorem Re:dq prog 30 QD:=dh mixed eR (da:=da) (np:=4) (an:=[(6,{j:=some {vs:=[(30,.x .b)]}}),(12,{j:=some {vs:=[(12,.so 0)],os:=[.ar (.i .i64)],kl:=[3]},e:=[(.ret,{vs:=[(8,.so 0),(9,.x (.i .i64))],os:=[.ar (.i .i64)],kl:=[3]}),(.exit 0,{kl:=[3]})]})]) (.cons PC (.cons LK (.cons Rj (.cons Rf .nil)))) (by kernel_rfl) (by kernel_rfl)
def iY(t_0:ah)(r_1:Sl (Sl Int))(h_2:Int):(Int×Sl Int)->Option ((Int×Sl Int)⊕(Sl Int)):=fun(i5,s6)=>
 bif decide (i5<(r_1.l.length:Int))then((lR t_0 r_1 i5 h_2).bind fun(r7,r8)=>
 (jT (s6.l++[wr .i64 ((r7.l.length:Int)-1)])).bind fun l9=>
 some (.inl (wr .i64 (i5+1),(Sl.mk l9))))else
 (some (.inr s6))
def lU(t_0:ah)(r_1:Sl (Sl Int))(h_2:Int):Option (Sl Int):=
 (gL t_0 r_1).bind fun r1=>
 bif(((!r1)||(decide (h_2<0)))||(decide (h_2>=(((ah.aR t_0).l).length:Int))))then(some Sl.nil)else
 ((bL (iY t_0 r_1 h_2) (0,Sl.nil)).bind fun s10=>
 some s10)
def QC:l8:=⟨[(false,.x y0),(false,.x (.sl (.sl (.i .i64)))),(false,.x (.i .i64))],[([.x (.sl (.i .i64))],[])],false,[],fun p=>match p with|(t_0,r_1,h_2)=>lU t_0 r_1 h_2⟩
theorem PB:dq prog 16 QC:=dh mixed eR (da:=da) (np:=3) (an:=[(12,{j:=some {vs:=[(7,.so 0),(28,.x (.i .i64))],os:=[.ar (.i .i64)]},e:=[(.exit 0,{vs:=[(7,.so 0)],os:=[.ar (.i .i64)]})]})]) (.cons LK (.cons Re .nil)) (by kernel_rfl) (by kernel_rfl)
def jj(t_0:ah)(r_1:Sl (Sl Int)):Int->Option (Int⊕(Bool⊕Unit)):=fun i3=>
 bif decide (i3<(((ah.aR t_0).l).length:Int))then((lU t_0 r_1 i3).bind fun r4=>
 (c8 r4 (-1)).bind fun r5=>
 bif r5 then(some (.inr (.inl false)))else
 (some (.inl (wr .i64 (i3+1)))))else
 (some (.inr (.inr ())))
def kJ(t_0:ah)(r_1:Sl (Sl Int)):Option Bool:=
 (gL t_0 r_1).bind fun r1=>
 bif(!r1)then(some false)else
 ((bL (jj t_0 r_1) 0).bind fun
 |.inl b6=>(some b6)
 |.inr _=>(some true))
def QB:l8:=⟨[(false,.x y0),(false,.x (.sl (.sl (.i .i64))))],[([.x .b],[])],true,[],fun p=>match p with|(t_0,r_1)=>kJ t_0 r_1⟩
theorem Rd:dq prog 15 QB:=dh mixed eR (da:=da) (np:=2) (an:=[(10,{j:=some {vs:=[(13,.x (.i .i64))]},e:=[(.ret,{vs:=[(4,.x .b)]}),(.exit 0,{})]})]) (.cons LK (.cons PB (.cons NS .nil))) (by kernel_rfl) (by kernel_rfl)
theorem Rc:dq prog 17 (zt y3 18 kq):=FS
def gU(old_1:Sl (Sl Int))(now_2:Sl (Sl Int))(i7:Int)(r9:Sl Int):(Int×Sl ap)->Option ((Int×Sl ap)⊕(Sl ap)):=fun(i12,s13)=>
 bif decide (i12<(now_2.l.length:Int))then(((fD i12 now_2.l.length).bind fun n14=>
 (fD i7 ((gt now_2.l n14).l).length).bind fun n15=>
 (fD i12 old_1.l.length).bind fun n16=>
 (fD i7 ((gt old_1.l n16).l).length).bind fun n17=>
 bif((gt ((gt now_2.l n14).l) n15) !=(gt ((gt old_1.l n16).l) n17))then((fD i12 now_2.l.length).bind fun n18=>
 (fD i7 ((gt now_2.l n18).l).length).bind fun n19=>
 (fD i12 r9.l.length).bind fun n20=>
 (jT (s13.l++[(⟨i12,i7,gt ((gt now_2.l n18).l) n19,gt r9.l n20⟩:ap)])).bind fun l21=>
 some (Sl.mk l21))else
 (some s13):Option (Sl ap)).bind fun s22=>
 some (.inl (wr .i64 (i12+1),s22)))else
 (some (.inr s13))
def iM(t_0:ah)(old_1:Sl (Sl Int))(now_2:Sl (Sl Int)):(Int×Sl ap)->Option ((Int×Sl ap)⊕(Sl ap)):=fun(i7,s8)=>
 bif decide (i7<(((ah.aR t_0).l).length:Int))then((lU t_0 now_2 i7).bind fun r9=>
 (bL (gU old_1 now_2 i7 r9) (0,s8)).bind fun s23=>
 some (.inl (wr .i64 (i7+1),s23)))else
 (some (.inr s8))
def jK(t_0:ah)(old_1:Sl (Sl Int))(now_2:Sl (Sl Int)):Option (Sl ap×Int):=
 ((kJ t_0 old_1).bind fun r1=>
 bif(!r1)then(some true)else
 ((kJ t_0 now_2).bind fun r2=>
 some (!r2)):Option Bool).bind fun b3=>
 bif b3 then(some (Sl.nil,2))else
 ((bL (iM t_0 old_1 now_2) (0,Sl.nil)).bind fun s24=>
 (ny kq s24).bind fun s25=>
 (su s25 s24).bind fun _=>
 some (s25,0))
def QA:l8:=⟨[(false,.x y0),(false,.x (.sl (.sl (.i .i64)))),(false,.x (.sl (.sl (.i .i64))))],[([.x (.sl y3),.x (.i .i64)],[])],false,[],fun p=>match p with|(t_0,old_1,now_2)=>jK t_0 old_1 now_2⟩
theorem PA:dq prog 7 QA:=dh mixed eR (da:=da) (np:=3) (an:=[(4,{j:=some {vs:=[(21,.x .b)]}}),(12,{j:=some {vs:=[(8,.so 0),(25,.x (.i .i64))],os:=[.ar y3]},e:=[(.exit 0,{vs:=[(8,.so 0)],os:=[.ar y3]})]}),(23,{j:=some {vs:=[(8,.so 0),(34,.x (.i .i64))],os:=[.ar y3],kl:=[1]},e:=[(.exit 2,{vs:=[(8,.so 0)],os:=[.ar y3],kl:=[1]})]}),(27,{e:=[(.normal,{vs:=[(8,.so 0)],os:=[.ar y3],kl:=[3]})]})]) (.cons Rd (.cons PB (.cons Rc .nil))) (by kernel_rfl) (by kernel_rfl)
theorem Pz:dq prog 21 (vS (.i .i64) pJ):=HV
theorem Py:dq prog 22 (Af (.i .i64) pw):=Ka
def qh(l_0:Sl ap):(Int×Sl Int)->Option ((Int×Sl Int)⊕(Sl Int)):=fun(i4,s5)=>
 bif decide (i4<(l_0.l.length:Int))then((fD i4 l_0.l.length).bind fun n6=>
 (jT (s5.l++[ap.uZ (gt l_0.l n6)])).bind fun l7=>
 some (.inl (wr .i64 (i4+1),(Sl.mk l7))))else
 (some (.inr s5))
def m7(l_0:Sl ap):Option (Sl Int):=
 (bL (qh l_0) (0,Sl.nil)).bind fun s8=>
 (ny pJ s8).bind fun s9=>
 (su s9 s8).bind fun _=>
 (Ce pw s9).bind fun s10=>
 some s10
def Qz:l8:=⟨[(false,.x (.sl y3))],[([.x (.sl (.i .i64))],[])],false,[],fun p=>match p with|l_0=>m7 l_0⟩
theorem Rb:dq prog 14 Qz:=dh mixed eR (da:=da) (np:=1) (an:=[(7,{j:=some {vs:=[(3,.so 0),(8,.x (.i .i64))],os:=[.ar (.i .i64)]},e:=[(.exit 0,{vs:=[(3,.so 0)],os:=[.ar (.i .i64)]})]})]) (.cons Pz (.cons Py .nil)) (by kernel_rfl) (by kernel_rfl)
def rI(a_0:Sl Int)(b_1:Sl Int):Int->Option (Int⊕(Bool⊕Unit)):=fun i2=>
 bif decide (i2<(a_0.l.length:Int))then((fD i2 a_0.l.length).bind fun n3=>
 (fD i2 b_1.l.length).bind fun n4=>
 bif((gt a_0.l n3) !=(gt b_1.l n4))then(some (.inr (.inl false)))else
 (some (.inl (wr .i64 (i2+1)))))else
 (some (.inr (.inr ())))
def pS(a_0:Sl Int)(b_1:Sl Int):Option Bool:=
 bif((a_0.l.length:Int) !=(b_1.l.length:Int))then(some false)else
 ((bL (rI a_0 b_1) 0).bind fun
 |.inl b5=>(some b5)
 |.inr _=>(some true))
def Qy:l8:=⟨[(false,.x (.sl (.i .i64))),(false,.x (.sl (.i .i64)))],[([.x .b],[])],true,[],fun p=>match p with|(a_0,b_1)=>pS a_0 b_1⟩
theorem Ra:dq prog 13 Qy:=dh mixed eR (da:=da) (np:=2) (an:=[(10,{j:=some {vs:=[(5,.x (.i .i64))]},e:=[(.ret,{vs:=[(4,.x .b)]}),(.exit 0,{})]})]) .nil (by kernel_rfl) (by kernel_rfl)
def jL:Option Bool:=
 (jK (⟨3,(Sl.mk [(⟨0,0,1,0,1,1⟩:aZ),(⟨1,1,2,0,1,1⟩:aZ),(⟨0,1,2,1,1,1⟩:aZ)]),(Sl.mk [(⟨2,7⟩:dl)])⟩:ah) (Sl.mk [(Sl.mk [0]),(Sl.mk [1]),(Sl.mk [7])]) (Sl.mk [(Sl.mk [1]),(Sl.mk [1]),(Sl.mk [7])])).bind fun(r1,r2)=>
 (bif((r2==0)&&((r1.l.length:Int)==1))then((fD 0 r1.l.length).bind fun n3=>
 bif decide ((gt r1.l n3)=(⟨0,0,1,1⟩:ap))then((m7 r1).bind fun r4=>
 (pS r4 (Sl.mk [1])).bind fun r5=>
 some r5)else
 (some false))else
 (some false):Option Bool).bind fun b6=>
 some b6
def Qw:l8:=⟨[],[([.x .b],[])],true,[],fun p=>match p with|_=>jL⟩
theorem Q_:dq prog 6 Qw:=dh mixed eR (da:=da) (np:=0) (an:=[(7,{j:=some {vs:=[(0,.x .b)]}})]) (.cons PA (.cons Rb (.cons Ra .nil))) (by kernel_rfl) (by kernel_rfl)
def ij(s_0:Sl Int):Option (Sl Int):=
 bif s_0.eC then(some Sl.nil)else
 ((jT ([]++s_0.l)).bind fun l1=>
 some (uC (Sl.mk []) s_0.l l1))
def Qv:l8:=⟨[(false,.x (.sl (.i .i64)))],[([.os (.i .i64)],[])],false,[],fun p=>match p with|s_0=>ij s_0⟩
theorem Q9:dq prog 61 Qv:=dh mixed eR (da:=da) (np:=1) (an:=[]) .nil (by kernel_rfl) (by kernel_rfl)
def jH(r_0:Sl (Sl Int)):(Int×Sl (Sl Int))->Option ((Int×Sl (Sl Int))⊕(Sl (Sl Int))):=fun(i5,s6)=>
 bif decide (i5<(r_0.l.length:Int))then((fD i5 r_0.l.length).bind fun n7=>
 (ij (gt r_0.l n7)).bind fun s8=>
 (fD i5 s6.l.length).bind fun n9=>
 some (.inl (wr .i64 (i5+1),(Sl.mk (s6.l.set n9 s8)))))else
 (some (.inr s6))
def ow(r_0:Sl (Sl Int)):Option (Sl (Sl Int)):=
 (HA (Sl.nil:Sl Int) (r_0.l.length:Int) (r_0.l.length:Int)).bind fun l1=>
 (bL (jH r_0) (0,(Sl.mk l1))).bind fun s10=>
 some s10
def Qu:l8:=⟨[(false,.x (.sl (.sl (.i .i64))))],[([.rw (.i .i64)],[])],false,[],fun p=>match p with|r_0=>ow r_0⟩
theorem Q8:dq prog 38 Qu:=dh mixed eR (da:=Nz) (np:=1) (an:=[(7,{j:=some {vs:=[(3,.sr 0),(11,.x (.i .i64))],os:=[.rw (.i .i64)],kl:=[0]},e:=[(.exit 0,{vs:=[(3,.sr 0)],os:=[.rw (.i .i64)],kl:=[0]})]})]) (.cons Q9 .nil) (by kernel_rfl) (by kernel_rfl)
def rg(r_0:Sl (Sl Int))(m_1:ap):Option (Sl (Sl Int)):=
 (bif(((decide ((ap.Sw m_1)>=0))&&(decide ((ap.Sw m_1)<(r_0.l.length:Int))))&&(decide ((ap.uG m_1)>=0)))then((fD (ap.Sw m_1) r_0.l.length).bind fun n1=>
 some (decide ((ap.uG m_1)<(((gt r_0.l n1).l).length:Int)),(Sl.mk (r_0.l.set n1 (gt r_0.l n1)))))else
 (some (false,r_0)):Option (Bool×Sl (Sl Int))).bind fun(b2,s3)=>
 bif b2 then((fD (ap.Sw m_1) s3.l.length).bind fun n4=>
 (fD (ap.uG m_1) ((gt s3.l n4).l).length).bind fun n5=>
 some (Sl.mk (s3.l.set n4 (Sl.mk (((gt s3.l n4).l).set n5 (ap.mN m_1))))))else
 (some s3)
def Qt:l8:=⟨[(true,.rw (.i .i64)),(false,.x y3)],[([],[.rw (.i .i64)])],false,[true,false],fun p=>match p with|(r_0,m_1)=>rg r_0 m_1⟩
theorem Q7:dq prog 39 Qt:=dh mixed eR (da:=Nz) (np:=2) (an:=[(3,{j:=some {vs:=[(0,.sr 0),(29,.x .b)],gs:=(.co (.sr 0) .ni),os:=[.rw (.i .i64)],kl:=[0]}})]) .nil (by kernel_rfl) (by kernel_rfl)
def kz(l_1:Sl ap)(round_2:Int)(some_3:Sl Int):(Int×Sl (Sl Int))->Option ((Int×Sl (Sl Int))⊕(Sl (Sl Int))):=fun(i5,s6)=>
 bif decide (i5<(l_1.l.length:Int))then(((fD i5 l_1.l.length).bind fun n7=>
 (bif decide ((ap.uZ (gt l_1.l n7))<round_2)then(some true)else
 (bif((ap.uZ (gt l_1.l n7))==round_2)then((c8 some_3 (ap.Sw (gt l_1.l n7))).bind fun r8=>
 some r8)else
 (some false)):Option Bool).bind fun b9=>
 bif b9 then((rg s6 (gt l_1.l n7)).bind fun s10=>
 (su s10 s6).bind fun _=>
 some s10)else
 (some s6):Option (Sl (Sl Int))).bind fun s11=>
 some (.inl (wr .i64 (i5+1),s11)))else
 (some (.inr s6))
def lY(old_0:Sl (Sl Int))(l_1:Sl ap)(round_2:Int)(some_3:Sl Int):Option (Sl (Sl Int)):=
 (ow old_0).bind fun s1=>
 (bL (kz l_1 round_2 some_3) (0,s1)).bind fun s12=>
 some s12
def Qs:l8:=⟨[(false,.x (.sl (.sl (.i .i64)))),(false,.x (.sl y3)),(false,.x (.i .i64)),(false,.x (.sl (.i .i64)))],[([.x (.sl (.sl (.i .i64)))],[])],false,[],fun p=>match p with|(old_0,l_1,round_2,some_3)=>lY old_0 l_1 round_2 some_3⟩
theorem Q6:dq prog 20 Qs:=dh mixed eR (da:=da) (np:=4) (an:=[(7,{j:=some {vs:=[(9,.sr 0),(16,.x (.i .i64))],os:=[.rw (.i .i64)],kl:=[0]},e:=[(.exit 0,{vs:=[(9,.sr 0)],os:=[.rw (.i .i64)],kl:=[0]})]}),(11,{e:=[(.normal,{vs:=[(9,.sr 0)],os:=[.rw (.i .i64)],kl:=[1]})]}),(15,{j:=some {vs:=[(35,.x .b)]}})]) (.cons Q8 (.cons NS (.cons Q7 .nil))) (by kernel_rfl) (by kernel_rfl)
def jJ(h_4:Int)(r2:Sl (Sl Int)):(Int×Sl (Sl Int))->Option ((Int×Sl (Sl Int))⊕(Sl (Sl Int))):=fun(i6,s7)=>
 bif decide (i6<(r2.l.length:Int))then((fD i6 r2.l.length).bind fun n8=>
 (fD h_4 ((gt r2.l n8).l).length).bind fun n9=>
 (jT (s7.l++[(Sl.mk [gt ((gt r2.l n8).l) n9])])).bind fun l10=>
 some (.inl (wr .i64 (i6+1),(Sl.mk (l10.set s7.l.length (Sl.mk [gt ((gt r2.l n8).l) n9]))))))else
 (some (.inr s7))
def iL(l_2:Sl ap)(round_3:Int)(h_4:Int):(Int×Sl (Sl Int))->Option ((Int×Sl (Sl Int))⊕(Sl (Sl Int))):=fun(i15,s16)=>
 bif decide (i15<(l_2.l.length:Int))then(((fD i15 l_2.l.length).bind fun n17=>
 bif(((((ap.uZ (gt l_2.l n17))==round_3)&&((ap.uG (gt l_2.l n17))==h_4))&&(decide ((ap.Sw (gt l_2.l n17))>=0)))&&(decide ((ap.Sw (gt l_2.l n17))<(s16.l.length:Int))))then((fD (ap.Sw (gt l_2.l n17)) s16.l.length).bind fun n18=>
 (jT (((gt s16.l n18).l)++[ap.mN (gt l_2.l n17)])).bind fun l19=>
 (fD (ap.Sw (gt l_2.l n17)) s16.l.length).bind fun n20=>
 bif Nat.beq n18 n20 then(some (Sl.mk (s16.l.set n20 (Sl.mk l19))))else(none))else
 (some s16):Option (Sl (Sl Int))).bind fun s21=>
 some (.inl (wr .i64 (i15+1),s21)))else
 (some (.inr s16))
def jI(s22:Sl (Sl Int)):(Int×Sl (Sl Int))->Option ((Int×Sl (Sl Int))⊕(Sl (Sl Int))):=fun(i26,s27)=>
 bif decide (i26<(s22.l.length:Int))then((fD i26 s27.l.length).bind fun n28=>
 (ny pJ (gt s27.l n28)).bind fun s29=>
 (su s29 (gt s27.l n28)).bind fun _=>
 (fD i26 (s27.l.set n28 s29).length).bind fun n30=>
 (Ce pw (gt (s27.l.set n28 s29) n30)).bind fun s31=>
 (fD i26 (s27.l.set n28 s29).length).bind fun n32=>
 bif Nat.beq n30 n32 then(some (.inl (wr .i64 (i26+1),(Sl.mk ((s27.l.set n28 s29).set n32 s31)))))else(none))else
 (some (.inr s27))
def oz(t_0:ah)(old_1:Sl (Sl Int))(l_2:Sl ap)(round_3:Int)(h_4:Int):Option (Sl (Sl Int)):=
 (gL t_0 old_1).bind fun r1=>
 bif(((!r1)||(decide (h_4<0)))||(decide (h_4>=(((ah.aR t_0).l).length:Int))))then(some Sl.nil)else
 ((lY old_1 l_2 round_3 Sl.nil).bind fun r2=>
 (bL (jJ h_4 r2) (0,Sl.nil)).bind fun s11=>
 (bL (iL l_2 round_3 h_4) (0,s11)).bind fun s22=>
 (bL (jI s22) (0,s22)).bind fun s33=>
 some s33)
def Qr:l8:=⟨[(false,.x y0),(false,.x (.sl (.sl (.i .i64)))),(false,.x (.sl y3)),(false,.x (.i .i64)),(false,.x (.i .i64))],[([.x (.sl (.sl (.i .i64)))],[])],false,[],fun p=>match p with|(t_0,old_1,l_2,round_3,h_4)=>oz t_0 old_1 l_2 round_3 h_4⟩
theorem Q5:dq prog 8 Qr:=dh mixed eR (da:=QR) (np:=5) (an:=[(12,{j:=some {vs:=[(11,.sr 0),(37,.x (.i .i64))],os:=[.rw (.i .i64)]},e:=[(.exit 0,{vs:=[(11,.sr 0)],os:=[.rw (.i .i64)]})]}),(24,{j:=some {vs:=[(11,.sr 0),(52,.x (.i .i64))],os:=[.rw (.i .i64)],kl:=[3]},e:=[(.exit 2,{vs:=[(11,.sr 0)],os:=[.rw (.i .i64)],kl:=[3]})]}),(28,{e:=[(.normal,{vs:=[(11,.sr 0)],os:=[.rw (.i .i64)],kl:=[4]})]}),(38,{j:=some {vs:=[(11,.sr 0),(94,.x (.i .i64))],os:=[.rw (.i .i64)],kl:=[4]},e:=[(.exit 4,{vs:=[(11,.sr 0)],os:=[.rw (.i .i64)],kl:=[4]})]})]) (.cons LK (.cons Q6 (.cons Pz (.cons Py .nil)))) (by kernel_rfl) (by kernel_rfl)
def jN(n_0:Int)(l_1:Sl bc):Int->Option (Int⊕(Bool⊕Unit)):=fun i2=>
 bif decide (i2<(l_1.l.length:Int))then((fD i2 l_1.l.length).bind fun n3=>
 bif((((decide ((bc.tK (gt l_1.l n3))<0))||(decide ((bc.tK (gt l_1.l n3))>=n_0)))||(decide ((bc.To (gt l_1.l n3))<0)))||(decide ((bc.To (gt l_1.l n3))>=n_0)))then(some (.inr (.inl false)))else
 (some (.inl (wr .i64 (i2+1)))))else
 (some (.inr (.inr ())))
def mz(n_0:Int)(l_1:Sl bc):Option Bool:=
 bif((decide (n_0<0))||(decide (n_0>16)))then(some false)else
 ((bL (jN n_0 l_1) 0).bind fun
 |.inl b4=>(some b4)
 |.inr _=>(some true))
def Qq:l8:=⟨[(false,.x (.i .i64)),(false,.x (.sl y2))],[([.x .b],[])],true,[],fun p=>match p with|(n_0,l_1)=>mz n_0 l_1⟩
theorem Q4:dq prog 23 Qq:=dh mixed eR (da:=da) (np:=2) (an:=[(10,{j:=some {vs:=[(15,.x (.i .i64))]},e:=[(.ret,{vs:=[(4,.x .b)]}),(.exit 0,{})]})]) .nil (by kernel_rfl) (by kernel_rfl)
def me(l_1:Sl bc):(Int×Sl Int)->Option ((Int×Sl Int)⊕(Sl Int)):=fun(i5,s6)=>
 bif decide (i5<(l_1.l.length:Int))then((fD i5 l_1.l.length).bind fun n7=>
 (fD (bc.tK (gt l_1.l n7)) s6.l.length).bind fun n8=>
 (AV .u16 1 (bc.To (gt l_1.l n7))).bind fun i9=>
 (fD (bc.tK (gt l_1.l n7)) s6.l.length).bind fun n10=>
 some (.inl (wr .i64 (i5+1),(Sl.mk (s6.l.set n10 (Pb .u16 (gt s6.l n8) i9))))))else
 (some (.inr s6))
def p6(n_0:Int)(l_1:Sl bc):Option (Sl Int):=
 (HA 0 n_0 n_0).bind fun l1=>
 (bL (me l_1) (0,(Sl.mk l1))).bind fun s11=>
 some s11
def Qp:l8:=⟨[(false,.x (.i .i64)),(false,.x (.sl y2))],[([.x (.sl (.i .u16))],[])],false,[],fun p=>match p with|(n_0,l_1)=>p6 n_0 l_1⟩
theorem Q3:dq prog 24 Qp:=dh mixed eR (da:=da) (np:=2) (an:=[(7,{j:=some {vs:=[(5,.so 0),(12,.x (.i .i64))],os:=[.ar (.i .u16)],kl:=[0]},e:=[(.exit 0,{vs:=[(5,.so 0)],os:=[.ar (.i .u16)],kl:=[0]})]})]) .nil (by kernel_rfl) (by kernel_rfl)
def eQ(x_0:Int):Option Int:=
 bif(x_0==0)then(some 16)else
 ((fD (Ks .u32 (wr .u32 ((wr .u32 (Hs .u16 x_0 (wr .u16 (0-x_0))))*125613361)) 27) 32).bind fun n1=>
 some (wr .i64 (gt HN.1 n1)))
def Qo:l8:=⟨[(false,.x (.i .u16))],[([.x (.i .i64)],[])],true,[],fun p=>match p with|x_0=>eQ x_0⟩
theorem Px:dq prog 26 Qo:=dh mixed eR (da:=da) (np:=1) (an:=[]) .nil (by kernel_rfl) (by kernel_rfl)
def mg:(Int×Sl Int)->Option ((Int×Sl Int)⊕(Sl Int)):=fun(i4,s5)=>
 bif(i4 !=0)then((eQ i4).bind fun r6=>
 (jT (s5.l++[r6])).bind fun l7=>
 some (.inl (Hs .u16 i4 (wr .u16 (i4-1)),(Sl.mk l7))))else
 (some (.inr s5))
def p7(set_0:Int):Option (Sl Int):=
 (bL (mg) (set_0,Sl.nil)).bind fun s8=>
 some s8
def Qn:l8:=⟨[(false,.x (.i .u16))],[([.x (.sl (.i .i64))],[])],false,[],fun p=>match p with|set_0=>p7 set_0⟩
theorem Q2:dq prog 41 Qn:=dh mixed eR (da:=da) (np:=1) (an:=[(5,{j:=some {vs:=[(0,.x (.i .u16)),(3,.so 0)],os:=[.ar (.i .i64)]},e:=[(.exit 0,{vs:=[(3,.so 0)],os:=[.ar (.i .i64)]})]})]) (.cons Px .nil) (by kernel_rfl) (by kernel_rfl)
def md(to_0:Sl Int)(r1:Sl Int):(Int×Int)->Option ((Int×Int)⊕Int):=fun(i4,i5)=>
 bif decide (i5<(r1.l.length:Int))then((fD i5 r1.l.length).bind fun n6=>
 (fD (gt r1.l n6) to_0.l.length).bind fun n7=>
 some (.inl (Pb .u16 i4 (gt to_0.l n7),wr .i64 (i5+1))))else
 (some (.inr i4))
def pZ(to_0:Sl Int)(set_1:Int):Option Int:=
 (p7 set_1).bind fun r1=>
 (bL (md to_0 r1) (0,0)).bind fun i8=>
 some i8
def Qm:l8:=⟨[(false,.x (.sl (.i .u16))),(false,.x (.i .u16))],[([.x (.i .u16)],[])],true,[],fun p=>match p with|(to_0,set_1)=>pZ to_0 set_1⟩
theorem Q1:dq prog 25 Qm:=dh mixed eR (da:=da) (np:=2) (an:=[(7,{j:=some {vs:=[(5,.x (.i .u16)),(11,.x (.i .i64))]},e:=[(.exit 0,{vs:=[(5,.x (.i .u16))]})]})]) (.cons Q2 .nil) (by kernel_rfl) (by kernel_rfl)
def jO(r2:Sl Int):(Int×Sl Int)->Option ((Int×Sl Int)⊕(Bool⊕(Sl Int))):=fun(i7,s8)=>
 bif(i7 !=0)then((pZ r2 i7).bind fun r9=>
 bif((qb .u16 i7 r9)==0)then(some (.inr (.inl false)))else
 ((eQ (qb .u16 i7 r9)).bind fun r10=>
 (jT (s8.l++[r10])).bind fun l11=>
 (AV .u16 1 r10).bind fun i12=>
 some (.inl (qb .u16 i7 i12,(Sl.mk l11)))))else
 (some (.inr (.inr s8)))
def iT(n_0:Int)(l_1:Sl bc):Option (Sl Int×Bool):=
 (mz n_0 l_1).bind fun r1=>
 bif(!r1)then(some (Sl.nil,false))else
 ((p6 n_0 l_1).bind fun r2=>
 (AV .u16 1 n_0).bind fun i3=>
 (bL (jO r2) (wr .u16 (i3-1),Sl.nil)).bind fun
 |.inl b13=>(some (Sl.nil,b13))
 |.inr s14=>(some (s14,true)))
def Ql:l8:=⟨[(false,.x (.i .i64)),(false,.x (.sl y2))],[([.x (.sl (.i .i64)),.x .b],[])],false,[],fun p=>match p with|(n_0,l_1)=>iT n_0 l_1⟩
theorem Q0:dq prog 10 Ql:=dh mixed eR (da:=da) (np:=2) (an:=[(14,{j:=some {vs:=[(7,.x (.i .u16)),(8,.so 0)],os:=[.ar (.i .i64)]},e:=[(.ret,{vs:=[(4,.nl 0),(5,.x .b)]}),(.exit 0,{vs:=[(8,.so 0)],os:=[.ar (.i .i64)]})]})]) (.cons Q4 (.cons Q3 (.cons Q1 (.cons Px .nil)))) (by kernel_rfl) (by kernel_rfl)
def fC(t_0:ah)(h_4:Int)(r9:Sl (Sl Int))(i13:Int):(Int×Sl bc)->Option ((Int×Sl bc)⊕(Bool⊕(Sl bc))):=fun(i17,s18)=>
 (fD i13 r9.l.length).bind fun n19=>
 bif decide (i17<(((gt r9.l n19).l).length:Int))then(((fD i13 r9.l.length).bind fun n20=>
 (fD i17 ((gt r9.l n20).l).length).bind fun n21=>
 (nE t_0 i13 (gt ((gt r9.l n20).l) n21)).bind fun(r22,r23,r24,r25)=>
 (bif(!r25)then((fD h_4 ((ah.aR t_0).l).length).bind fun n26=>
 bif((dl.At (gt ((ah.aR t_0).l) n26)) !=i13)then(some true)else
 ((fD h_4 ((ah.aR t_0).l).length).bind fun n27=>
 (fD i13 r9.l.length).bind fun n28=>
 (fD i17 ((gt r9.l n28).l).length).bind fun n29=>
 bif((dl.mN (gt ((ah.aR t_0).l) n27)) !=(gt ((gt r9.l n28).l) n29))then(some true)else
 ((fD i13 r9.l.length).bind fun n30=>
 some (decide ((((gt r9.l n30).l).length:Int)>2)))))else
 ((fD i13 r9.l.length).bind fun n31=>
 some (decide ((((gt r9.l n31).l).length:Int)>2))):Option Bool).bind fun b32=>
 bif b32 then(some (.inr false))else
 (bif r25 then((jT (s18.l++[(⟨i13,r22⟩:bc)])).bind fun l33=>
 some (.inl (Sl.mk l33)))else
 (some (.inl s18))):Option ((Sl bc)⊕Bool)).bind fun
 |.inl s34=>(some (.inl (wr .i64 (i17+1),s34)))
 |.inr b35=>(some (.inr (.inl b35))))else
 (some (.inr (.inr s18)))
def gw(t_0:ah)(h_4:Int)(r9:Sl (Sl Int)):(Int×Sl bc)->Option ((Int×Sl bc)⊕(Bool⊕(Sl bc))):=fun(i13,s14)=>
 bif decide (i13<(r9.l.length:Int))then((bL (fC t_0 h_4 r9 i13) (0,s14)).bind fun
 |.inl b36=>(some (.inr (.inl b36)))
 |.inr s37=>(some (.inl (wr .i64 (i13+1),s37))))else
 (some (.inr (.inr s14)))
def lZ(t_0:ah)(old_1:Sl (Sl Int))(now_2:Sl (Sl Int))(round_3:Int)(h_4:Int):Option Bool:=
 ((mw t_0 old_1).bind fun r1=>
 bif(!r1)then(some true)else
 ((mw t_0 now_2).bind fun r2=>
 bif(!r2)then(some true)else
 ((nD t_0 old_1).bind fun r3=>
 bif(!r3)then(some true)else
 ((nD t_0 now_2).bind fun r4=>
 some (((!r4)||(decide (h_4<0)))||(decide (h_4>=(((ah.aR t_0).l).length:Int))))))):Option Bool).bind fun b5=>
 bif b5 then((jL).bind fun r6=>
 some r6)else
 ((jK t_0 old_1 now_2).bind fun(r7,r8)=>
 (oz t_0 old_1 r7 round_3 h_4).bind fun r9=>
 bif((r9.l.length:Int) !=(ah.bF t_0))then(some false)else
 ((bL (gw t_0 h_4 r9) (0,Sl.nil)).bind fun
 |.inl b38=>(some b38)
 |.inr s39=>((iT (ah.bF t_0) s39).bind fun(r40,r41)=>
 (bif r41 then((jL).bind fun r42=>
 some r42)else
 (some false):Option Bool).bind fun b43=>
 some b43)))
def Qk:l8:=⟨[(false,.x y0),(false,.x (.sl (.sl (.i .i64)))),(false,.x (.sl (.sl (.i .i64)))),(false,.x (.i .i64)),(false,.x (.i .i64))],[([.x .b],[])],true,[],fun p=>match p with|(t_0,old_1,now_2,round_3,h_4)=>lZ t_0 old_1 now_2 round_3 h_4⟩
theorem QZ:dq prog 3 Qk:=dh mixed eR (da:=da) (np:=5) (an:=[(4,{j:=some {vs:=[(55,.x .b)]}}),(21,{j:=some {vs:=[(14,.so 0),(15,.x (.i .i64))],os:=[.ar y2]},e:=[(.ret,{vs:=[(10,.x .b)]}),(.exit 0,{vs:=[(14,.so 0)],os:=[.ar y2]})]}),(28,{j:=some {vs:=[(14,.so 0),(16,.x (.i .i64))],os:=[.ar y2],kl:=[4]},e:=[(.ret,{vs:=[(10,.x .b)],kl:=[4]}),(.exit 2,{vs:=[(14,.so 0)],os:=[.ar y2],kl:=[4]})]}),(32,{e:=[(.normal,{vs:=[(14,.so 0)],os:=[.ar y2],kl:=[5]}),(.ret,{vs:=[(10,.x .b)]})]}),(37,{j:=some {vs:=[(140,.x .b)]}}),(48,{j:=some {vs:=[(10,.x .b)]}})]) (.cons Rq (.cons Se (.cons Q_ (.cons PA (.cons Q5 (.cons R1 (.cons Q0 .nil))))))) (by kernel_rfl) (by kernel_rfl)
end Go.Proofs.YtpnnnoagjcpmhaaDoor.U
