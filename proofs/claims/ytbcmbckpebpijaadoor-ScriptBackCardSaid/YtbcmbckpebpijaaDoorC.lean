/- What functions of the program compute, and that the model's run computes it. Conditions: as stated. -/
import Derived.Test.YtbcmbckpebpijaaDoorCt
import Derived.Test.YtbcmbckpebpijaaDoorChecked
import Derived.KernelRfl
open Go.Ev Go
noncomputable section
namespace Go.Proofs.YtbcmbckpebpijaaDoor.C
abbrev prog:Program:=Tryd.prog
theorem mixed:prog.follows .mixedOrders=true:=by kernel_rfl
theorem ie:je:=Kq fun _=>rfl
def dQ:xe:=fun f=>if f=3 then(true,[])else if f=4 then(true,[])else if f=5 then(true,[])else if f=6 then(true,[])else if f=7 then(true,[])else if f=8 then(true,[])else if f=9 then(true,[])else if f=10 then(true,[])else if f=11 then(true,[])else if f=12 then(true,[])else if f=15 then(true,[])else if f=17 then(true,[])else if f=18 then(true,[])else if f=19 then(true,[])else if f=20 then(true,[])else if f=21 then(true,[])else if f=22 then(true,[])else if f=23 then(true,[])else if f=24 then(true,[])else if f=25 then(true,[])else if f=26 then(true,[])else if f=27 then(true,[])else if f=28 then(true,[])else if f=29 then(true,[])else if f=37 then(true,[])else if f=38 then(true,[])else(false,[])
@[reducible] def aE:Type:=Int×Int×Int
@[reducible] def aE.j3 (x:aE):Int:=x.1
@[reducible] def aE.I (x:aE):Int:=x.2.1
@[reducible] def aE.N (x:aE):Int:=x.2.2
@[reducible] def az:Type:=Int×Int×Int
@[reducible] def az.j3 (x:az):Int:=x.1
@[reducible] def az.I (x:az):Int:=x.2.1
@[reducible] def az.N (x:az):Int:=x.2.2
@[reducible] def y0:Ty:=.st (.pr (.i .i64) (.pr (.i .i64) (.i .i64)))
theorem NP:dJ prog 25 (Gk true):=KL
theorem NO:dJ prog 35 (xG false):=Ey
def gj(kind_0:Int):Option (ByteArray×ByteArray):=
 bif(kind_0==1)then(some ((⟨#[116,105,99,107]⟩:ByteArray),(⟨#[78]⟩:ByteArray)))else
 (bif(kind_0==2)then(some ((⟨#[116,117,114,110]⟩:ByteArray),(⟨#[73,78]⟩:ByteArray)))else
 (bif(kind_0==3)then(some ((⟨#[116,105,109,101,114]⟩:ByteArray),(⟨#[]⟩:ByteArray)))else
 (bif(kind_0==4)then(some ((⟨#[117,112,100,97,116,101]⟩:ByteArray),(⟨#[78]⟩:ByteArray)))else
 (bif(kind_0==5)then(some ((⟨#[100,101,108,105,118,101,114]⟩:ByteArray),(⟨#[78]⟩:ByteArray)))else
 (bif(kind_0==6)then(some ((⟨#[100,114,111,112]⟩:ByteArray),(⟨#[78]⟩:ByteArray)))else
 (bif(kind_0==7)then(some ((⟨#[116,119,105,99,101]⟩:ByteArray),(⟨#[78]⟩:ByteArray)))else
 (bif(kind_0==8)then(some ((⟨#[105,110,106,101,99,116]⟩:ByteArray),(⟨#[73,78]⟩:ByteArray)))else
 (bif(kind_0==9)then(some ((⟨#[104,111,112]⟩:ByteArray),(⟨#[78]⟩:ByteArray)))else
 (bif(kind_0==10)then(some ((⟨#[99,114,97,115,104]⟩:ByteArray),(⟨#[73]⟩:ByteArray)))else
 (bif(kind_0==11)then(some ((⟨#[115,116,97,114,116]⟩:ByteArray),(⟨#[73]⟩:ByteArray)))else
 (some ((⟨#[63]⟩:ByteArray),(⟨#[]⟩:ByteArray)))))))))))))
def NJ:mQ:=⟨[(false,.x (.i .i64))],[([.x .s,.x .s],[])],true,[],fun p=>match p with|kind_0=>gj kind_0⟩
theorem Mm:dJ prog 19 NJ:=fB mixed ie (dQ:=dQ) (np:=1) (an:=[]) .nil (by kernel_rfl) (by kernel_rfl)
def gL(kind_0:Int):Option ByteArray:=
 (gj kind_0).bind fun(r1,r2)=>
 some r1
def NI:mQ:=⟨[(false,.x (.i .i64))],[([.x .s],[])],true,[],fun p=>match p with|kind_0=>gL kind_0⟩
theorem Nx:dJ prog 6 NI:=fB mixed ie (dQ:=dQ) (np:=1) (an:=[]) (.cons Mm .nil) (by kernel_rfl) (by kernel_rfl)
theorem NN:dJ prog 36 (Cr false):=IK
theorem NM:dJ prog 20 (rz true):=zm
def jo(s_0:az):Option Bool:=
 (gj (az.j3 s_0)).bind fun(r1,r2)=>
 bif(((((r1.toList==(⟨#[63]⟩:ByteArray).toList)||(decide ((az.I s_0)<(-1))))||(decide ((az.I s_0)>15)))||(decide ((az.N s_0)<(-1000))))||(decide ((az.N s_0)>1048576)))then(some false)else
 ((bif((az.I s_0)==0)then(bif((az.N s_0)==0)then(some true)else
 ((jE r2 (⟨#[78]⟩:ByteArray)).bind fun r3=>
 some r3))else
 ((jE r2 (⟨#[73]⟩:ByteArray)).bind fun r4=>
 bif r4 then(bif((az.N s_0)==0)then(some true)else
 ((jE r2 (⟨#[78]⟩:ByteArray)).bind fun r5=>
 some r5))else
 (some false)):Option Bool).bind fun b6=>
 some b6)
def NH:mQ:=⟨[(false,.x y0)],[([.x .b],[])],true,[],fun p=>match p with|s_0=>jo s_0⟩
theorem Ml:dJ prog 9 NH:=fB mixed ie (dQ:=dQ) (np:=1) (an:=[(10,{j:=some {vs:=[(2,.x .b)]}})]) (.cons Mm (.cons NM .nil)) (by kernel_rfl) (by kernel_rfl)
theorem NL:dJ prog 23 (Cc true):=Ic
def fQ(s_0:az)(r3:ByteArray):(ByteArray×Int)->Option ((ByteArray×Int)⊕ByteArray):=fun(s6,i7)=>
 bif decide (i7<(r3.size:Int))then(((zA r3 i7).bind fun b8=>
 bif(b8==73)then(some (az.I s_0))else
 (some (az.N s_0)):Option Int).bind fun i9=>
 (vg i9).bind fun r10=>
 (lL (⟨#[32]⟩:ByteArray) r10).bind fun s11=>
 (lL s6 s11).bind fun s12=>
 some (.inl (s12,wr .i64 (i7+1))))else
 (some (.inr s6))
def dH(s_0:az):Option ByteArray:=
 (jo s_0).bind fun r1=>
 bif(!r1)then(some (⟨#[]⟩:ByteArray))else
 ((gj (az.j3 s_0)).bind fun(r2,r3)=>
 (dP (fQ s_0 r3) (r2,0)).bind fun s13=>
 some s13)
def NG:mQ:=⟨[(false,.x y0)],[([.x .s],[])],true,[],fun p=>match p with|s_0=>dH s_0⟩
theorem Mj:dJ prog 11 NG:=fB mixed ie (dQ:=dQ) (np:=1) (an:=[(12,{j:=some {vs:=[(3,.x .s),(18,.x (.i .i64))]},e:=[(.exit 0,{vs:=[(3,.x .s)]})]}),(21,{e:=[(.normal,{vs:=[(6,.x (.i .i64))]})]})]) (.cons Ml (.cons Mm (.cons NL .nil))) (by kernel_rfl) (by kernel_rfl)
def iv(r1:Sl ByteArray):(Int×az)->Option ((Int×az)⊕az):=fun(i5,x6)=>
 bif decide (i5<=11)then(((gL i5).bind fun r7=>
 (nh 0 r1.l.length).bind fun n8=>
 bif(r7.toList==(gt r1.l n8).toList)then(some (⟨i5,az.I x6,az.N x6⟩:az))else
 (some x6):Option az).bind fun x9=>
 some (.inl (wr .i64 (i5+1),x9)))else
 (some (.inr x6))
def iu(r1:Sl ByteArray)(r12:ByteArray):(Int×az)->Option ((Int×az)⊕az):=fun(i16,x17)=>
 bif decide (i16<(r12.size:Int))then(((nh (wr .i64 (i16+1)) r1.l.length).bind fun n18=>
 (vL (gt r1.l n18)).bind fun r19=>
 (zA r12 i16).bind fun b20=>
 bif(b20==73)then(some (⟨az.j3 x17,r19,az.N x17⟩:az))else
 (some (⟨az.j3 x17,az.I x17,r19⟩:az)):Option az).bind fun x21=>
 some (.inl (wr .i64 (i16+1),x21)))else
 (some (.inr x17))
def kp(line_0:ByteArray):Option (az×Bool):=
 (sE line_0 (⟨#[32]⟩:ByteArray)).bind fun r1=>
 (dP (iv r1) (1,(⟨0,0,0⟩:az))).bind fun x10=>
 (gj (az.j3 x10)).bind fun(r11,r12)=>
 bif(((az.j3 x10)==0)||((r1.l.length:Int) !=(wr .i64 ((r12.size:Int)+1))))then(some (x10,false))else
 ((dP (iu r1 r12) (0,x10)).bind fun x22=>
 ((jo x22).bind fun r23=>
 bif r23 then((dH x22).bind fun r24=>
 some ((r24.toList==line_0.toList),x22))else
 (some (false,x22)):Option (Bool×az)).bind fun(b25,x26)=>
 some (x26,b25))
def NF:mQ:=⟨[(false,.x .s)],[([.x y0,.x .b],[])],true,[],fun p=>match p with|line_0=>kp line_0⟩
theorem NK:dJ prog 26 NF:=fB mixed ie (dQ:=dQ) (np:=1) (an:=[(9,{j:=some {vs:=[(5,.op 0 y0 []),(6,.x (.i .i64))],os:=[.bx y0 (.x y0)],kl:=[2]},e:=[(.exit 0,{vs:=[(5,.op 0 y0 [])],os:=[.bx y0 (.x y0)],kl:=[2]})]}),(13,{e:=[(.normal,{vs:=[(5,.op 0 y0 [])],os:=[.bx y0 (.x y0)],kl:=[3]})]}),(28,{j:=some {vs:=[(5,.op 0 y0 []),(46,.x (.i .i64))],os:=[.bx y0 (.x y0)],kl:=[3]},e:=[(.exit 2,{vs:=[(5,.op 0 y0 [])],os:=[.bx y0 (.x y0)],kl:=[3]})]}),(32,{e:=[(.normal,{vs:=[(5,.op 0 y0 [])],os:=[.bx y0 (.x y0)],kl:=[6]})]}),(43,{j:=some {vs:=[(2,.op 0 y0 []),(3,.x .b)],os:=[.bx y0 (.x y0)],kl:=[0]}})]) (.cons NO (.cons Nx (.cons Mm (.cons NN (.cons Ml (.cons Mj .nil)))))) (by kernel_rfl) (by kernel_rfl)
def ge:(ByteArray×Int×Sl az)->Option ((ByteArray×Int×Sl az)⊕((Int×Int)⊕(Sl az))):=fun(s6,i7,s8)=>
 bif(!(s6.toList==(⟨#[]⟩:ByteArray).toList))then(((Gl s6 (⟨#[10]⟩:ByteArray)).bind fun(r9,r10,r11)=>
 (bif(r9.toList==(⟨#[]⟩:ByteArray).toList)then(some true)else
 ((zA r9 0).bind fun b12=>
 some (b12==35)):Option Bool).bind fun b13=>
 bif b13 then(some (.inl (r10,s8)))else
 ((kp r9).bind fun(r14,r15)=>
 bif(!r15)then(some (.inr (i7,10)))else
 ((nv (s8.l++[r14])).bind fun l16=>
 some (.inl (r10,(Sl.mk l16))))):Option ((ByteArray×Sl az)⊕(Int×Int))).bind fun
 |.inl (s17,s18)=>(some (.inl (s17,wr .i64 (i7+1),s18)))
 |.inr (i19,i20)=>(some (.inr (.inl (i19,i20)))))else
 (some (.inr (.inr s8)))
def jP(s_0:ByteArray):Option (Sl az×Int×Int):=
 (dP (ge) (s_0,1,Sl.nil)).bind fun
 |.inl (i21,i22)=>(some (Sl.nil,i21,i22))
 |.inr s23=>(some (s23,0,0))
def MO:mQ:=⟨[(false,.x .s)],[([.x (.sl y0),.x (.i .i64),.x (.i .i64)],[])],false,[],fun p=>match p with|s_0=>jP s_0⟩
theorem LL:dJ prog 13 MO:=fB mixed ie (dQ:=dQ) (np:=1) (an:=[(7,{j:=some {vs:=[(0,.x .s),(5,.so 0),(6,.x (.i .i64))],os:=[.ar y0]},e:=[(.ret,{vs:=[(2,.nl 0),(3,.x (.i .i64)),(4,.x (.i .i64))]}),(.exit 0,{vs:=[(5,.so 0)],os:=[.ar y0]})]}),(11,{e:=[(.normal,{vs:=[(0,.x .s),(5,.so 0)],os:=[.ar y0],kl:=[0]}),(.ret,{vs:=[(2,.nl 0),(3,.x (.i .i64)),(4,.x (.i .i64))]})]}),(18,{j:=some {vs:=[(29,.x .b)]}})]) (.cons NP (.cons NK .nil)) (by kernel_rfl) (by kernel_rfl)
def kx:Option Bool:=
 (jP (⟨#[35,32,115,108,111,119,101,114,10,116,117,114,110,32,49,32,45,51,48,10]⟩:ByteArray)).bind fun(r1,r2,r3)=>
 (bif(((r3==0)&&(r2==0))&&((r1.l.length:Int)==1))then((nh 0 r1.l.length).bind fun n4=>
 bif decide ((gt r1.l n4)=(⟨2,1,(-30)⟩:az))then((nh 0 r1.l.length).bind fun n5=>
 (dH (gt r1.l n5)).bind fun r6=>
 some (r6.toList==(⟨#[116,117,114,110,32,49,32,45,51,48]⟩:ByteArray).toList))else
 (some false))else
 (some false):Option Bool).bind fun b7=>
 some b7
def MN:mQ:=⟨[],[([.x .b],[])],true,[],fun p=>match p with|_=>kx⟩
theorem M6:dJ prog 5 MN:=fB mixed ie (dQ:=dQ) (np:=0) (an:=[(5,{j:=some {vs:=[(0,.x .b)]}})]) (.cons LL (.cons Mj .nil)) (by kernel_rfl) (by kernel_rfl)
def ly(s_0:aE):Option az:=some s_0
def ML:mQ:=⟨[(false,.x y0)],[([.x y0],[])],true,[],fun p=>match p with|s_0=>ly s_0⟩
theorem LK:dJ prog 8 ML:=fB mixed ie (dQ:=dQ) (np:=1) (an:=[]) .nil (by kernel_rfl) (by kernel_rfl)
def kg(kind_0:Int):Option Bool:=some ((((kind_0==2)||(kind_0==8))||(kind_0==10))||(kind_0==11))
def MK:mQ:=⟨[(false,.x (.i .i64))],[([.x .b],[])],true,[],fun p=>match p with|kind_0=>kg kind_0⟩
theorem J5:dJ prog 21 MK:=fB mixed ie (dQ:=dQ) (np:=1) (an:=[]) .nil (by kernel_rfl) (by kernel_rfl)
def jq(kind_0:Int):Option Bool:=some (((kind_0 !=3)&&(kind_0 !=10))&&(kind_0 !=11))
def MJ:mQ:=⟨[(false,.x (.i .i64))],[([.x .b],[])],true,[],fun p=>match p with|kind_0=>jq kind_0⟩
theorem J4:dJ prog 22 MJ:=fB mixed ie (dQ:=dQ) (np:=1) (an:=[]) .nil (by kernel_rfl) (by kernel_rfl)
def jz(s_0:aE):Option Bool:=
 bif((((((decide ((aE.j3 s_0)<1))||(decide ((aE.j3 s_0)>11)))||(decide ((aE.I s_0)<(-1))))||(decide ((aE.I s_0)>15)))||(decide ((aE.N s_0)<(-1000))))||(decide ((aE.N s_0)>1048576)))then(some false)else
 ((kg (aE.j3 s_0)).bind fun r1=>
 bif((!r1)&&((aE.I s_0) !=0))then(some false)else
 ((jq (aE.j3 s_0)).bind fun r2=>
 some (r2||((aE.N s_0)==0))))
def MI:mQ:=⟨[(false,.x y0)],[([.x .b],[])],true,[],fun p=>match p with|s_0=>jz s_0⟩
theorem HO:dJ prog 10 MI:=fB mixed ie (dQ:=dQ) (np:=1) (an:=[]) (.cons J5 (.cons J4 .nil)) (by kernel_rfl) (by kernel_rfl)
def iY(l_0:Sl aE):(Int×Sl az)->Option ((Int×Sl az)⊕(Sl az)):=fun(i4,s5)=>
 bif decide (i4<(l_0.l.length:Int))then((nh i4 l_0.l.length).bind fun n6=>
 (ly (gt l_0.l n6)).bind fun r7=>
 (nv (s5.l++[r7])).bind fun l8=>
 some (.inl (wr .i64 (i4+1),(Sl.mk l8))))else
 (some (.inr s5))
def lx(l_0:Sl aE):Option (Sl az):=
 (dP (iY l_0) (0,Sl.nil)).bind fun s9=>
 some s9
def MC:mQ:=⟨[(false,.x (.sl y0))],[([.x (.sl y0)],[])],false,[],fun p=>match p with|l_0=>lx l_0⟩
theorem LI:dJ prog 16 MC:=fB mixed ie (dQ:=dQ) (np:=1) (an:=[(7,{j:=some {vs:=[(3,.so 0),(4,.x (.i .i64))],os:=[.ar y0]},e:=[(.exit 0,{vs:=[(3,.so 0)],os:=[.ar y0]})]})]) (.cons LK .nil) (by kernel_rfl) (by kernel_rfl)
def mg(s_0:az):Option Bool:=
 (jo s_0).bind fun r1=>
 some (!r1)
def MB:mQ:=⟨[(false,.x y0)],[([.x .b],[])],true,[],fun p=>match p with|s_0=>mg s_0⟩
theorem M1:dJ prog 29 MB:=fB mixed ie (dQ:=dQ) (np:=1) (an:=[]) (.cons Ml .nil) (by kernel_rfl) (by kernel_rfl)
def bi(s_0:Sl az):Int->Option (Int⊕(Int⊕Unit)):=fun i2=>
 bif decide (i2<(s_0.l.length:Int))then((nh i2 s_0.l.length).bind fun n3=>
 (mg (gt s_0.l n3)).bind fun r4=>
 bif r4 then(some (.inr (.inl i2)))else
 (some (.inl (wr .i64 (i2+1)))))else
 (some (.inr (.inr ())))
def ci(s_0:Sl az):Option Int:=
 (dP (bi s_0) 0).bind fun
 |.inl i5=>(some i5)
 |.inr _=>(some (-1))
def MA:mQ:=⟨[(false,.x (.sl y0)),(false,.fn 29 .ni)],[([.x (.i .i64)],[])],true,[],fun p=>match p with|s_0=>ci s_0⟩
theorem M0:dJ prog 38 MA:=fB mixed ie (dQ:=dQ) (np:=2) (an:=[(5,{j:=some {vs:=[(8,.x (.i .i64))]},e:=[(.ret,{vs:=[(4,.x (.i .i64))]}),(.exit 0,{})]})]) (.cons M1 .nil) (by kernel_rfl) (by kernel_rfl)
def bk(s_0:Sl az):Option Bool:=
 (ci s_0).bind fun r1=>
 some (decide (r1>=0))
def Mz:mQ:=⟨[(false,.x (.sl y0)),(false,.fn 29 .ni)],[([.x .b],[])],true,[],fun p=>match p with|s_0=>bk s_0⟩
theorem LH:dJ prog 28 Mz:=fB mixed ie (dQ:=dQ) (np:=2) (an:=[]) (.cons M0 .nil) (by kernel_rfl) (by kernel_rfl)
def Es(l:Sl az):Option ByteArray:=uN bk dH l
theorem MZ:dJ prog 15 (BF bk dH true):=Hc LH Mj
def iZ(a_0:Sl az)(r1:Sl az):Int->Option (Int⊕(Bool⊕Unit)):=fun i3=>
 bif decide (i3<(a_0.l.length:Int))then((nh i3 a_0.l.length).bind fun n4=>
 (nh i3 r1.l.length).bind fun n5=>
 bif(!(decide ((gt a_0.l n4)=(gt r1.l n5))))then(some (.inr (.inl false)))else
 (some (.inl (wr .i64 (i3+1)))))else
 (some (.inr (.inr ())))
def nf(a_0:Sl az)(b_1:Sl aE):Option Bool:=
 (lx b_1).bind fun r1=>
 bif((a_0.l.length:Int) !=(r1.l.length:Int))then(some false)else
 ((dP (iZ a_0 r1) 0).bind fun
 |.inl b6=>(some b6)
 |.inr _=>(some true))
def Mx:mQ:=⟨[(false,.x (.sl y0)),(false,.x (.sl y0))],[([.x .b],[])],true,[],fun p=>match p with|(a_0,b_1)=>nf a_0 b_1⟩
theorem MX:dJ prog 18 Mx:=fB mixed ie (dQ:=dQ) (np:=2) (an:=[(12,{j:=some {vs:=[(6,.x (.i .i64))]},e:=[(.ret,{vs:=[(4,.x .b)]}),(.exit 0,{})]})]) (.cons LI .nil) (by kernel_rfl) (by kernel_rfl)
def i8(l_0:Sl aE):Int->Option (Int⊕(Bool⊕Unit)):=fun i3=>
 bif decide (i3<(l_0.l.length:Int))then((nh i3 l_0.l.length).bind fun n4=>
 (jz (gt l_0.l n4)).bind fun r5=>
 bif(!r5)then((kx).bind fun r6=>
 some (.inr (.inl r6)))else
 (some (.inl (wr .i64 (i3+1)))))else
 (some (.inr (.inr ())))
def i6(remark_2:ByteArray):Int->Option (Int⊕(Bool⊕Unit)):=fun i9=>
 bif decide (i9<(remark_2.size:Int))then((zA remark_2 i9).bind fun b10=>
 bif(b10==10)then((kx).bind fun r11=>
 some (.inr (.inl r11)))else
 (some (.inl (wr .i64 (i9+1)))))else
 (some (.inr (.inr ())))
def mi(l_0:Sl aE)(at_1:Int)(remark_2:ByteArray):Option Bool:=
 bif((((decide ((l_0.l.length:Int)>60))||(decide (at_1<0)))||(decide (at_1>(l_0.l.length:Int))))||(decide ((remark_2.size:Int)>100)))then((kx).bind fun r1=>
 some r1)else
 ((dP (i8 l_0) 0).bind fun
 |.inl b7=>(some b7)
 |.inr _=>((dP (i6 remark_2) 0).bind fun
 |.inl b12=>(some b12)
 |.inr _=>((q8 l_0.l 0 at_1).bind fun l13=>
 (lx (l_0.to l13)).bind fun r14=>
 (Es r14).bind fun r15=>
 (q8 l_0.l at_1 l_0.l.length).bind fun l16=>
 (lx (l_0.to l16)).bind fun r17=>
 (Es r17).bind fun r18=>
 (lL r15 r18).bind fun s19=>
 (jP s19).bind fun(r20,r21,r22)=>
 (lL r15 (⟨#[35]⟩:ByteArray)).bind fun s23=>
 (lL s23 remark_2).bind fun s24=>
 (lL s24 (⟨#[10,10]⟩:ByteArray)).bind fun s25=>
 (lL s25 r18).bind fun s26=>
 (jP s26).bind fun(r27,r28,r29)=>
 (bif(r22==0)then((nf r20 l_0).bind fun r30=>
 bif(r30&&(r29==0))then((nf r27 l_0).bind fun r31=>
 bif r31 then((kx).bind fun r32=>
 some r32)else
 (some false))else
 (some false))else
 (some false):Option Bool).bind fun b33=>
 some b33)))
def N2:mQ:=⟨[(false,.x (.sl y0)),(false,.x (.i .i64)),(false,.x .s)],[([.x .b],[])],true,[],fun p=>match p with|(l_0,at_1,remark_2)=>mi l_0 at_1 remark_2⟩
theorem N3:dJ prog 4 N2:=fB mixed ie (dQ:=dQ) (np:=3) (an:=[(10,{j:=some {vs:=[(7,.x (.i .i64))]},e:=[(.ret,{vs:=[(6,.x .b)]}),(.exit 0,{})]}),(23,{j:=some {vs:=[(8,.x (.i .i64))]},e:=[(.ret,{vs:=[(6,.x .b)]}),(.exit 2,{})]}),(40,{j:=some {vs:=[(6,.x .b)]}})]) (.cons M6 (.cons HO (.cons LI (.cons MZ (.cons LL (.cons MX .nil)))))) (by kernel_rfl) (by kernel_rfl)
end Go.Proofs.YtbcmbckpebpijaaDoor.C
