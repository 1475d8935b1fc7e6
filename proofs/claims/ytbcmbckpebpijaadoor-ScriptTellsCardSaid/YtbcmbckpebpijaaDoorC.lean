/- What functions of the program compute, and that the model's run computes it. Conditions: as stated. -/
import Derived.Test.YtbcmbckpebpijaaDoorCt
import Derived.Test.YtbcmbckpebpijaaDoorChecked
import Derived.KernelRfl
open Go.Ev Go
noncomputable section
namespace Go.Proofs.YtbcmbckpebpijaaDoor.C
abbrev prog:Program:=Tryd.prog
theorem mixed:prog.follows .mixedOrders=true:=by kernel_rfl
theorem ie:je:=Kq fun _=>rfl
def dQ:xe:=fun f=>if f=3 then(true,[])else if f=4 then(true,[])else if f=5 then(true,[])else if f=6 then(true,[])else if f=7 then(true,[])else if f=8 then(true,[])else if f=9 then(true,[])else if f=10 then(true,[])else if f=11 then(true,[])else if f=12 then(true,[])else if f=15 then(true,[])else if f=17 then(true,[])else if f=18 then(true,[])else if f=19 then(true,[])else if f=20 then(true,[])else if f=21 then(true,[])else if f=22 then(true,[])else if f=23 then(true,[])else if f=24 then(true,[])else if f=25 then(true,[])else if f=26 then(true,[])else if f=27 then(true,[])else if f=28 then(true,[])else if f=29 then(true,[])else if f=37 then(true,[])else if f=38 then(true,[])else(false,[])
@[reducible] def aE:Type:=Int×Int×Int
@[reducible] def aE.j3 (x:aE):Int:=x.1
@[reducible] def aE.I (x:aE):Int:=x.2.1
@[reducible] def aE.N (x:aE):Int:=x.2.2
@[reducible] def az:Type:=Int×Int×Int
@[reducible] def az.j3 (x:az):Int:=x.1
@[reducible] def az.I (x:az):Int:=x.2.1
@[reducible] def az.N (x:az):Int:=x.2.2
@[reducible] def y0:Ty:=.st (.pr (.i .i64) (.pr (.i .i64) (.i .i64)))
theorem NP:dJ prog 25 (Gk true):=KL
theorem NO:dJ prog 35 (xG false):=Ey
def gj(kind_0:Int):Option (ByteArray×ByteArray):=
 bif(kind_0==1)then(some ((⟨#[116,105,99,107]⟩:ByteArray),(⟨#[78]⟩:ByteArray)))else
 (bif(kind_0==2)then(some ((⟨#[116,117,114,110]⟩:ByteArray),(⟨#[73,78]⟩:ByteArray)))else
 (bif(kind_0==3)then(some ((⟨#[116,105,109,101,114]⟩:ByteArray),(⟨#[]⟩:ByteArray)))else
 (bif(kind_0==4)then(some ((⟨#[117,112,100,97,116,101]⟩:ByteArray),(⟨#[78]⟩:ByteArray)))else
 (bif(kind_0==5)then(some ((⟨#[100,101,108,105,118,101,114]⟩:ByteArray),(⟨#[78]⟩:ByteArray)))else
 (bif(kind_0==6)then(some ((⟨#[100,114,111,112]⟩:ByteArray),(⟨#[78]⟩:ByteArray)))else
 (bif(kind_0==7)then(some ((⟨#[116,119,105,99,101]⟩:ByteArray),(⟨#[78]⟩:ByteArray)))else
 (bif(kind_0==8)then(some ((⟨#[105,110,106,101,99,116]⟩:ByteArray),(⟨#[73,78]⟩:ByteArray)))else
 (bif(kind_0==9)then(some ((⟨#[104,111,112]⟩:ByteArray),(⟨#[78]⟩:ByteArray)))else
 (bif(kind_0==10)then(some ((⟨#[99,114,97,115,104]⟩:ByteArray),(⟨#[73]⟩:ByteArray)))else
 (bif(kind_0==11)then(some ((⟨#[115,116,97,114,116]⟩:ByteArray),(⟨#[73]⟩:ByteArray)))else
 (some ((⟨#[63]⟩:ByteArray),(⟨#[]⟩:ByteArray)))))))))))))
def NJ:mQ:=⟨[(false,.x (.i .i64))],[([.x .s,.x .s],[])],true,[],fun p=>match p with|kind_0=>gj kind_0⟩
theorem Mm:dJ prog 19 NJ:=fB mixed ie (dQ:=dQ) (np:=1) (an:=[]) .nil (by kernel_rfl) (by kernel_rfl)
def gL(kind_0:Int):Option ByteArray:=
 (gj kind_0).bind fun(r1,r2)=>
 some r1
def NI:mQ:=⟨[(false,.x (.i .i64))],[([.x .s],[])],true,[],fun p=>match p with|kind_0=>gL kind_0⟩
theorem Nx:dJ prog 6 NI:=fB mixed ie (dQ:=dQ) (np:=1) (an:=[]) (.cons Mm .nil) (by kernel_rfl) (by kernel_rfl)
theorem NN:dJ prog 36 (Cr false):=IK
theorem NM:dJ prog 20 (rz true):=zm
def jo(s_0:az):Option Bool:=
 (gj (az.j3 s_0)).bind fun(r1,r2)=>
 bif(((((r1.toList==(⟨#[63]⟩:ByteArray).toList)||(decide ((az.I s_0)<(-1))))||(decide ((az.I s_0)>15)))||(decide ((az.N s_0)<(-1000))))||(decide ((az.N s_0)>1048576)))then(some false)else
 ((bif((az.I s_0)==0)then(bif((az.N s_0)==0)then(some true)else
 ((jE r2 (⟨#[78]⟩:ByteArray)).bind fun r3=>
 some r3))else
 ((jE r2 (⟨#[73]⟩:ByteArray)).bind fun r4=>
 bif r4 then(bif((az.N s_0)==0)then(some true)else
 ((jE r2 (⟨#[78]⟩:ByteArray)).bind fun r5=>
 some r5))else
 (some false)):Option Bool).bind fun b6=>
 some b6)
def NH:mQ:=⟨[(false,.x y0)],[([.x .b],[])],true,[],fun p=>match p with|s_0=>jo s_0⟩
theorem Ml:dJ prog 9 NH:=fB mixed ie (dQ:=dQ) (np:=1) (an:=[(10,{j:=some {vs:=[(2,.x .b)]}})]) (.cons Mm (.cons NM .nil)) (by kernel_rfl) (by kernel_rfl)
theorem NL:dJ prog 23 (Cc true):=Ic
def fQ(s_0:az)(r3:ByteArray):(ByteArray×Int)->Option ((ByteArray×Int)⊕ByteArray):=fun(s6,i7)=>
 bif decide (i7<(r3.size:Int))then(((zA r3 i7).bind fun b8=>
 bif(b8==73)then(some (az.I s_0))else
 (some (az.N s_0)):Option Int).bind fun i9=>
 (vg i9).bind fun r10=>
 (lL (⟨#[32]⟩:ByteArray) r10).bind fun s11=>
 (lL s6 s11).bind fun s12=>
 some (.inl (s12,wr .i64 (i7+1))))else
 (some (.inr s6))
def dH(s_0:az):Option ByteArray:=
 (jo s_0).bind fun r1=>
 bif(!r1)then(some (⟨#[]⟩:ByteArray))else
 ((gj (az.j3 s_0)).bind fun(r2,r3)=>
 (dP (fQ s_0 r3) (r2,0)).bind fun s13=>
 some s13)
def NG:mQ:=⟨[(false,.x y0)],[([.x .s],[])],true,[],fun p=>match p with|s_0=>dH s_0⟩
theorem Mj:dJ prog 11 NG:=fB mixed ie (dQ:=dQ) (np:=1) (an:=[(12,{j:=some {vs:=[(3,.x .s),(18,.x (.i .i64))]},e:=[(.exit 0,{vs:=[(3,.x .s)]})]}),(21,{e:=[(.normal,{vs:=[(6,.x (.i .i64))]})]})]) (.cons Ml (.cons Mm (.cons NL .nil))) (by kernel_rfl) (by kernel_rfl)
def iv(r1:Sl ByteArray):(Int×az)->Option ((Int×az)⊕az):=fun(i5,x6)=>
 bif decide (i5<=11)then(((gL i5).bind fun r7=>
 (nh 0 r1.l.length).bind fun n8=>
 bif(r7.toList==(gt r1.l n8).toList)then(some (⟨i5,az.I x6,az.N x6⟩:az))else
 (some x6):Option az).bind fun x9=>
 some (.inl (wr .i64 (i5+1),x9)))else
 (some (.inr x6))
def iu(r1:Sl ByteArray)(r12:ByteArray):(Int×az)->Option ((Int×az)⊕az):=fun(i16,x17)=>
 bif decide (i16<(r12.size:Int))then(((nh (wr .i64 (i16+1)) r1.l.length).bind fun n18=>
 (vL (gt r1.l n18)).bind fun r19=>
 (zA r12 i16).bind fun b20=>
 bif(b20==73)then(some (⟨az.j3 x17,r19,az.N x17⟩:az))else
 (some (⟨az.j3 x17,az.I x17,r19⟩:az)):Option az).bind fun x21=>
 some (.inl (wr .i64 (i16+1),x21)))else
 (some (.inr x17))
def kp(line_0:ByteArray):Option (az×Bool):=
 (sE line_0 (⟨#[32]⟩:ByteArray)).bind fun r1=>
 (dP (iv r1) (1,(⟨0,0,0⟩:az))).bind fun x10=>
 (gj (az.j3 x10)).bind fun(r11,r12)=>
 bif(((az.j3 x10)==0)||((r1.l.length:Int) !=(wr .i64 ((r12.size:Int)+1))))then(some (x10,false))else
 ((dP (iu r1 r12) (0,x10)).bind fun x22=>
 ((jo x22).bind fun r23=>
 bif r23 then((dH x22).bind fun r24=>
 some ((r24.toList==line_0.toList),x22))else
 (some (false,x22)):Option (Bool×az)).bind fun(b25,x26)=>
 some (x26,b25))
def NF:mQ:=⟨[(false,.x .s)],[([.x y0,.x .b],[])],true,[],fun p=>match p with|line_0=>kp line_0⟩
theorem NK:dJ prog 26 NF:=fB mixed ie (dQ:=dQ) (np:=1) (an:=[(9,{j:=some {vs:=[(5,.op 0 y0 []),(6,.x (.i .i64))],os:=[.bx y0 (.x y0)],kl:=[2]},e:=[(.exit 0,{vs:=[(5,.op 0 y0 [])],os:=[.bx y0 (.x y0)],kl:=[2]})]}),(13,{e:=[(.normal,{vs:=[(5,.op 0 y0 [])],os:=[.bx y0 (.x y0)],kl:=[3]})]}),(28,{j:=some {vs:=[(5,.op 0 y0 []),(46,.x (.i .i64))],os:=[.bx y0 (.x y0)],kl:=[3]},e:=[(.exit 2,{vs:=[(5,.op 0 y0 [])],os:=[.bx y0 (.x y0)],kl:=[3]})]}),(32,{e:=[(.normal,{vs:=[(5,.op 0 y0 [])],os:=[.bx y0 (.x y0)],kl:=[6]})]}),(43,{j:=some {vs:=[(2,.op 0 y0 []),(3,.x .b)],os:=[.bx y0 (.x y0)],kl:=[0]}})]) (.cons NO (.cons Nx (.cons Mm (.cons NN (.cons Ml (.cons Mj .nil)))))) (by kernel_rfl) (by kernel_rfl)
def ge:(ByteArray×Int×Sl az)->Option ((ByteArray×Int×Sl az)⊕((Int×Int)⊕(Sl az))):=fun(s6,i7,s8)=>
 bif(!(s6.toList==(⟨#[]⟩:ByteArray).toList))then(((Gl s6 (⟨#[10]⟩:ByteArray)).bind fun(r9,r10,r11)=>
 (bif(r9.toList==(⟨#[]⟩:ByteArray).toList)then(some true)else
 ((zA r9 0).bind fun b12=>
 some (b12==35)):Option Bool).bind fun b13=>
 bif b13 then(some (.inl (r10,s8)))else
 ((kp r9).bind fun(r14,r15)=>
 bif(!r15)then(some (.inr (i7,10)))else
 ((nv (s8.l++[r14])).bind fun l16=>
 some (.inl (r10,(Sl.mk l16))))):Option ((ByteArray×Sl az)⊕(Int×Int))).bind fun
 |.inl (s17,s18)=>(some (.inl (s17,wr .i64 (i7+1),s18)))
 |.inr (i19,i20)=>(some (.inr (.inl (i19,i20)))))else
 (some (.inr (.inr s8)))
def jP(s_0:ByteArray):Option (Sl az×Int×Int):=
 (dP (ge) (s_0,1,Sl.nil)).bind fun
 |.inl (i21,i22)=>(some (Sl.nil,i21,i22))
 |.inr s23=>(some (s23,0,0))
def MO:mQ:=⟨[(false,.x .s)],[([.x (.sl y0),.x (.i .i64),.x (.i .i64)],[])],false,[],fun p=>match p with|s_0=>jP s_0⟩
theorem LL:dJ prog 13 MO:=fB mixed ie (dQ:=dQ) (np:=1) (an:=[(7,{j:=some {vs:=[(0,.x .s),(5,.so 0),(6,.x (.i .i64))],os:=[.ar y0]},e:=[(.ret,{vs:=[(2,.nl 0),(3,.x (.i .i64)),(4,.x (.i .i64))]}),(.exit 0,{vs:=[(5,.so 0)],os:=[.ar y0]})]}),(11,{e:=[(.normal,{vs:=[(0,.x .s),(5,.so 0)],os:=[.ar y0],kl:=[0]}),(.ret,{vs:=[(2,.nl 0),(3,.x (.i .i64)),(4,.x (.i .i64))]})]}),(18,{j:=some {vs:=[(29,.x .b)]}})]) (.cons NP (.cons NK .nil)) (by kernel_rfl) (by kernel_rfl)
def kx:Option Bool:=
 (jP (⟨#[35,32,115,108,111,119,101,114,10,116,117,114,110,32,49,32,45,51,48,10]⟩:ByteArray)).bind fun(r1,r2,r3)=>
 (bif(((r3==0)&&(r2==0))&&((r1.l.length:Int)==1))then((nh 0 r1.l.length).bind fun n4=>
 bif decide ((gt r1.l n4)=(⟨2,1,(-30)⟩:az))then((nh 0 r1.l.length).bind fun n5=>
 (dH (gt r1.l n5)).bind fun r6=>
 some (r6.toList==(⟨#[116,117,114,110,32,49,32,45,51,48]⟩:ByteArray).toList))else
 (some false))else
 (some false):Option Bool).bind fun b7=>
 some b7
def MN:mQ:=⟨[],[([.x .b],[])],true,[],fun p=>match p with|_=>kx⟩
theorem M6:dJ prog 5 MN:=fB mixed ie (dQ:=dQ) (np:=0) (an:=[(5,{j:=some {vs:=[(0,.x .b)]}})]) (.cons LL (.cons Mj .nil)) (by kernel_rfl) (by kernel_rfl)
def iw(kind_0:Int):Option ByteArray:=
 bif((decide (kind_0<1))||(decide (kind_0>11)))then(some (⟨#[63]⟩:ByteArray))else
 ((nh (wr .i64 (kind_0-1)) [(⟨#[116,105,99,107]⟩:ByteArray),(⟨#[116,117,114,110]⟩:ByteArray),(⟨#[116,105,109,101,114]⟩:ByteArray),(⟨#[117,112,100,97,116,101]⟩:ByteArray),(⟨#[100,101,108,105,118,101,114]⟩:ByteArray),(⟨#[100,114,111,112]⟩:ByteArray),(⟨#[116,119,105,99,101]⟩:ByteArray),(⟨#[105,110,106,101,99,116]⟩:ByteArray),(⟨#[104,111,112]⟩:ByteArray),(⟨#[99,114,97,115,104]⟩:ByteArray),(⟨#[115,116,97,114,116]⟩:ByteArray)].length).bind fun n1=>
 some (gt [(⟨#[116,105,99,107]⟩:ByteArray),(⟨#[116,117,114,110]⟩:ByteArray),(⟨#[116,105,109,101,114]⟩:ByteArray),(⟨#[117,112,100,97,116,101]⟩:ByteArray),(⟨#[100,101,108,105,118,101,114]⟩:ByteArray),(⟨#[100,114,111,112]⟩:ByteArray),(⟨#[116,119,105,99,101]⟩:ByteArray),(⟨#[105,110,106,101,99,116]⟩:ByteArray),(⟨#[104,111,112]⟩:ByteArray),(⟨#[99,114,97,115,104]⟩:ByteArray),(⟨#[115,116,97,114,116]⟩:ByteArray)] n1))
def MM:mQ:=⟨[(false,.x (.i .i64))],[([.x .s],[])],true,[],fun p=>match p with|kind_0=>iw kind_0⟩
theorem J6:dJ prog 7 MM:=fB mixed ie (dQ:=dQ) (np:=1) (an:=[]) .nil (by kernel_rfl) (by kernel_rfl)
def ly(s_0:aE):Option az:=some s_0
def ML:mQ:=⟨[(false,.x y0)],[([.x y0],[])],true,[],fun p=>match p with|s_0=>ly s_0⟩
theorem LK:dJ prog 8 ML:=fB mixed ie (dQ:=dQ) (np:=1) (an:=[]) .nil (by kernel_rfl) (by kernel_rfl)
def kg(kind_0:Int):Option Bool:=some ((((kind_0==2)||(kind_0==8))||(kind_0==10))||(kind_0==11))
def MK:mQ:=⟨[(false,.x (.i .i64))],[([.x .b],[])],true,[],fun p=>match p with|kind_0=>kg kind_0⟩
theorem J5:dJ prog 21 MK:=fB mixed ie (dQ:=dQ) (np:=1) (an:=[]) .nil (by kernel_rfl) (by kernel_rfl)
def jq(kind_0:Int):Option Bool:=some (((kind_0 !=3)&&(kind_0 !=10))&&(kind_0 !=11))
def MJ:mQ:=⟨[(false,.x (.i .i64))],[([.x .b],[])],true,[],fun p=>match p with|kind_0=>jq kind_0⟩
theorem J4:dJ prog 22 MJ:=fB mixed ie (dQ:=dQ) (np:=1) (an:=[]) .nil (by kernel_rfl) (by kernel_rfl)
def jz(s_0:aE):Option Bool:=
 bif((((((decide ((aE.j3 s_0)<1))||(decide ((aE.j3 s_0)>11)))||(decide ((aE.I s_0)<(-1))))||(decide ((aE.I s_0)>15)))||(decide ((aE.N s_0)<(-1000))))||(decide ((aE.N s_0)>1048576)))then(some false)else
 ((kg (aE.j3 s_0)).bind fun r1=>
 bif((!r1)&&((aE.I s_0) !=0))then(some false)else
 ((jq (aE.j3 s_0)).bind fun r2=>
 some (r2||((aE.N s_0)==0))))
def MI:mQ:=⟨[(false,.x y0)],[([.x .b],[])],true,[],fun p=>match p with|s_0=>jz s_0⟩
theorem HO:dJ prog 10 MI:=fB mixed ie (dQ:=dQ) (np:=1) (an:=[]) (.cons J5 (.cons J4 .nil)) (by kernel_rfl) (by kernel_rfl)
def eY(rc:Int->Option ByteArray)(n_0:Int):Option ByteArray:=
 bif decide (n_0<0)then(bif decide (n_0>(-10))then((rc (wr .i64 (0-n_0))).bind fun r1=>
 (lL (⟨#[45]⟩:ByteArray) r1).bind fun s2=>
 some s2)else
 ((rc (wr .i64 (0-(wr .i64 (n_0.tdiv 10))))).bind fun r3=>
 (lL (⟨#[45]⟩:ByteArray) r3).bind fun s4=>
 (rc (wr .i64 (0-(n_0.tmod 10)))).bind fun r5=>
 (lL s4 r5).bind fun s6=>
 some s6))else
 (bif decide (n_0<10)then((mY (⟨#[48,49,50,51,52,53,54,55,56,57]⟩:ByteArray) n_0 (wr .i64 (n_0+1))).bind fun s7=>
 some s7)else
 ((rc (wr .i64 (n_0.tdiv 10))).bind fun r8=>
 (mY (⟨#[48,49,50,51,52,53,54,55,56,57]⟩:ByteArray) (n_0.tmod 10) (wr .i64 ((n_0.tmod 10)+1))).bind fun s9=>
 (lL r8 s9).bind fun s10=>
 some s10))
def eZ:Nat->Int->Option ByteArray
 |0=>fun _=>none
 |n+1=>eY (eZ n)
def BG(rc:Int->Option ByteArray):mQ:=⟨[(false,.x (.i .i64))],[([.x .s],[])],true,[],fun p=>match p with|n_0=>rc n_0⟩
theorem LJ(rc:Int->Option ByteArray)(h:dJ prog 24 (BG rc)):dJ prog 24 (BG (eY rc)):=fB mixed ie (dQ:=dQ) (np:=1) (an:=[]) (.cons h .nil) (by kernel_rfl) (by kernel_rfl)
theorem I3:∀n,dJ prog 24 (BG (eZ n))
 |0=>⟨rfl,fun p r h=>by cases h⟩
 |n+1=>LJ _ (I3 n)
def MH:mQ:=BG (eZ 24)
theorem M5:dJ prog 24 MH:=I3 24
def gw(s_0:aE):Option ByteArray:=
 (jz s_0).bind fun r1=>
 bif(!r1)then(some (⟨#[]⟩:ByteArray))else
 ((iw (aE.j3 s_0)).bind fun r2=>
 ((kg (aE.j3 s_0)).bind fun r3=>
 bif r3 then((lL r2 (⟨#[32]⟩:ByteArray)).bind fun s4=>
 (eZ 24 (aE.I s_0)).bind fun r5=>
 (lL s4 r5).bind fun s6=>
 some s6)else
 (some r2):Option ByteArray).bind fun s7=>
 ((jq (aE.j3 s_0)).bind fun r8=>
 bif r8 then((lL s7 (⟨#[32]⟩:ByteArray)).bind fun s9=>
 (eZ 24 (aE.N s_0)).bind fun r10=>
 (lL s9 r10).bind fun s11=>
 some s11)else
 (some s7):Option ByteArray).bind fun s12=>
 some s12)
def MG:mQ:=⟨[(false,.x y0)],[([.x .s],[])],true,[],fun p=>match p with|s_0=>gw s_0⟩
theorem J3:dJ prog 12 MG:=fB mixed ie (dQ:=dQ) (np:=1) (an:=[(9,{e:=[(.normal,{vs:=[(3,.x .s)]})]}),(13,{e:=[(.normal,{vs:=[(3,.x .s)]})]})]) (.cons HO (.cons J6 (.cons J5 (.cons M5 (.cons J4 .nil))))) (by kernel_rfl) (by kernel_rfl)
def eH(s_0:ByteArray):(Int×Int×Int)->Option ((Int×Int×Int)⊕(Int×Int)):=fun(i8,i9,i10)=>
 (bif((decide (i10<7))&&(decide (i8<(s_0.size:Int))))then((zA s_0 i8).bind fun b11=>
 bif decide (b11>=48)then((zA s_0 i8).bind fun b12=>
 some (decide (b12<=57)))else
 (some false))else
 (some false):Option Bool).bind fun b13=>
 bif b13 then((zA s_0 i8).bind fun b14=>
 some (.inl (wr .i64 (i8+1),wr .i64 ((wr .i64 ((wr .i64 (10*i9))+(wr .i64 b14)))-48),wr .i64 (i10+1))))else
 (some (.inr (i8,i9)))
def jQ(s_0:ByteArray)(at_1:Int):Option (Int×Int):=
 ((bif decide (at_1<(s_0.size:Int))then((zA s_0 at_1).bind fun b1=>
 some (b1==45))else
 (some false):Option Bool).bind fun b2=>
 bif b2 then(some (wr .i64 (at_1+1),(-1)))else
 (some (at_1,1)):Option (Int×Int)).bind fun(i3,i4)=>
 (dP (eH s_0) (i3,0,0)).bind fun(i15,i16)=>
 some (wr .i64 (i4*i16),i15)
def MF:mQ:=⟨[(false,.x .s),(false,.x (.i .i64))],[([.x (.i .i64),.x (.i .i64)],[])],true,[],fun p=>match p with|(s_0,at_1)=>jQ s_0 at_1⟩
theorem M4:dJ prog 37 MF:=fB mixed ie (dQ:=dQ) (np:=2) (an:=[(4,{e:=[(.normal,{vs:=[(1,.x (.i .i64)),(6,.x (.i .i64))]})]}),(6,{j:=some {vs:=[(18,.x .b)]}}),(15,{j:=some {vs:=[(1,.x (.i .i64)),(7,.x (.i .i64)),(8,.x (.i .i64))]},e:=[(.exit 0,{vs:=[(1,.x (.i .i64)),(7,.x (.i .i64))]})]}),(18,{j:=some {vs:=[(40,.x .b)]}})]) .nil (by kernel_rfl) (by kernel_rfl)
def iW(line_0:ByteArray):Int->Option (Int⊕Int):=fun i2=>
 (bif decide (i2<(line_0.size:Int))then((zA line_0 i2).bind fun b3=>
 some (b3 !=32))else
 (some false):Option Bool).bind fun b4=>
 bif b4 then(some (.inl (wr .i64 (i2+1))))else
 (some (.inr i2))
def iV(line_0:ByteArray)(i5:Int):(Int×aE)->Option ((Int×aE)⊕aE):=fun(i9,x10)=>
 bif decide (i9<=11)then(((iw i9).bind fun r11=>
 (mY line_0 0 i5).bind fun s12=>
 bif(r11.toList==s12.toList)then(some (⟨i9,aE.I x10,aE.N x10⟩:aE))else
 (some x10):Option aE).bind fun x13=>
 some (.inl (wr .i64 (i9+1),x13)))else
 (some (.inr x10))
def lp(line_0:ByteArray):Option (aE×Bool):=
 (dP (iW line_0) 0).bind fun i5=>
 (dP (iV line_0 i5) (1,(⟨0,0,0⟩:aE))).bind fun x14=>
 bif((aE.j3 x14)==0)then(some (x14,false))else
 (((kg (aE.j3 x14)).bind fun r15=>
 bif r15 then((jQ line_0 (wr .i64 (i5+1))).bind fun(r16,r17)=>
 some (r17,(⟨aE.j3 x14,r16,aE.N x14⟩:aE)))else
 (some (i5,x14)):Option (Int×aE)).bind fun(i18,x19)=>
 ((jq (aE.j3 x19)).bind fun r20=>
 bif r20 then((jQ line_0 (wr .i64 (i18+1))).bind fun(r21,r22)=>
 some (⟨aE.j3 x19,aE.I x19,r21⟩:aE))else
 (some x19):Option aE).bind fun x23=>
 ((jz x23).bind fun r24=>
 bif r24 then((gw x23).bind fun r25=>
 some ((r25.toList==line_0.toList),x23))else
 (some (false,x23)):Option (Bool×aE)).bind fun(b26,x27)=>
 some (x27,b26))
def ME:mQ:=⟨[(false,.x .s)],[([.x y0,.x .b],[])],true,[],fun p=>match p with|line_0=>lp line_0⟩
theorem M3:dJ prog 27 ME:=fB mixed ie (dQ:=dQ) (np:=1) (an:=[(5,{j:=some {vs:=[(4,.x (.i .i64))]},e:=[(.exit 0,{vs:=[(4,.x (.i .i64))]})]}),(8,{j:=some {vs:=[(16,.x .b)]}}),(15,{j:=some {vs:=[(5,.op 0 y0 []),(6,.x (.i .i64))],os:=[.bx y0 (.x y0)],kl:=[1]},e:=[(.exit 2,{vs:=[(5,.op 0 y0 [])],os:=[.bx y0 (.x y0)],kl:=[1]})]}),(19,{e:=[(.normal,{vs:=[(5,.op 0 y0 [])],os:=[.bx y0 (.x y0)],kl:=[2]})]}),(29,{e:=[(.normal,{vs:=[(4,.x (.i .i64)),(5,.op 0 y0 [])],os:=[.bx y0 (.x y0)],kl:=[2]})]}),(33,{e:=[(.normal,{vs:=[(5,.op 0 y0 [])],os:=[.bx y0 (.x y0)],kl:=[3]})]}),(38,{j:=some {vs:=[(2,.op 0 y0 []),(3,.x .b)],os:=[.bx y0 (.x y0)],kl:=[0]}})]) (.cons J6 (.cons J5 (.cons M4 (.cons J4 (.cons HO (.cons J3 .nil)))))) (by kernel_rfl) (by kernel_rfl)
def iz(s_0:ByteArray):Int->Option (Int⊕Int):=fun i10=>
 (bif decide (i10<(s_0.size:Int))then((zA s_0 i10).bind fun b11=>
 some (b11 !=10))else
 (some false):Option Bool).bind fun b12=>
 bif b12 then(some (.inl (wr .i64 (i10+1))))else
 (some (.inr i10))
def gC(s_0:ByteArray):(Int×Int×Sl aE)->Option ((Int×Int×Sl aE)⊕((Int×Int)⊕(Sl aE))):=fun(i6,i7,s8)=>
 bif decide (i6<(s_0.size:Int))then((dP (iz s_0) i6).bind fun i13=>
 (mY s_0 i6 i13).bind fun s14=>
 (bif(s14.toList==(⟨#[]⟩:ByteArray).toList)then(some true)else
 ((zA s14 0).bind fun b15=>
 some (b15==35)):Option Bool).bind fun b16=>
 bif b16 then(some (.inl (wr .i64 (i13+1),wr .i64 (i7+1),s8)))else
 ((lp s14).bind fun(r17,r18)=>
 bif(!r18)then(some (.inr (.inl (wr .i64 (i7+1),10))))else
 ((nv (s8.l++[r17])).bind fun l19=>
 some (.inl (wr .i64 (i13+1),wr .i64 (i7+1),(Sl.mk l19))))))else
 (some (.inr (.inr s8)))
def lU(s_0:ByteArray):Option (Sl aE×Int×Int):=
 (dP (gC s_0) (0,0,Sl.nil)).bind fun
 |.inl (i20,i21)=>(some (Sl.nil,i20,i21))
 |.inr s22=>(some (s22,0,0))
def MD:mQ:=⟨[(false,.x .s)],[([.x (.sl y0),.x (.i .i64),.x (.i .i64)],[])],false,[],fun p=>match p with|s_0=>lU s_0⟩
theorem M2:dJ prog 14 MD:=fB mixed ie (dQ:=dQ) (np:=1) (an:=[(7,{j:=some {vs:=[(5,.so 0),(6,.x (.i .i64)),(7,.x (.i .i64))],os:=[.ar y0]},e:=[(.ret,{vs:=[(2,.nl 0),(3,.x (.i .i64)),(4,.x (.i .i64))]}),(.exit 0,{vs:=[(5,.so 0)],os:=[.ar y0]})]}),(14,{j:=some {vs:=[(8,.x (.i .i64))]},e:=[(.exit 2,{vs:=[(8,.x (.i .i64))]})]}),(17,{j:=some {vs:=[(26,.x .b)]}}),(27,{j:=some {vs:=[(43,.x .b)]}})]) (.cons M3 .nil) (by kernel_rfl) (by kernel_rfl)
def iY(l_0:Sl aE):(Int×Sl az)->Option ((Int×Sl az)⊕(Sl az)):=fun(i4,s5)=>
 bif decide (i4<(l_0.l.length:Int))then((nh i4 l_0.l.length).bind fun n6=>
 (ly (gt l_0.l n6)).bind fun r7=>
 (nv (s5.l++[r7])).bind fun l8=>
 some (.inl (wr .i64 (i4+1),(Sl.mk l8))))else
 (some (.inr s5))
def lx(l_0:Sl aE):Option (Sl az):=
 (dP (iY l_0) (0,Sl.nil)).bind fun s9=>
 some s9
def MC:mQ:=⟨[(false,.x (.sl y0))],[([.x (.sl y0)],[])],false,[],fun p=>match p with|l_0=>lx l_0⟩
theorem LI:dJ prog 16 MC:=fB mixed ie (dQ:=dQ) (np:=1) (an:=[(7,{j:=some {vs:=[(3,.so 0),(4,.x (.i .i64))],os:=[.ar y0]},e:=[(.exit 0,{vs:=[(3,.so 0)],os:=[.ar y0]})]})]) (.cons LK .nil) (by kernel_rfl) (by kernel_rfl)
def mg(s_0:az):Option Bool:=
 (jo s_0).bind fun r1=>
 some (!r1)
def MB:mQ:=⟨[(false,.x y0)],[([.x .b],[])],true,[],fun p=>match p with|s_0=>mg s_0⟩
theorem M1:dJ prog 29 MB:=fB mixed ie (dQ:=dQ) (np:=1) (an:=[]) (.cons Ml .nil) (by kernel_rfl) (by kernel_rfl)
def bi(s_0:Sl az):Int->Option (Int⊕(Int⊕Unit)):=fun i2=>
 bif decide (i2<(s_0.l.length:Int))then((nh i2 s_0.l.length).bind fun n3=>
 (mg (gt s_0.l n3)).bind fun r4=>
 bif r4 then(some (.inr (.inl i2)))else
 (some (.inl (wr .i64 (i2+1)))))else
 (some (.inr (.inr ())))
def ci(s_0:Sl az):Option Int:=
 (dP (bi s_0) 0).bind fun
 |.inl i5=>(some i5)
 |.inr _=>(some (-1))
def MA:mQ:=⟨[(false,.x (.sl y0)),(false,.fn 29 .ni)],[([.x (.i .i64)],[])],true,[],fun p=>match p with|s_0=>ci s_0⟩
theorem M0:dJ prog 38 MA:=fB mixed ie (dQ:=dQ) (np:=2) (an:=[(5,{j:=some {vs:=[(8,.x (.i .i64))]},e:=[(.ret,{vs:=[(4,.x (.i .i64))]}),(.exit 0,{})]})]) (.cons M1 .nil) (by kernel_rfl) (by kernel_rfl)
def bk(s_0:Sl az):Option Bool:=
 (ci s_0).bind fun r1=>
 some (decide (r1>=0))
def Mz:mQ:=⟨[(false,.x (.sl y0)),(false,.fn 29 .ni)],[([.x .b],[])],true,[],fun p=>match p with|s_0=>bk s_0⟩
theorem LH:dJ prog 28 Mz:=fB mixed ie (dQ:=dQ) (np:=2) (an:=[]) (.cons M0 .nil) (by kernel_rfl) (by kernel_rfl)
def Es(l:Sl az):Option ByteArray:=uN bk dH l
theorem MZ:dJ prog 15 (BF bk dH true):=Hc LH Mj
def iX(l_0:Sl aE):(ByteArray×Int)->Option ((ByteArray×Int)⊕(ByteArray⊕ByteArray)):=fun(s3,i4)=>
 bif decide (i4<(l_0.l.length:Int))then((nh i4 l_0.l.length).bind fun n5=>
 (jz (gt l_0.l n5)).bind fun r6=>
 bif(!r6)then(some (.inr (.inl (⟨#[]⟩:ByteArray))))else
 ((nh i4 l_0.l.length).bind fun n7=>
 (gw (gt l_0.l n7)).bind fun r8=>
 (lL s3 r8).bind fun s9=>
 (lL s9 (⟨#[10]⟩:ByteArray)).bind fun s10=>
 some (.inl (s10,wr .i64 (i4+1)))))else
 (some (.inr (.inr s3)))
def m8(l_0:Sl aE):Option ByteArray:=
 (dP (iX l_0) ((⟨#[]⟩:ByteArray),0)).bind fun
 |.inl s11=>(some s11)
 |.inr s12=>(some s12)
def My:mQ:=⟨[(false,.x (.sl y0))],[([.x .s],[])],true,[],fun p=>match p with|l_0=>m8 l_0⟩
theorem MY:dJ prog 17 My:=fB mixed ie (dQ:=dQ) (np:=1) (an:=[(7,{j:=some {vs:=[(3,.x .s),(4,.x (.i .i64))]},e:=[(.ret,{vs:=[(2,.x .s)]}),(.exit 0,{vs:=[(3,.x .s)]})]})]) (.cons HO (.cons J3 .nil)) (by kernel_rfl) (by kernel_rfl)
def iZ(a_0:Sl az)(r1:Sl az):Int->Option (Int⊕(Bool⊕Unit)):=fun i3=>
 bif decide (i3<(a_0.l.length:Int))then((nh i3 a_0.l.length).bind fun n4=>
 (nh i3 r1.l.length).bind fun n5=>
 bif(!(decide ((gt a_0.l n4)=(gt r1.l n5))))then(some (.inr (.inl false)))else
 (some (.inl (wr .i64 (i3+1)))))else
 (some (.inr (.inr ())))
def nf(a_0:Sl az)(b_1:Sl aE):Option Bool:=
 (lx b_1).bind fun r1=>
 bif((a_0.l.length:Int) !=(r1.l.length:Int))then(some false)else
 ((dP (iZ a_0 r1) 0).bind fun
 |.inl b6=>(some b6)
 |.inr _=>(some true))
def Mx:mQ:=⟨[(false,.x (.sl y0)),(false,.x (.sl y0))],[([.x .b],[])],true,[],fun p=>match p with|(a_0,b_1)=>nf a_0 b_1⟩
theorem MX:dJ prog 18 Mx:=fB mixed ie (dQ:=dQ) (np:=2) (an:=[(12,{j:=some {vs:=[(6,.x (.i .i64))]},e:=[(.ret,{vs:=[(4,.x .b)]}),(.exit 0,{})]})]) (.cons LI .nil) (by kernel_rfl) (by kernel_rfl)
def e9(l_0:Sl aE):Int->Option (Int⊕(Bool⊕Unit)):=fun i5=>
 bif decide (i5<(l_0.l.length:Int))then((nh i5 l_0.l.length).bind fun n6=>
 (ly (gt l_0.l n6)).bind fun r7=>
 ((jo r7).bind fun r8=>
 (nh i5 l_0.l.length).bind fun n9=>
 (jz (gt l_0.l n9)).bind fun r10=>
 bif(!(r8==r10))then(some true)else
 ((dH r7).bind fun r11=>
 (nh i5 l_0.l.length).bind fun n12=>
 (gw (gt l_0.l n12)).bind fun r13=>
 some (!(r11.toList==r13.toList))):Option Bool).bind fun b14=>
 bif b14 then(some (.inr (.inl false)))else
 (some (.inl (wr .i64 (i5+1)))))else
 (some (.inr (.inr ())))
def jS(l_0:Sl aE)(s_1:ByteArray)(kind_2:Int):Option Bool:=
 bif((decide ((l_0.l.length:Int)>60))||(decide ((s_1.size:Int)>1000)))then((kx).bind fun r1=>
 some r1)else
 ((gL kind_2).bind fun r2=>
 (iw kind_2).bind fun r3=>
 bif(!(r2.toList==r3.toList))then(some false)else
 ((dP (e9 l_0) 0).bind fun
 |.inl b15=>(some b15)
 |.inr _=>((jP s_1).bind fun(r16,r17,r18)=>
 (lU s_1).bind fun(r19,r20,r21)=>
 ((lx l_0).bind fun r22=>
 (Es r22).bind fun r23=>
 (m8 l_0).bind fun r24=>
 bif(r23.toList==r24.toList)then((nf r16 r19).bind fun r25=>
 bif((r25&&(r17==r20))&&(r18==r21))then((kx).bind fun r26=>
 some r26)else
 (some false))else
 (some false):Option Bool).bind fun b27=>
 some b27)))
def Mw:mQ:=⟨[(false,.x (.sl y0)),(false,.x .s),(false,.x (.i .i64))],[([.x .b],[])],true,[],fun p=>match p with|(l_0,s_1,kind_2)=>jS l_0 s_1 kind_2⟩
theorem MW:dJ prog 3 Mw:=fB mixed ie (dQ:=dQ) (np:=3) (an:=[(15,{j:=some {vs:=[(7,.x (.i .i64))]},e:=[(.ret,{vs:=[(6,.x .b)]}),(.exit 0,{})]}),(23,{j:=some {vs:=[(57,.x .b)]}}),(32,{j:=some {vs:=[(6,.x .b)]}})]) (.cons M6 (.cons Nx (.cons J6 (.cons LK (.cons Ml (.cons HO (.cons Mj (.cons J3 (.cons LL (.cons M2 (.cons LI (.cons LH (.cons MZ (.cons MY (.cons MX .nil))))))))))))))) (by kernel_rfl) (by kernel_rfl)
end Go.Proofs.YtbcmbckpebpijaaDoor.C
