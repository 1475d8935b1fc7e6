/- What functions of the program compute, and that the model's run computes it. Conditions: as stated. -/
import Derived.Test.YtingpmogbibghaaKo
import Derived.Test.YtingpmogbibghaaChecked
import Derived.KernelRfl
open Go.Ev Go
noncomputable section
namespace Go.Proofs.Ytingpmogbibghaa.M
abbrev prog:Program:=Try.prog
theorem iV:prog.follows .mixedOrders=true:=by kernel_rfl
theorem kx:Mi:=G2 fun _=>rfl
def QC:pT:=fun f=>if f=3 then(true,[])else if f=4 then(true,[])else if f=5 then(true,[])else if f=6 then(true,[])else if f=14 then(true,[])else if f=15 then(true,[])else if f=16 then(true,[])else if f=17 then(true,[])else if f=18 then(true,[])else if f=19 then(true,[])else if f=20 then(true,[])else if f=21 then(true,[])else if f=22 then(true,[])else if f=23 then(true,[])else if f=26 then(true,[])else if f=29 then(true,[])else if f=30 then(true,[])else if f=31 then(true,[])else if f=32 then(true,[])else if f=33 then(true,[])else if f=36 then(false,[true,false])else if f=37 then(false,[true,false])else if f=38 then(false,[true,false])else if f=39 then(false,[true,false])else if f=40 then(true,[])else if f=41 then(true,[])else if f=42 then(true,[])else if f=61 then(true,[])else if f=79 then(true,[])else if f=80 then(true,[])else if f=81 then(true,[])else if f=83 then(true,[])else if f=84 then(true,[])else if f=85 then(true,[])else if f=86 then(true,[])else if f=87 then(true,[true,false])else if f=89 then(true,[])else if f=90 then(true,[])else if f=91 then(true,[])else if f=126 then(true,[])else if f=127 then(true,[])else if f=128 then(true,[])else if f=129 then(true,[true,false,false])else if f=130 then(true,[])else if f=148 then(true,[])else if f=149 then(true,[true,false,false,false])else if f=150 then(true,[true,false,false,false,false])else if f=162 then(true,[true,false,false,false,false])else if f=163 then(true,[true,false,false,false,false])else if f=165 then(true,[true,false,false,false,false])else if f=176 then(true,[true,false,false,false,false])else(false,[])
theorem Jn:gg prog 78 (rb true):=yh (by kernel_rfl) (by kernel_rfl)
def kY(n_0:Int):Option Nat:=
 (lJ n_0).bind fun r1=>
 some r1
def JW:pE:=⟨[(false,.x (.i .u64))],[([.x (.f .f64)],[])],true,[],fun p=>match p with|n_0=>kY n_0⟩
theorem J1:gg prog 14 JW:=iF iV kx (QC:=QC) (np:=1) (an:=[]) (.cons Jn .nil) (by kernel_rfl) (by kernel_rfl)
def I9:pT:=fun f=>([16,17,20,29,33,40,42,79,80,81,87,89,90,91,126,127,129,130,148,149,150,162,176].contains f,(bv [(36,[true]),(38,[true]),(87,[true]),(129,[true]),(149,[true]),(150,[true]),(162,[true]),(176,[true])] f).getD [])
def mg:Option Bool:=some true
theorem oY:mg=some true:=rfl
def JU:pE:=⟨[],[([.x .b],[])],true,[],fun _=>some true⟩
theorem J0:gg prog 16 JU:=BT (QC:=I9) (ex:=Ju 82 78) (d:=200) iV (Ha (by kernel_rfl) (by kernel_rfl) (by kernel_rfl) (by kernel_rfl)) (by kernel_rfl)
def iw(x_0:Nat):Option Nat:=
 bif(!(wT .f64 x_0 x_0))then((lJ 9221120237041090561).bind fun r1=>
 some r1)else
 (some x_0)
def JS:pE:=⟨[(false,.x (.f .f64))],[([.x (.f .f64)],[])],true,[],fun p=>match p with|x_0=>iw x_0⟩
theorem JJ:gg prog 81 JS:=iF iV kx (QC:=QC) (np:=1) (an:=[]) (.cons Jn .nil) (by kernel_rfl) (by kernel_rfl)
theorem Jm:gg prog 82 (re true):=yi (by kernel_rfl) (by kernel_rfl)
def Mr(x_0:Nat):Option Int:=
 bif(!(wT .f64 x_0 x_0))then(some 9221120237041090561)else
 ((mN x_0).bind fun r1=>
 some r1)
def I8:pE:=⟨[(false,.x (.f .f64))],[([.x (.i .u64)],[])],true,[],fun p=>match p with|x_0=>Mr x_0⟩
theorem Jl:gg prog 19 I8:=iF iV kx (QC:=QC) (np:=1) (an:=[]) (.cons Jm .nil) (by kernel_rfl) (by kernel_rfl)
def eG(n_0:Int):Option Int:=
 bif decide ((n_0.tmod 9223372036854775808)>9218868437227405312)then(some 9221120237041090561)else
 (some n_0)
def I7:pE:=⟨[(false,.x (.i .u64))],[([.x (.i .u64)],[])],true,[],fun p=>match p with|n_0=>eG n_0⟩
theorem Ay:gg prog 22 I7:=iF iV kx (QC:=QC) (np:=1) (an:=[]) .nil (by kernel_rfl) (by kernel_rfl)
def I_:pT:=fun f=>(true,[])
def rp(n:Int):Int:=(eG n).getD 0
theorem pC(n:Int):eG n=some (rp n):=by unfold rp eG;generalize decide ((n.tmod 9223372036854775808)>9218868437227405312)=b;cases b<;>rfl
theorem yy(m:Nat)(h:nH .f64 m):rp (m:Int)=9221120237041090561:=by
 have h1:(9218868437227405312:Int)<(m:Int).tmod 9223372036854775808:=by have h2:=GY h;have h3:(m:Int).tmod 9223372036854775808=((m %9223372036854775808:Nat):Int):=rfl;omega
 unfold rp eG;rw[decide_eq_true h1];rfl
def jT(x:Nat):Option Int:=DD rp x
def I6:pE:=⟨[(false,.x (.f .f64))],[([.x (.i .u64)],[])],true,[],fun p=>match p with|x=>jT x⟩
theorem Il:gg prog 83 I6:=Fm (QC:=I_) iV (Hb (a:=82) (c:=22) (yj (by kernel_rfl) (by kernel_rfl)) (fun n=>Ay.2 n _ (pC n))) (fun m=>by kernel_rfl) yy
def gL(n_0:Int):Option Int:=
 (eG n_0).bind fun r1=>
 bif decide (r1>=9223372036854775808)then(some (wr .u64 (9223372036854775807-(r1.tmod 9223372036854775808))))else
 (some (wr .u64 (9223372036854775808+r1)))
def I2:pE:=⟨[(false,.x (.i .u64))],[([.x (.i .u64)],[])],true,[],fun p=>match p with|n_0=>gL n_0⟩
theorem Ji:gg prog 128 I2:=iF iV kx (QC:=QC) (np:=1) (an:=[]) (.cons Ay .nil) (by kernel_rfl) (by kernel_rfl)
def MD(l_0:Sl Int):(Int×Sl Nat)->Option ((Int×Sl Nat)⊕(Sl Nat)):=fun(i4,s5)=>
 bif decide (i4<(l_0.l.length:Int))then((rM i4 l_0.l.length).bind fun n6=>
 (kY (gt l_0.l n6)).bind fun r7=>
 (pO (s5.l++[r7])).bind fun l8=>
 some (.inl (wr .i64 (i4+1),(Sl.mk l8))))else
 (some (.inr s5))
def My(l_0:Sl Int):Option (Sl Nat):=
 (zu (MD l_0) (0,Sl.nil)).bind fun s9=>
 some s9
def P2:pE:=⟨[(false,.x (.sl (.i .u64)))],[([.x (.sl (.f .f64))],[])],false,[],fun p=>match p with|l_0=>My l_0⟩
theorem Qp:gg prog 25 P2:=iF iV kx (QC:=QC) (np:=1) (an:=[(7,{j:=some {vs:=[(3,.so 0),(4,.x (.i .i64))],os:=[.ar (.f .f64)]},e:=[(.exit 0,{vs:=[(3,.so 0)],os:=[.ar (.f .f64)]})]})]) (.cons J1 .nil) (by kernel_rfl) (by kernel_rfl)
def N6(x_0:Nat):Option Nat:=
 (mN x_0).bind fun r1=>
 (lJ (up .u64 r1 9223372036854775808)).bind fun r2=>
 some r2
def P1:pE:=⟨[(false,.x (.f .f64))],[([.x (.f .f64)],[])],true,[],fun p=>match p with|x_0=>N6 x_0⟩
theorem Qo:gg prog 148 P1:=iF iV kx (QC:=QC) (np:=1) (an:=[]) (.cons Jm (.cons Jn .nil)) (by kernel_rfl) (by kernel_rfl)
def Mo(f_0:Nat)(sign_1:Int):Option Bool:=
 (bif(sign_1==0)then((N6 f_0).bind fun r1=>
 some r1)else
 (bif decide (sign_1<0)then(some (Op.negFloat .f64 f_0))else
 (some f_0)):Option Nat).bind fun f2=>
 some (H5 .f64 f2 9218868437227405311)
def P0:pE:=⟨[(false,.x (.f .f64)),(false,.x (.i .i64))],[([.x .b],[])],true,[],fun p=>match p with|(f_0,sign_1)=>Mo f_0 sign_1⟩
theorem Qn:gg prog 126 P0:=iF iV kx (QC:=QC) (np:=2) (an:=[(2,{e:=[(.normal,{vs:=[(0,.x (.f .f64))]})]})]) (.cons Qo .nil) (by kernel_rfl) (by kernel_rfl)
def MV(x_0:Nat):Option Bool:=
 (mN x_0).bind fun r1=>
 some (decide ((wr .i64 r1)<0))
def PZ:pE:=⟨[(false,.x (.f .f64))],[([.x .b],[])],true,[],fun p=>match p with|x_0=>MV x_0⟩
theorem Qm:gg prog 127 PZ:=iF iV kx (QC:=QC) (np:=1) (an:=[]) (.cons Jm .nil) (by kernel_rfl) (by kernel_rfl)
def MO(x_0:Nat):Option Int:=
 bif(!(wT .f64 x_0 x_0))then(some 0)else
 ((Mo x_0 (-1)).bind fun r1=>
 bif r1 then(some 1)else
 ((Mo x_0 1).bind fun r2=>
 bif r2 then(some 6)else
 (bif H4 .f64 x_0 0 then(some 2)else
 (bif H5 .f64 x_0 0 then(some 5)else
 ((MV x_0).bind fun r3=>
 bif r3 then(some 3)else
 (some 4))))))
def PY:pE:=⟨[(false,.x (.f .f64))],[([.x (.i .i64)],[])],true,[],fun p=>match p with|x_0=>MO x_0⟩
theorem Ql:gg prog 79 PY:=iF iV kx (QC:=QC) (np:=1) (an:=[]) (.cons Qn (.cons Qm .nil)) (by kernel_rfl) (by kernel_rfl)
def Mq(x_0:Nat):Option Int:=
 (MO x_0).bind fun r1=>
 bif(r1==0)then(some 2)else
 (bif(r1==3)then(some (-1))else
 (some 0))
def PX:pE:=⟨[(false,.x (.f .f64))],[([.x (.i .i64)],[])],true,[],fun p=>match p with|x_0=>Mq x_0⟩
theorem Qk:gg prog 91 PX:=iF iV kx (QC:=QC) (np:=1) (an:=[]) (.cons Ql .nil) (by kernel_rfl) (by kernel_rfl)
def ME(x_0:Int):Option Bool:=some (x_0 !=x_0)
def PW:pE:=⟨[(false,.x (.i .i64))],[([.x .b],[])],true,[],fun p=>match p with|x_0=>ME x_0⟩
theorem Qj:gg prog 130 PW:=iF iV kx (QC:=QC) (np:=1) (an:=[]) .nil (by kernel_rfl) (by kernel_rfl)
def Mm(x_0:Int)(y_1:Int):Option Int:=
 (ME x_0).bind fun r1=>
 (ME y_1).bind fun r2=>
 bif r1 then(bif r2 then(some 0)else
 (some (-1)))else
 (bif r2 then(some 1)else
 (bif decide (x_0<y_1)then(some (-1))else
 (bif decide (x_0>y_1)then(some 1)else
 (some 0))))
def PV:pE:=⟨[(false,.x (.i .i64)),(false,.x (.i .i64))],[([.x (.i .i64)],[])],true,[],fun p=>match p with|(x_0,y_1)=>Mm x_0 y_1⟩
theorem Qi:gg prog 90 PV:=iF iV kx (QC:=QC) (np:=2) (an:=[]) (.cons Qj .nil) (by kernel_rfl) (by kernel_rfl)
def LD(a_0:Nat)(b_1:Nat):Option Int:=
 bif H4 .f64 a_0 b_1 then(some (-1))else
 (bif H5 .f64 a_0 b_1 then(some 1)else
 ((Mq a_0).bind fun r1=>
 (Mq b_1).bind fun r2=>
 (Mm r1 r2).bind fun r3=>
 some r3))
def PU:pE:=⟨[(false,.x (.f .f64)),(false,.x (.f .f64))],[([.x (.i .i64)],[])],true,[],fun p=>match p with|(a_0,b_1)=>LD a_0 b_1⟩
theorem Pm:gg prog 33 PU:=iF iV kx (QC:=QC) (np:=2) (an:=[]) (.cons Qk (.cons Qi .nil)) (by kernel_rfl) (by kernel_rfl)
def LV(a_1:Int):(Int×Sl Nat)->Option ((Int×Sl Nat)⊕(Sl Nat)):=fun(i9,s10)=>
 (bif decide (i9>a_1)then((rM i9 s10.l.length).bind fun n11=>
 (rM (wr .i64 (i9-1)) s10.l.length).bind fun n12=>
 (LD (gt s10.l n11) (gt s10.l n12)).bind fun r13=>
 some (decide (r13<0)))else
 (some false):Option Bool).bind fun b14=>
 bif b14 then((rM (wr .i64 (i9-1)) s10.l.length).bind fun n15=>
 (rM i9 s10.l.length).bind fun n16=>
 (rM i9 s10.l.length).bind fun n17=>
 (rM (wr .i64 (i9-1)) (s10.l.set n17 (gt s10.l n15)).length).bind fun n18=>
 some (.inl (wr .i64 (i9-1),(Sl.mk ((s10.l.set n17 (gt s10.l n15)).set n18 (gt s10.l n16))))))else
 (some (.inr s10))
def LU(a_1:Int)(b_2:Int):(Int×Sl Nat)->Option ((Int×Sl Nat)⊕(Sl Nat)):=fun(i4,s5)=>
 bif decide (i4<b_2)then((zu (LV a_1) (i4,s5)).bind fun s19=>
 some (.inl (wr .i64 (i4+1),s19)))else
 (some (.inr s5))
def LF(data_0:Sl Nat)(a_1:Int)(b_2:Int):Option (Sl Nat):=
 (zu (LU a_1 b_2) (wr .i64 (a_1+1),data_0)).bind fun s20=>
 some s20
def PT:pE:=⟨[(true,.os (.f .f64)),(false,.x (.i .i64)),(false,.x (.i .i64)),(false,.fn 33 .ni)],[([],[.os (.f .f64)])],true,[true,false,false,false],fun p=>match p with|(data_0,a_1,b_2)=>LF data_0 a_1 b_2⟩
theorem Qh:gg prog 149 PT:=iF iV kx (QC:=QC) (np:=4) (an:=[(2,{j:=some {vs:=[(0,.so 0),(8,.x (.i .i64))],gs:=(.co (.so 0) .ni),os:=[.ar (.f .f64)],kl:=[0]},e:=[(.exit 0,{gs:=(.co (.so 0) .ni),os:=[.ar (.f .f64)],kl:=[0]})]}),(9,{j:=some {vs:=[(0,.so 0),(9,.x (.i .i64))],gs:=(.co (.so 0) .ni),os:=[.ar (.f .f64)],kl:=[1]},e:=[(.exit 2,{vs:=[(0,.so 0)],gs:=(.co (.so 0) .ni),os:=[.ar (.f .f64)],kl:=[1]})]}),(12,{j:=some {vs:=[(34,.x .b)]}})]) (.cons Pm .nil) (by kernel_rfl) (by kernel_rfl)
def LY(a_1:Int)(b_2:Int)(n_3:Int):(Int×Sl Nat)->Option ((Int×Sl Nat)⊕(Sl Nat)):=fun(i4,s5)=>
 bif decide (i4<n_3)then((rM (wr .i64 (b_2+i4)) s5.l.length).bind fun n6=>
 (rM (wr .i64 (a_1+i4)) s5.l.length).bind fun n7=>
 (rM (wr .i64 (a_1+i4)) s5.l.length).bind fun n8=>
 (rM (wr .i64 (b_2+i4)) (s5.l.set n8 (gt s5.l n6)).length).bind fun n9=>
 some (.inl (wr .i64 (i4+1),(Sl.mk ((s5.l.set n8 (gt s5.l n6)).set n9 (gt s5.l n7))))))else
 (some (.inr s5))
def LB(data_0:Sl Nat)(a_1:Int)(b_2:Int)(n_3:Int):Option (Sl Nat):=
 (zu (LY a_1 b_2 n_3) (0,data_0)).bind fun s10=>
 some s10
def PS:pE:=⟨[(true,.os (.f .f64)),(false,.x (.i .i64)),(false,.x (.i .i64)),(false,.x (.i .i64)),(false,.fn 33 .ni)],[([],[.os (.f .f64)])],true,[true,false,false,false,false],fun p=>match p with|(data_0,a_1,b_2,n_3)=>LB data_0 a_1 b_2 n_3⟩
theorem Qg:gg prog 176 PS:=iF iV kx (QC:=QC) (np:=5) (an:=[(2,{j:=some {vs:=[(0,.so 0),(10,.x (.i .i64))],gs:=(.co (.so 0) .ni),os:=[.ar (.f .f64)],kl:=[0]},e:=[(.exit 0,{gs:=(.co (.so 0) .ni),os:=[.ar (.f .f64)],kl:=[0]})]})]) .nil (by kernel_rfl) (by kernel_rfl)
def L6(m_2:Int):(Int×Int×Sl Nat)->Option ((Int×Int×Sl Nat)⊕(Int×Sl Nat)):=fun(i6,i7,s8)=>
 bif(i6 !=i7)then(bif decide (i6>i7)then((LB s8 (wr .i64 (m_2-i6)) m_2 i7).bind fun s9=>
 (AK s9 s8).bind fun _=>
 some (.inl (wr .i64 (i6-i7),i7,s9)))else
 ((LB s8 (wr .i64 (m_2-i6)) (wr .i64 ((wr .i64 (m_2+i7))-i6)) i6).bind fun s10=>
 (AK s10 s8).bind fun _=>
 some (.inl (i6,wr .i64 (i7-i6),s10))))else
 (some (.inr (i6,s8)))
def LM(data_0:Sl Nat)(a_1:Int)(m_2:Int)(b_3:Int):Option (Sl Nat):=
 (zu (L6 m_2) (wr .i64 (m_2-a_1),wr .i64 (b_3-m_2),data_0)).bind fun(i11,s12)=>
 (LB s12 (wr .i64 (m_2-i11)) m_2 i11).bind fun s13=>
 (AK s13 s12).bind fun _=>
 some s13
def PR:pE:=⟨[(true,.os (.f .f64)),(false,.x (.i .i64)),(false,.x (.i .i64)),(false,.x (.i .i64)),(false,.fn 33 .ni)],[([],[.os (.f .f64)])],true,[true,false,false,false,false],fun p=>match p with|(data_0,a_1,m_2,b_3)=>LM data_0 a_1 m_2 b_3⟩
theorem Qf:gg prog 162 PR:=iF iV kx (QC:=QC) (np:=5) (an:=[(5,{j:=some {vs:=[(0,.so 0),(10,.x (.i .i64)),(11,.x (.i .i64))],gs:=(.co (.so 0) .ni),os:=[.ar (.f .f64)],kl:=[0]},e:=[(.exit 0,{vs:=[(0,.so 0),(10,.x (.i .i64))],gs:=(.co (.so 0) .ni),os:=[.ar (.f .f64)],kl:=[0]})]})]) (.cons Qg .nil) (by kernel_rfl) (by kernel_rfl)
def L4(data_0:Sl Nat)(a_1:Int):(Int×Int)->Option ((Int×Int)⊕Int):=fun(i3,i4)=>
 bif decide (i3<i4)then((rM (wr .i64 (HF .u64 (wr .u64 (wr .i64 (i3+i4))) 1)) data_0.l.length).bind fun n5=>
 (rM a_1 data_0.l.length).bind fun n6=>
 (LD (gt data_0.l n5) (gt data_0.l n6)).bind fun r7=>
 bif decide (r7<0)then(some (.inl (wr .i64 ((wr .i64 (HF .u64 (wr .u64 (wr .i64 (i3+i4))) 1))+1),i4)))else
 (some (.inl (i3,wr .i64 (HF .u64 (wr .u64 (wr .i64 (i3+i4))) 1)))))else
 (some (.inr i3))
def L3(i8:Int):(Int×Sl Nat)->Option ((Int×Sl Nat)⊕(Sl Nat)):=fun(i12,s13)=>
 bif decide (i12<(wr .i64 (i8-1)))then((rM (wr .i64 (i12+1)) s13.l.length).bind fun n14=>
 (rM i12 s13.l.length).bind fun n15=>
 (rM i12 s13.l.length).bind fun n16=>
 (rM (wr .i64 (i12+1)) (s13.l.set n16 (gt s13.l n14)).length).bind fun n17=>
 some (.inl (wr .i64 (i12+1),(Sl.mk ((s13.l.set n16 (gt s13.l n14)).set n17 (gt s13.l n15))))))else
 (some (.inr s13))
def L2(data_0:Sl Nat)(m_2:Int):(Int×Int)->Option ((Int×Int)⊕Int):=fun(i21,i22)=>
 bif decide (i21<i22)then((rM m_2 data_0.l.length).bind fun n23=>
 (rM (wr .i64 (HF .u64 (wr .u64 (wr .i64 (i21+i22))) 1)) data_0.l.length).bind fun n24=>
 (LD (gt data_0.l n23) (gt data_0.l n24)).bind fun r25=>
 bif(!(decide (r25<0)))then(some (.inl (wr .i64 ((wr .i64 (HF .u64 (wr .u64 (wr .i64 (i21+i22))) 1))+1),i22)))else
 (some (.inl (i21,wr .i64 (HF .u64 (wr .u64 (wr .i64 (i21+i22))) 1)))))else
 (some (.inr i21))
def L1(i26:Int):(Int×Sl Nat)->Option ((Int×Sl Nat)⊕(Sl Nat)):=fun(i30,s31)=>
 bif decide (i30>i26)then((rM (wr .i64 (i30-1)) s31.l.length).bind fun n32=>
 (rM i30 s31.l.length).bind fun n33=>
 (rM i30 s31.l.length).bind fun n34=>
 (rM (wr .i64 (i30-1)) (s31.l.set n34 (gt s31.l n32)).length).bind fun n35=>
 some (.inl (wr .i64 (i30-1),(Sl.mk ((s31.l.set n34 (gt s31.l n32)).set n35 (gt s31.l n33))))))else
 (some (.inr s31))
def L0(data_0:Sl Nat)(a_1:Int)(m_2:Int)(b_3:Int):(Int×Int)->Option ((Int×Int)⊕Int):=fun(i41,i42)=>
 bif decide (i41<i42)then((rM (wr .i64 ((wr .i64 ((wr .i64 ((wr .i64 (HF .u64 (wr .u64 (wr .i64 (a_1+b_3))) 1))+m_2))-1))-(wr .i64 (HF .u64 (wr .u64 (wr .i64 (i41+i42))) 1)))) data_0.l.length).bind fun n43=>
 (rM (wr .i64 (HF .u64 (wr .u64 (wr .i64 (i41+i42))) 1)) data_0.l.length).bind fun n44=>
 (LD (gt data_0.l n43) (gt data_0.l n44)).bind fun r45=>
 bif(!(decide (r45<0)))then(some (.inl (wr .i64 ((wr .i64 (HF .u64 (wr .u64 (wr .i64 (i41+i42))) 1))+1),i42)))else
 (some (.inl (i41,wr .i64 (HF .u64 (wr .u64 (wr .i64 (i41+i42))) 1)))))else
 (some (.inr i41))
def LG(rc:Sl Nat->Int->Int->Int->Option (Sl Nat))(data_0:Sl Nat)(a_1:Int)(m_2:Int)(b_3:Int):Option (Sl Nat):=
 bif((wr .i64 (m_2-a_1))==1)then((zu (L4 data_0 a_1) (m_2,b_3)).bind fun i8=>
 (zu (L3 i8) (a_1,data_0)).bind fun s18=>
 some s18)else
 (bif((wr .i64 (b_3-m_2))==1)then((zu (L2 data_0 m_2) (a_1,m_2)).bind fun i26=>
 (zu (L1 i26) (m_2,data_0)).bind fun s36=>
 some s36)else
 ((bif decide (m_2>(wr .i64 (HF .u64 (wr .u64 (wr .i64 (a_1+b_3))) 1)))then(some (wr .i64 ((wr .i64 ((wr .i64 (HF .u64 (wr .u64 (wr .i64 (a_1+b_3))) 1))+m_2))-b_3),wr .i64 (HF .u64 (wr .u64 (wr .i64 (a_1+b_3))) 1)))else
 (some (a_1,m_2)):Option (Int×Int)).bind fun(i37,i38)=>
 (zu (L0 data_0 a_1 m_2 b_3) (i37,i38)).bind fun i46=>
 (bif((decide (i46<m_2))&&(decide (m_2<(wr .i64 ((wr .i64 ((wr .i64 (HF .u64 (wr .u64 (wr .i64 (a_1+b_3))) 1))+m_2))-i46)))))then((LM data_0 i46 m_2 (wr .i64 ((wr .i64 ((wr .i64 (HF .u64 (wr .u64 (wr .i64 (a_1+b_3))) 1))+m_2))-i46))).bind fun s47=>
 (AK s47 data_0).bind fun _=>
 some s47)else
 (some data_0):Option (Sl Nat)).bind fun s48=>
 (bif((decide (a_1<i46))&&(decide (i46<(wr .i64 (HF .u64 (wr .u64 (wr .i64 (a_1+b_3))) 1)))))then((rc s48 a_1 i46 (wr .i64 (HF .u64 (wr .u64 (wr .i64 (a_1+b_3))) 1))).bind fun s49=>
 (AK s49 s48).bind fun _=>
 some s49)else
 (some s48):Option (Sl Nat)).bind fun s50=>
 bif((decide ((wr .i64 (HF .u64 (wr .u64 (wr .i64 (a_1+b_3))) 1))<(wr .i64 ((wr .i64 ((wr .i64 (HF .u64 (wr .u64 (wr .i64 (a_1+b_3))) 1))+m_2))-i46))))&&(decide ((wr .i64 ((wr .i64 ((wr .i64 (HF .u64 (wr .u64 (wr .i64 (a_1+b_3))) 1))+m_2))-i46))<b_3)))then((rc s50 (wr .i64 (HF .u64 (wr .u64 (wr .i64 (a_1+b_3))) 1)) (wr .i64 ((wr .i64 ((wr .i64 (HF .u64 (wr .u64 (wr .i64 (a_1+b_3))) 1))+m_2))-i46)) b_3).bind fun s51=>
 (AK s51 s50).bind fun _=>
 some s51)else
 (some s50)))
def er:Nat->Sl Nat->Int->Int->Int->Option (Sl Nat)
 |0=>fun _ _ _ _=>none
 |n+1=>LG (er n)
def On(rc:Sl Nat->Int->Int->Int->Option (Sl Nat)):pE:=⟨[(true,.os (.f .f64)),(false,.x (.i .i64)),(false,.x (.i .i64)),(false,.x (.i .i64)),(false,.fn 33 .ni)],[([],[.os (.f .f64)])],true,[true,false,false,false,false],fun p=>match p with|(data_0,a_1,m_2,b_3)=>rc data_0 a_1 m_2 b_3⟩
theorem Pv(rc:Sl Nat->Int->Int->Int->Option (Sl Nat))(h:gg prog 150 (On rc)):gg prog 150 (On (LG rc)):=iF iV kx (QC:=QC) (np:=5) (an:=[(8,{j:=some {vs:=[(10,.x (.i .i64)),(11,.x (.i .i64))]},e:=[(.exit 0,{vs:=[(10,.x (.i .i64))]})]}),(21,{j:=some {vs:=[(0,.so 0),(13,.x (.i .i64))],gs:=(.co (.so 0) .ni),os:=[.ar (.f .f64)],kl:=[0]},e:=[(.exit 2,{gs:=(.co (.so 0) .ni),os:=[.ar (.f .f64)],kl:=[0]})]}),(36,{j:=some {vs:=[(14,.x (.i .i64)),(15,.x (.i .i64))]},e:=[(.exit 4,{vs:=[(14,.x (.i .i64))]})]}),(49,{j:=some {vs:=[(0,.so 0),(17,.x (.i .i64))],gs:=(.co (.so 0) .ni),os:=[.ar (.f .f64)],kl:=[0]},e:=[(.exit 6,{gs:=(.co (.so 0) .ni),os:=[.ar (.f .f64)],kl:=[0]})]}),(62,{e:=[(.normal,{vs:=[(20,.x (.i .i64)),(21,.x (.i .i64))]})]}),(74,{j:=some {vs:=[(20,.x (.i .i64)),(21,.x (.i .i64))]},e:=[(.exit 8,{vs:=[(20,.x (.i .i64))]})]}),(86,{e:=[(.normal,{vs:=[(0,.so 0)],gs:=(.co (.so 0) .ni),os:=[.ar (.f .f64)],kl:=[0]})]}),(90,{e:=[(.normal,{vs:=[(0,.so 0)],gs:=(.co (.so 0) .ni),os:=[.ar (.f .f64)],kl:=[1]})]})]) (.cons Pm (.cons Qf (.cons h .nil))) (by kernel_rfl) (by kernel_rfl)
theorem Pf:∀n,gg prog 150 (On (er n))
 |0=>⟨rfl,fun p r h=>by cases h⟩
 |n+1=>Pv _ (Pf n)
def PQ:pE:=On (er 8)
theorem Qe:gg prog 150 PQ:=Pf 8
def L5(n_1:Int):(Int×Int×Sl Nat)->Option ((Int×Int×Sl Nat)⊕(Int×Sl Nat)):=fun(i6,i7,s8)=>
 bif decide (i7<=n_1)then((LF s8 i6 i7).bind fun s9=>
 (AK s9 s8).bind fun _=>
 some (.inl (i7,wr .i64 (i7+20),s9)))else
 (some (.inr (i6,s8)))
def LC(n_1:Int)(i16:Int):(Int×Int×Sl Nat)->Option ((Int×Int×Sl Nat)⊕(Int×Sl Nat)):=fun(i23,i24,s25)=>
 bif decide (i24<=n_1)then((er 8 s25 i23 (wr .i64 (i23+i16)) i24).bind fun s26=>
 (AK s26 s25).bind fun _=>
 some (.inl (i24,wr .i64 (i24+(wr .i64 (2*i16))),s26)))else
 (some (.inr (i23,s25)))
def LH(n_1:Int):(Int×Sl Nat)->Option ((Int×Sl Nat)⊕(Sl Nat)):=fun(i16,s17)=>
 bif decide (i16<n_1)then((zu (LC n_1 i16) (0,wr .i64 (2*i16),s17)).bind fun(i27,s28)=>
 (bif decide ((wr .i64 (i27+i16))<n_1)then((er 8 s28 i27 (wr .i64 (i27+i16)) n_1).bind fun s29=>
 (AK s29 s28).bind fun _=>
 some s29)else
 (some s28):Option (Sl Nat)).bind fun s30=>
 some (.inl (wr .i64 (i16*2),s30)))else
 (some (.inr s17))
def LI(data_0:Sl Nat)(n_1:Int):Option (Sl Nat):=
 (zu (L5 n_1) (0,20,data_0)).bind fun(i10,s11)=>
 (LF s11 i10 n_1).bind fun s12=>
 (AK s12 s11).bind fun _=>
 (zu (LH n_1) (20,s12)).bind fun s31=>
 some s31
def PP:pE:=⟨[(true,.os (.f .f64)),(false,.x (.i .i64)),(false,.fn 33 .ni)],[([],[.os (.f .f64)])],true,[true,false,false],fun p=>match p with|(data_0,n_1)=>LI data_0 n_1⟩
theorem Qd:gg prog 129 PP:=iF iV kx (QC:=QC) (np:=3) (an:=[(5,{j:=some {vs:=[(0,.so 0),(7,.x (.i .i64)),(8,.x (.i .i64))],gs:=(.co (.so 0) .ni),os:=[.ar (.f .f64)],kl:=[0]},e:=[(.exit 0,{vs:=[(0,.so 0),(7,.x (.i .i64))],gs:=(.co (.so 0) .ni),os:=[.ar (.f .f64)],kl:=[0]})]}),(16,{j:=some {vs:=[(0,.so 0),(6,.x (.i .i64))],gs:=(.co (.so 0) .ni),os:=[.ar (.f .f64)],kl:=[1]},e:=[(.exit 2,{gs:=(.co (.so 0) .ni),os:=[.ar (.f .f64)],kl:=[1]})]}),(23,{j:=some {vs:=[(0,.so 0),(7,.x (.i .i64)),(8,.x (.i .i64))],gs:=(.co (.so 0) .ni),os:=[.ar (.f .f64)],kl:=[2]},e:=[(.exit 4,{vs:=[(0,.so 0),(7,.x (.i .i64))],gs:=(.co (.so 0) .ni),os:=[.ar (.f .f64)],kl:=[2]})]}),(32,{e:=[(.normal,{vs:=[(0,.so 0)],gs:=(.co (.so 0) .ni),os:=[.ar (.f .f64)],kl:=[3]})]})]) (.cons Qh (.cons Qe .nil)) (by kernel_rfl) (by kernel_rfl)
def Lz(x_0:Sl Nat):Option (Sl Nat):=
 (LI x_0 (x_0.l.length:Int)).bind fun s1=>
 (AK s1 x_0).bind fun _=>
 some s1
def PO:pE:=⟨[(true,.os (.f .f64)),(false,.fn 33 .ni)],[([],[.os (.f .f64)])],true,[true,false],fun p=>match p with|x_0=>Lz x_0⟩
theorem Qc:gg prog 87 PO:=iF iV kx (QC:=QC) (np:=2) (an:=[]) (.cons Qd .nil) (by kernel_rfl) (by kernel_rfl)
def MC(l_0:Sl Nat):(Int×Sl Nat)->Option ((Int×Sl Nat)⊕(Sl Nat)):=fun(i4,s5)=>
 bif decide (i4<(l_0.l.length:Int))then((rM i4 l_0.l.length).bind fun n6=>
 (iw (gt l_0.l n6)).bind fun r7=>
 (pO (s5.l++[r7])).bind fun l8=>
 some (.inl (wr .i64 (i4+1),(Sl.mk l8))))else
 (some (.inr s5))
def Mn(l_0:Sl Nat):Option (Sl Nat):=
 (zu (MC l_0) (0,Sl.nil)).bind fun s9=>
 (Lz s9).bind fun s10=>
 (AK s10 s9).bind fun _=>
 some s10
def PN:pE:=⟨[(false,.x (.sl (.f .f64)))],[([.x (.sl (.f .f64))],[])],false,[],fun p=>match p with|l_0=>Mn l_0⟩
theorem Pk:gg prog 24 PN:=iF iV kx (QC:=QC) (np:=1) (an:=[(7,{j:=some {vs:=[(3,.so 0),(8,.x (.i .i64))],os:=[.ar (.f .f64)]},e:=[(.exit 0,{vs:=[(3,.so 0)],os:=[.ar (.f .f64)]})]})]) (.cons JJ (.cons Qc .nil)) (by kernel_rfl) (by kernel_rfl)
def Ml(l_0:Sl Nat):(Int×Sl Int)->Option ((Int×Sl Int)⊕(Sl Int)):=fun(i4,s5)=>
 bif decide (i4<(l_0.l.length:Int))then((rM i4 l_0.l.length).bind fun n6=>
 (Mr (gt l_0.l n6)).bind fun r7=>
 (pO (s5.l++[r7])).bind fun l8=>
 some (.inl (wr .i64 (i4+1),(Sl.mk l8))))else
 (some (.inr s5))
def MJ(l_0:Sl Nat):Option (Sl Int):=
 (zu (Ml l_0) (0,Sl.nil)).bind fun s9=>
 some s9
def PM:pE:=⟨[(false,.x (.sl (.f .f64)))],[([.x (.sl (.i .u64))],[])],false,[],fun p=>match p with|l_0=>MJ l_0⟩
theorem Qb:gg prog 27 PM:=iF iV kx (QC:=QC) (np:=1) (an:=[(7,{j:=some {vs:=[(3,.so 0),(4,.x (.i .i64))],os:=[.ar (.i .u64)]},e:=[(.exit 0,{vs:=[(3,.so 0)],os:=[.ar (.i .u64)]})]})]) (.cons Jl .nil) (by kernel_rfl) (by kernel_rfl)
def LW(l_0:Sl Int)(n_1:Int):(Bool×Int×Sl Int)->Option ((Bool×Int×Sl Int)⊕(Bool×Sl Int)):=fun(b6,i7,s8)=>
 bif decide (i7<(l_0.l.length:Int))then(((bif(!b6)then((gL n_1).bind fun r9=>
 (rM i7 l_0.l.length).bind fun n10=>
 (gL (gt l_0.l n10)).bind fun r11=>
 some (decide (r9<r11)))else
 (some false):Option Bool).bind fun b12=>
 bif b12 then((pO (s8.l++[n_1])).bind fun l13=>
 some (true,(Sl.mk l13)))else
 (some (b6,s8)):Option (Bool×Sl Int)).bind fun(b14,s15)=>
 (rM i7 l_0.l.length).bind fun n16=>
 (pO (s15.l++[gt l_0.l n16])).bind fun l17=>
 some (.inl (b14,wr .i64 (i7+1),(Sl.mk l17))))else
 (some (.inr (b6,s8)))
def M4(l_0:Sl Int)(n_1:Int):Option (Sl Int):=
 (zu (LW l_0 n_1) (false,0,Sl.nil)).bind fun(b18,s19)=>
 (bif(!b18)then((pO (s19.l++[n_1])).bind fun l20=>
 some (Sl.mk l20))else
 (some s19):Option (Sl Int)).bind fun s21=>
 some s21
def PL:pE:=⟨[(false,.x (.sl (.i .u64))),(false,.x (.i .u64))],[([.x (.sl (.i .u64))],[])],false,[],fun p=>match p with|(l_0,n_1)=>M4 l_0 n_1⟩
theorem Qa:gg prog 88 PL:=iF iV kx (QC:=QC) (np:=2) (an:=[(9,{j:=some {vs:=[(5,.so 0),(6,.x .b),(7,.x (.i .i64))],os:=[.ar (.i .u64)]},e:=[(.exit 0,{vs:=[(5,.so 0),(6,.x .b)],os:=[.ar (.i .u64)]})]}),(14,{e:=[(.normal,{vs:=[(5,.so 0),(6,.x .b)],os:=[.ar (.i .u64)],kl:=[0]})]}),(16,{j:=some {vs:=[(25,.x .b)]}}),(22,{e:=[(.normal,{vs:=[(5,.so 0)],os:=[.ar (.i .u64)],kl:=[0]})]})]) (.cons Ji .nil) (by kernel_rfl) (by kernel_rfl)
def Me(l_0:Sl Int):(Sl Int×Int)->Option ((Sl Int×Int)⊕(Sl Int)):=fun(s4,i5)=>
 bif decide (i5<(l_0.l.length:Int))then((rM i5 l_0.l.length).bind fun n6=>
 (eG (gt l_0.l n6)).bind fun r7=>
 (M4 s4 r7).bind fun r8=>
 some (.inl (r8,wr .i64 (i5+1))))else
 (some (.inr s4))
def Mw(l_0:Sl Int):Option (Sl Int):=
 (zu (Me l_0) (Sl.nil,0)).bind fun s9=>
 some s9
def PK:pE:=⟨[(false,.x (.sl (.i .u64)))],[([.x (.sl (.i .u64))],[])],false,[],fun p=>match p with|l_0=>Mw l_0⟩
theorem Pj:gg prog 28 PK:=iF iV kx (QC:=QC) (np:=1) (an:=[(7,{j:=some {vs:=[(3,.x (.sl (.i .u64))),(4,.x (.i .i64))]},e:=[(.exit 0,{vs:=[(3,.x (.sl (.i .u64)))]})]})]) (.cons Ay (.cons Qa .nil)) (by kernel_rfl) (by kernel_rfl)
def Mf(a_0:Sl Int)(b_1:Sl Int):Int->Option (Int⊕(Bool⊕Unit)):=fun i2=>
 bif decide (i2<(a_0.l.length:Int))then((rM i2 a_0.l.length).bind fun n3=>
 (rM i2 b_1.l.length).bind fun n4=>
 bif((gt a_0.l n3) !=(gt b_1.l n4))then(some (.inr (.inl false)))else
 (some (.inl (wr .i64 (i2+1)))))else
 (some (.inr (.inr ())))
def M9(a_0:Sl Int)(b_1:Sl Int):Option Bool:=
 bif((a_0.l.length:Int) !=(b_1.l.length:Int))then(some false)else
 ((zu (Mf a_0 b_1) 0).bind fun
 |.inl b5=>(some b5)
 |.inr _=>(some true))
def PJ:pE:=⟨[(false,.x (.sl (.i .u64))),(false,.x (.sl (.i .u64)))],[([.x .b],[])],true,[],fun p=>match p with|(a_0,b_1)=>M9 a_0 b_1⟩
theorem P_:gg prog 61 PJ:=iF iV kx (QC:=QC) (np:=2) (an:=[(10,{j:=some {vs:=[(5,.x (.i .i64))]},e:=[(.ret,{vs:=[(4,.x .b)]}),(.exit 0,{})]})]) .nil (by kernel_rfl) (by kernel_rfl)
def MS(a_0:Sl Int)(b_1:Sl Int):Option Bool:=
 (M9 a_0 b_1).bind fun r1=>
 some r1
def PI:pE:=⟨[(false,.x (.sl (.i .u64))),(false,.x (.sl (.i .u64)))],[([.x .b],[])],true,[],fun p=>match p with|(a_0,b_1)=>MS a_0 b_1⟩
theorem P9:gg prog 26 PI:=iF iV kx (QC:=QC) (np:=2) (an:=[]) (.cons P_ .nil) (by kernel_rfl) (by kernel_rfl)
def N9(n_0:Int):Option Nat:=
 (lJ n_0).bind fun r1=>
 (iw r1).bind fun r2=>
 some r2
def PH:pE:=⟨[(false,.x (.i .u64))],[([.x (.f .f64)],[])],true,[],fun p=>match p with|n_0=>N9 n_0⟩
theorem P8:gg prog 89 PH:=iF iV kx (QC:=QC) (np:=1) (an:=[]) (.cons Jn (.cons JJ .nil)) (by kernel_rfl) (by kernel_rfl)
def MI(l_0:Sl Nat):Option Nat:=
 bif((l_0.l.length:Int)==0)then((N9 9221120237041090561).bind fun r1=>
 some r1)else
 ((Mn l_0).bind fun r2=>
 (rM (wr .i64 ((wr .i64 ((l_0.l.length:Int)-1)).tdiv 2)) r2.l.length).bind fun n3=>
 some (gt r2.l n3))
def PG:pE:=⟨[(false,.x (.sl (.f .f64)))],[([.x (.f .f64)],[])],true,[],fun p=>match p with|l_0=>MI l_0⟩
theorem P7:gg prog 29 PG:=iF iV kx (QC:=QC) (np:=1) (an:=[]) (.cons P8 (.cons Pk .nil)) (by kernel_rfl) (by kernel_rfl)
def MG(l_0:Sl Int):Option Int:=
 bif((l_0.l.length:Int)==0)then(some 9221120237041090561)else
 ((Mw l_0).bind fun r1=>
 (rM (wr .i64 ((wr .i64 ((l_0.l.length:Int)-1)).tdiv 2)) r1.l.length).bind fun n2=>
 some (gt r1.l n2))
def PF:pE:=⟨[(false,.x (.sl (.i .u64)))],[([.x (.i .u64)],[])],true,[],fun p=>match p with|l_0=>MG l_0⟩
theorem P6:gg prog 30 PF:=iF iV kx (QC:=QC) (np:=1) (an:=[]) (.cons Pj .nil) (by kernel_rfl) (by kernel_rfl)
def MH(l_0:Sl Nat):Option Nat:=
 bif((l_0.l.length:Int)==0)then(some 0)else
 ((Mn l_0).bind fun r1=>
 (rM (wr .i64 ((r1.l.length:Int)-1)) r1.l.length).bind fun n2=>
 (rM 0 r1.l.length).bind fun n3=>
 (iw (E3 .f64 (gt r1.l n2) (gt r1.l n3))).bind fun r4=>
 some r4)
def PE:pE:=⟨[(false,.x (.sl (.f .f64)))],[([.x (.f .f64)],[])],true,[],fun p=>match p with|l_0=>MH l_0⟩
theorem P5:gg prog 31 PE:=iF iV kx (QC:=QC) (np:=1) (an:=[]) (.cons Pk (.cons JJ .nil)) (by kernel_rfl) (by kernel_rfl)
def MF(l_0:Sl Int):Option Int:=
 bif((l_0.l.length:Int)==0)then(some 0)else
 ((Mw l_0).bind fun r1=>
 (rM (wr .i64 ((r1.l.length:Int)-1)) r1.l.length).bind fun n2=>
 (lJ (gt r1.l n2)).bind fun r3=>
 (rM 0 r1.l.length).bind fun n4=>
 (lJ (gt r1.l n4)).bind fun r5=>
 (jT (E3 .f64 r3 r5)).bind fun r6=>
 some r6)
def PD:pE:=⟨[(false,.x (.sl (.i .u64)))],[([.x (.i .u64)],[])],true,[],fun p=>match p with|l_0=>MF l_0⟩
theorem P4:gg prog 32 PD:=iF iV kx (QC:=QC) (np:=1) (an:=[]) (.cons Pj (.cons Jn (.cons Il .nil))) (by kernel_rfl) (by kernel_rfl)
def LQ(l_0:Sl Int)(n_1:Int)(r3:Sl Nat):(Int×Int×Int)->Option ((Int×Int×Int)⊕(Bool⊕(Int×Int))):=fun(i19,i20,i21)=>
 bif decide (i21<(l_0.l.length:Int))then(((bif decide (i21>0)then((rM (wr .i64 (i21-1)) r3.l.length).bind fun n22=>
 (rM i21 r3.l.length).bind fun n23=>
 (LD (gt r3.l n22) (gt r3.l n23)).bind fun r24=>
 some (decide (r24>0)))else
 (some false):Option Bool).bind fun b25=>
 bif b25 then(some (.inr false))else
 (((rM i21 l_0.l.length).bind fun n26=>
 (eG (gt l_0.l n26)).bind fun r27=>
 (eG n_1).bind fun r28=>
 bif(r27==r28)then(some (wr .i64 (i19+1)))else
 (some i19):Option Int).bind fun i29=>
 (rM i21 r3.l.length).bind fun n30=>
 (Mr (gt r3.l n30)).bind fun r31=>
 (eG n_1).bind fun r32=>
 bif(r31==r32)then(some (.inl (i29,wr .i64 (i20+1))))else
 (some (.inl (i29,i20)))):Option ((Int×Int)⊕Bool)).bind fun
 |.inl (i33,i34)=>(some (.inl (i33,i34,wr .i64 (i21+1))))
 |.inr b35=>(some (.inr (.inl b35))))else
 (some (.inr (.inr (i19,i20))))
def L7(l_0:Sl Int)(n_1:Int):Option Bool:=
 bif decide ((l_0.l.length:Int)>40)then((mg).bind fun r1=>
 some r1)else
 ((My l_0).bind fun r2=>
 (Mn r2).bind fun r3=>
 ((MJ r3).bind fun r4=>
 (Mw l_0).bind fun r5=>
 (MS r4 r5).bind fun r6=>
 bif(!r6)then(some true)else
 ((My l_0).bind fun r7=>
 (MI r7).bind fun r8=>
 (Mr r8).bind fun r9=>
 (MG l_0).bind fun r10=>
 bif(r9 !=r10)then(some true)else
 ((My l_0).bind fun r11=>
 (MH r11).bind fun r12=>
 (Mr r12).bind fun r13=>
 (MF l_0).bind fun r14=>
 some (r13 !=r14))):Option Bool).bind fun b15=>
 bif b15 then(some false)else
 ((zu (LQ l_0 n_1 r3) (0,0,0)).bind fun
 |.inl b36=>(some b36)
 |.inr (i37,i38)=>((bif(i37==i38)then((mg).bind fun r39=>
 some r39)else
 (some false):Option Bool).bind fun b40=>
 some b40)))
def PC:pE:=⟨[(false,.x (.sl (.i .u64))),(false,.x (.i .u64))],[([.x .b],[])],true,[],fun p=>match p with|(l_0,n_1)=>L7 l_0 n_1⟩
theorem P3:gg prog 5 PC:=iF iV kx (QC:=QC) (np:=2) (an:=[(11,{j:=some {vs:=[(39,.x .b)]}}),(19,{j:=some {vs:=[(6,.x (.i .i64)),(7,.x (.i .i64)),(8,.x (.i .i64))]},e:=[(.ret,{vs:=[(4,.x .b)]}),(.exit 0,{vs:=[(6,.x (.i .i64)),(7,.x (.i .i64))]})]}),(23,{e:=[(.normal,{vs:=[(6,.x (.i .i64)),(7,.x (.i .i64))]}),(.ret,{vs:=[(4,.x .b)]})]}),(26,{j:=some {vs:=[(60,.x .b)]}}),(29,{e:=[(.normal,{vs:=[(6,.x (.i .i64))]})]}),(38,{j:=some {vs:=[(4,.x .b)]}})]) (.cons J0 (.cons Qp (.cons Pk (.cons Qb (.cons Pj (.cons P9 (.cons P7 (.cons Jl (.cons P6 (.cons P5 (.cons P4 (.cons Pm (.cons Ay .nil))))))))))))) (by kernel_rfl) (by kernel_rfl)
end Go.Proofs.Ytingpmogbibghaa.M
