/- What functions of the program compute, and that the model's run computes it. Conditions: as stated. -/
import Derived.Test.YthcplpfiidlinaaLS
import Derived.Test.YthcplpfiidlinaaChecked
import Derived.KernelRfl
open Go.Ev Go
namespace Go.Proofs.Ythcplpfiidlinaa.L
noncomputable abbrev prog:Program:=Try.prog
theorem mixed:prog.follows .mixedOrders=true:=by kernel_rfl
theorem glbok:GlbOk:=qrl λ_=>rfl
def sig:Sig:=λf=>
 if f=3 then (true, [])else if f=4 then (true, [])else if f=5 then (true, [])else if f=6 then (true, [])else if f=7 then (true, [])else if f=8 then (true, [])else if f=9 then (true, [])else if f=10 then (true, [])else if f=11 then (true, [])else if f=12 then (true, [])else if f=15 then (true, [])else if f=16 then (true, [])else if f=17 then (true, [])else if f=19 then (true, [])else if f=21 then (true, [])else if f=24 then (true, [])else if f=25 then (true, [])else if f=26 then (true, [])else if f=27 then (true, [])else if f=29 then (true, [])else if f=30 then (true, [])else if f=32 then (true, [])else if f=35 then (false, [true,false])else if f=37 then (true, [])else if f=38 then (true, [])else if f=40 then (false, [true,false])else if f=42 then (true, [])else if f=43 then (true, [])else if f=47 then (true, [])else if f=49 then (true, [])else if f=50 then (true, [])else if f=51 then (true, [])else if f=52 then (true, [])else if f=53 then (true, [])else if f=54 then (false, [true])else if f=55 then (false, [true])else if f=61 then (true, [])else if f=62 then (true, [])else if f=63 then (true, [])else if f=64 then (true, [])else if f=68 then (true, [])else if f=70 then (true, [])else if f=71 then (true, [])else if f=72 then (true, [])else if f=74 then (true, [])else if f=75 then (true, [])else if f=76 then (true, [])else if f=89 then (true, [])else if f=90 then (true, [])else if f=91 then (true, [])else if f=93 then (true, [])else if f=103 then (true, [])else if f=109 then (true, [])else if f=110 then (true, [])else if f=111 then (true, [])else if f=112 then (true, [])else if f=117 then (true, [])else if f=118 then (true, [])else (false, [])
def sigN:Sig:=λf=>if f=1000000000 then (true, [])else sig f
@[reducible] def api_Link:Type:=Int×Int×Int×Int×Int×Int
@[reducible] def api_Link.A (x:api_Link):Int:=x.1
@[reducible] def api_Link.PortA (x:api_Link):Int:=x.2.1
@[reducible] def api_Link.B (x:api_Link):Int:=x.2.2.1
@[reducible] def api_Link.PortB (x:api_Link):Int:=x.2.2.2.1
@[reducible] def api_Link.Least (x:api_Link):Int:=x.2.2.2.2.1
@[reducible] def api_Link.Most (x:api_Link):Int:=x.2.2.2.2.2
@[reducible] def api_Host:Type:=Int×Int
@[reducible] def api_Host.At (x:api_Host):Int:=x.1
@[reducible] def api_Host.Port (x:api_Host):Int:=x.2
@[reducible] def api_Topo:Type:=Int×Sl api_Link×Sl api_Host
@[reducible] def api_Topo.Switches (x:api_Topo):Int:=x.1
@[reducible] def api_Topo.Links (x:api_Topo):Sl api_Link:=x.2.1
@[reducible] def api_Topo.Hosts (x:api_Topo):Sl api_Host:=x.2.2
@[reducible] def y1:Ty:= .st (.pr (.i .i64) (.pr (.i .i64) (.pr (.i .i64) (.pr (.i .i64) (.pr (.i .i64) (.i .i64))))))
@[reducible] def y2:Ty:= .st (.pr (.i .i64) (.i .i64))
@[reducible] def y0:Ty:= .st (.pr (.i .i64) (.pr (.sl y1) (.sl y2)))
@[reducible] def topo_place:Type:=Int×Int
@[reducible] def topo_place.sw (x:topo_place):Int:=x.1
@[reducible] def topo_place.port (x:topo_place):Int:=x.2
@[reducible] def level_Move:Type:=Int×Int×Int×Int
@[reducible] def level_Move.Sw (x:level_Move):Int:=x.1
@[reducible] def level_Move.Host (x:level_Move):Int:=x.2.1
@[reducible] def level_Move.Port (x:level_Move):Int:=x.2.2.1
@[reducible] def level_Move.Round (x:level_Move):Int:=x.2.2.2
@[reducible] def y3:Ty:= .st (.pr (.i .i64) (.pr (.i .i64) (.pr (.i .i64) (.i .i64))))
@[reducible] def y4:Ty:= .st (.pr (.i .i64) (.pr (.i .i64) (.i .i64)))
@[reducible] def y7:Ty:= .st (.pr (.i .i64) (.pr (.ar 4 (.i .i64)) (.ar 4 (.i .i64))))
@[reducible] def api_Match:Type:=Int×Arr 4 Int×Arr 4 Int
@[reducible] def api_Match.Port (x:api_Match):Int:=x.1
@[reducible] def api_Match.Val (x:api_Match):Arr 4 Int:=x.2.1
@[reducible] def api_Match.Mask (x:api_Match):Arr 4 Int:=x.2.2
@[reducible] def api_Act:Type:=Int×Int×Int
@[reducible] def api_Act.V (x:api_Act):Int:=x.2.2
@[reducible] def api_Rule:Type:=Int×api_Match×Sl api_Act
@[reducible] def api_Rule.Prio (x:api_Rule):Int:=x.1
@[reducible] def api_Rule.M (x:api_Rule):api_Match:=x.2.1
@[reducible] def api_Rule.Acts (x:api_Rule):Sl api_Act:=x.2.2
@[reducible] def y8:Ty:= .st (.pr (.i .i64) (.pr y7 (.sl y4)))
@[reducible] def api_Mod:Type:=Int×api_Rule×Bool
@[reducible] def api_Mod.R (x:api_Mod):api_Rule:=x.2.1
@[reducible] def y9:Ty:= .st (.pr (.i .i64) (.pr y8 .b))
noncomputable def q3n(r_1:Sl (Sl Int)):Int->Option (Int ⊕ (Bool ⊕ Unit)):=λi2=>
 bif decide (i2 < (r_1.l.length:Int))then ((ixI i2 r_1.l.length).bind λn3=>
 bif decide ((((gt r_1.l n3).l).length:Int) > 12)then (some (.inr (.inl false)))else
 (some (.inl (wr .i64 (i2+1)))))else
 (some (.inr (.inr ())))
noncomputable def q4l(t_0:api_Topo)(r_1:Sl (Sl Int)):Option Bool:=
 (loopO (q3n r_1) 0).bind fun
 | .inl b4=>(some b4)
 | .inr _=>(some (((decide ((((api_Topo.Links t_0).l).length:Int)<=30)) && (decide ((((api_Topo.Hosts t_0).l).length:Int)<=12))) && (decide ((r_1.l.length:Int)<=12))))
noncomputable def sp0:Spc:=⟨[(false, .x y0),(false, .x (.sl (.sl (.i .i64))))], [([.x .b], [])],true, [],λp=>match p with | (t_0,r_1)=>q4l t_0 r_1⟩
theorem ok0:SpcOk prog 10 sp0:=q0o mixed glbok (sig:=sig) (np:=2) (an:= [(5, { j:=some { vs:= [(5, .x (.i .i64))] },e:= [(.ret, { vs:= [(4, .x .b)] }),(.exit 0, {})] })]) .nil (by kernel_rfl) (by kernel_rfl)
noncomputable def q2z(t_0:api_Topo)(sw_1:Int)(p_2:Int):(Int×Int)->Option ((Int×Int) ⊕ Int):=λ(i3,i4)=>
 bif decide (i4 < (((api_Topo.Links t_0).l).length:Int))then (((ixI i4 ((api_Topo.Links t_0).l).length).bind λn5=>
 (bif (((api_Link.A (gt ((api_Topo.Links t_0).l) n5)) == sw_1) && ((api_Link.PortA (gt ((api_Topo.Links t_0).l) n5)) == p_2))then (some (wr .i64 (i3+1)))else
 (some i3):Option Int).bind λi6=>
 bif (((api_Link.B (gt ((api_Topo.Links t_0).l) n5)) == sw_1) && ((api_Link.PortB (gt ((api_Topo.Links t_0).l) n5)) == p_2))then (some (wr .i64 (i6+1)))else
 (some i6):Option Int).bind λi7=>
 some (.inl (i7,wr .i64 (i4+1))))else
 (some (.inr i3))
noncomputable def q2w(t_0:api_Topo)(sw_1:Int)(p_2:Int):(Int×Int)->Option ((Int×Int) ⊕ Int):=λ(i11,i12)=>
 bif decide (i12 < (((api_Topo.Hosts t_0).l).length:Int))then ((((ixI i12 ((api_Topo.Hosts t_0).l).length).bind λn13=>
 bif ((api_Host.At (gt ((api_Topo.Hosts t_0).l) n13)) == sw_1)then ((ixI i12 ((api_Topo.Hosts t_0).l).length).bind λn14=>
 some ((api_Host.Port (gt ((api_Topo.Hosts t_0).l) n14)) == p_2))else
 (some false):Option Bool).bind λb15=>
 bif b15 then (some (wr .i64 (i11+1)))else
 (some i11):Option Int).bind λi16=>
 some (.inl (i16,wr .i64 (i12+1))))else
 (some (.inr i11))
noncomputable def q45(t_0:api_Topo)(sw_1:Int)(p_2:Int):Option Bool:=
 (loopO (q2z t_0 sw_1 p_2) (0,0)).bind λi8=>
 (loopO (q2w t_0 sw_1 p_2) (i8,0)).bind λi17=>
 some (((((decide (sw_1 >= 0)) && (decide (sw_1 < (api_Topo.Switches t_0)))) && (decide (p_2 >= 0))) && (decide (p_2<=7))) && (i17 == 1))
noncomputable def sp1:Spc:=⟨[(false, .x y0),(false, .x (.i .i64)),(false, .x (.i .i64))], [([.x .b], [])],true, [],λp=>match p with | (t_0,sw_1,p_2)=>q45 t_0 sw_1 p_2⟩
theorem ok1:SpcOk prog 71 sp1:=q0o mixed glbok (sig:=sig) (np:=3) (an:= [(7, { j:=some { vs:= [(7, .x (.i .i64)),(8, .x (.i .i64))] },e:= [(.exit 0, { vs:= [(7, .x (.i .i64))] })] }),(11, { e:= [(.normal, { vs:= [(7, .x (.i .i64))] })] }),(14, { e:= [(.normal, { vs:= [(7, .x (.i .i64))] })] }),(25, { j:=some { vs:= [(7, .x (.i .i64)),(10, .x (.i .i64))] },e:= [(.exit 2, { vs:= [(7, .x (.i .i64))] })] }),(29, { e:= [(.normal, { vs:= [(7, .x (.i .i64))] })] }),(31, { j:=some { vs:= [(71, .x .b)] } })]) .nil (by kernel_rfl) (by kernel_rfl)
noncomputable def q3m(t_0:api_Topo):Int->Option (Int ⊕ (Bool ⊕ Unit)):=λi2=>
 bif decide (i2 < (((api_Topo.Links t_0).l).length:Int))then ((ixI i2 ((api_Topo.Links t_0).l).length).bind λn3=>
 (bif (((((api_Link.A (gt ((api_Topo.Links t_0).l) n3)) == (api_Link.B (gt ((api_Topo.Links t_0).l) n3))) || (decide ((api_Link.Least (gt ((api_Topo.Links t_0).l) n3)) < 1))) || (decide ((api_Link.Least (gt ((api_Topo.Links t_0).l) n3)) > (api_Link.Most (gt ((api_Topo.Links t_0).l) n3))))) || (decide ((api_Link.Most (gt ((api_Topo.Links t_0).l) n3)) > 1000)))then (some true)else
 ((q45 t_0 (api_Link.A (gt ((api_Topo.Links t_0).l) n3)) (api_Link.PortA (gt ((api_Topo.Links t_0).l) n3))).bind λr4=>
 bif (!r4)then (some true)else
 ((q45 t_0 (api_Link.B (gt ((api_Topo.Links t_0).l) n3)) (api_Link.PortB (gt ((api_Topo.Links t_0).l) n3))).bind λr5=>
 some (!r5))):Option Bool).bind λb6=>
 bif b6 then (some (.inr (.inl false)))else
 (some (.inl (wr .i64 (i2+1)))))else
 (some (.inr (.inr ())))
noncomputable def q3l(t_0:api_Topo):Int->Option (Int ⊕ (Bool ⊕ Unit)):=λi9=>
 bif decide (i9 < (((api_Topo.Hosts t_0).l).length:Int))then ((ixI i9 ((api_Topo.Hosts t_0).l).length).bind λn10=>
 (ixI i9 ((api_Topo.Hosts t_0).l).length).bind λn11=>
 (q45 t_0 (api_Host.At (gt ((api_Topo.Hosts t_0).l) n10)) (api_Host.Port (gt ((api_Topo.Hosts t_0).l) n11))).bind λr12=>
 bif (!r12)then (some (.inr (.inl false)))else
 (some (.inl (wr .i64 (i9+1)))))else
 (some (.inr (.inr ())))
noncomputable def q5v(t_0:api_Topo):Option Bool:=
 bif ((((decide ((api_Topo.Switches t_0) < 1)) || (decide ((api_Topo.Switches t_0) > 8))) || (decide ((((api_Topo.Links t_0).l).length:Int) > 24))) || (decide ((((api_Topo.Hosts t_0).l).length:Int) > 8)))then (some false)else
 ((loopO (q3m t_0) 0).bind fun
 | .inl b7=>(some b7)
 | .inr _=>((loopO (q3l t_0) 0).bind fun
 | .inl b13=>(some b13)
 | .inr _=>(some true)))
noncomputable def sp2:Spc:=⟨[(false, .x y0)], [([.x .b], [])],true, [],λp=>match p with | t_0=>q5v t_0⟩
theorem ok2:SpcOk prog 52 sp2:=q0o mixed glbok (sig:=sig) (np:=1) (an:= [(10, { j:=some { vs:= [(3, .x (.i .i64))] },e:= [(.ret, { vs:= [(2, .x .b)] }),(.exit 0, {})] }),(18, { j:=some { vs:= [(77, .x .b)] } }),(25, { j:=some { vs:= [(5, .x (.i .i64))] },e:= [(.ret, { vs:= [(2, .x .b)] }),(.exit 2, {})] })]) (.cons ok1 .nil) (by kernel_rfl) (by kernel_rfl)
noncomputable def q3k(r_1:Sl (Sl Int))(i3:Int):Int->Option (Int ⊕ (Bool ⊕ Unit)):=λi6=>
 (ixI i3 r_1.l.length).bind λn7=>
 bif decide (i6 < (((gt r_1.l n7).l).length:Int))then (((ixI i3 r_1.l.length).bind λn8=>
 (ixI i6 ((gt r_1.l n8).l).length).bind λn9=>
 bif decide ((gt ((gt r_1.l n8).l) n9) < 0)then (some true)else
 ((ixI i3 r_1.l.length).bind λn10=>
 (ixI i6 ((gt r_1.l n10).l).length).bind λn11=>
 some (decide ((gt ((gt r_1.l n10).l) n11) > 7))):Option Bool).bind λb12=>
 bif b12 then (some (.inr (.inl false)))else
 (some (.inl (wr .i64 (i6+1)))))else
 (some (.inr (.inr ())))
noncomputable def q3j(t_0:api_Topo)(r_1:Sl (Sl Int)):Int->Option (Int ⊕ (Bool ⊕ Unit)):=λi3=>
 bif decide (i3 < (r_1.l.length:Int))then ((ixI i3 r_1.l.length).bind λn4=>
 bif ((((gt r_1.l n4).l).length:Int) != (((api_Topo.Hosts t_0).l).length:Int))then (some (.inr (.inl false)))else
 ((loopO (q3k r_1 i3) 0).bind fun
 | .inl b13=>(some (.inr (.inl b13)))
 | .inr _=>(some (.inl (wr .i64 (i3+1))))))else
 (some (.inr (.inr ())))
noncomputable def q4g(t_0:api_Topo)(r_1:Sl (Sl Int)):Option Bool:=
 (q5v t_0).bind λr1=>
 bif ((!r1) || ((r_1.l.length:Int) != (api_Topo.Switches t_0)))then (some false)else
 ((loopO (q3j t_0 r_1) 0).bind fun
 | .inl b14=>(some b14)
 | .inr _=>(some true))
noncomputable def sp3:Spc:=⟨[(false, .x y0),(false, .x (.sl (.sl (.i .i64))))], [([.x .b], [])],true, [],λp=>match p with | (t_0,r_1)=>q4g t_0 r_1⟩
theorem ok3:SpcOk prog 30 sp3:=q0o mixed glbok (sig:=sig) (np:=2) (an:= [(10, { j:=some { vs:= [(5, .x (.i .i64))] },e:= [(.ret, { vs:= [(4, .x .b)] }),(.exit 0, {})] }),(22, { j:=some { vs:= [(6, .x (.i .i64))] },e:= [(.ret, { vs:= [(4, .x .b)] }),(.exit 2, {})] }),(28, { j:=some { vs:= [(58, .x .b)] } })]) (.cons ok2 .nil) (by kernel_rfl) (by kernel_rfl)
noncomputable def q42(t_0:api_Topo)(sw_1:Int)(p_2:Int):Int->Option (Int ⊕ ((Int×Int×Int×Bool) ⊕ Unit)):=λi2=>
 bif decide (i2 < (((api_Topo.Links t_0).l).length:Int))then ((ixI i2 ((api_Topo.Links t_0).l).length).bind λn3=>
 bif (((api_Link.A (gt ((api_Topo.Links t_0).l) n3)) == sw_1) && ((api_Link.PortA (gt ((api_Topo.Links t_0).l) n3)) == p_2))then (some (.inr (.inl (api_Link.B (gt ((api_Topo.Links t_0).l) n3),api_Link.PortB (gt ((api_Topo.Links t_0).l) n3),i2,true))))else
 (bif (((api_Link.B (gt ((api_Topo.Links t_0).l) n3)) == sw_1) && ((api_Link.PortB (gt ((api_Topo.Links t_0).l) n3)) == p_2))then (some (.inr (.inl (api_Link.A (gt ((api_Topo.Links t_0).l) n3),api_Link.PortA (gt ((api_Topo.Links t_0).l) n3),i2,true))))else
 (some (.inl (wr .i64 (i2+1))))))else
 (some (.inr (.inr ())))
noncomputable def q7f(t_0:api_Topo)(sw_1:Int)(p_2:Int):Option (Int×Int×Int×Bool):=
 (loopO (q42 t_0 sw_1 p_2) 0).bind fun
 | .inl (i4,i5,i6,b7)=>(some (i4,i5,i6,b7))
 | .inr _=>(some (0,0,0,false))
noncomputable def sp4:Spc:=⟨[(false, .x y0),(false, .x (.i .i64)),(false, .x (.i .i64))], [([.x (.i .i64), .x (.i .i64), .x (.i .i64), .x .b], [])],true, [],λp=>match p with | (t_0,sw_1,p_2)=>q7f t_0 sw_1 p_2⟩
theorem ok4:SpcOk prog 15 sp4:=q0o mixed glbok (sig:=sig) (np:=3) (an:= [(5, { j:=some { vs:= [(10, .x (.i .i64))] },e:= [(.ret, { vs:= [(6, .x (.i .i64)),(7, .x (.i .i64)),(8, .x (.i .i64)),(9, .x .b)] }),(.exit 0, {})] })]) .nil (by kernel_rfl) (by kernel_rfl)
noncomputable def q78(t_0:api_Topo)(r_1:Sl (Sl Int))(sw_2:Int)(h_3:Int):Option (Int×Bool):=
 (bif (((decide (sw_2 < 0)) || (decide (sw_2 >= (r_1.l.length:Int)))) || (decide (h_3 < 0)))then (some true)else
 ((ixI sw_2 r_1.l.length).bind λn1=>
 some (decide (h_3 >= (((gt r_1.l n1).l).length:Int)))):Option Bool).bind λb2=>
 bif b2 then (some (0,false))else
 ((ixI sw_2 r_1.l.length).bind λn3=>
 (ixI h_3 ((gt r_1.l n3).l).length).bind λn4=>
 (q7f t_0 sw_2 (gt ((gt r_1.l n3).l) n4)).bind λ(r5,r6,r7,r8)=>
 some (r5,r8))
noncomputable def sp5:Spc:=⟨[(false, .x y0),(false, .x (.sl (.sl (.i .i64)))),(false, .x (.i .i64)),(false, .x (.i .i64))], [([.x (.i .i64), .x .b], [])],true, [],λp=>match p with | (t_0,r_1,sw_2,h_3)=>q78 t_0 r_1 sw_2 h_3⟩
theorem ok5:SpcOk prog 72 sp5:=q0o mixed glbok (sig:=sig) (np:=4) (an:= [(4, { j:=some { vs:= [(34, .x .b)] } })]) (.cons ok4 .nil) (by kernel_rfl) (by kernel_rfl)
noncomputable def q1i(t_0:api_Topo)(r_1:Sl (Sl Int))(h_3:Int)(n_4:Int):(Int×Int)->Option ((Int×Int) ⊕ ((Int×Bool) ⊕ Int)):=λ(i3,i4)=>
 bif decide (i4<=n_4)then (((ixI h_3 ((api_Topo.Hosts t_0).l).length).bind λn5=>
 bif ((api_Host.At (gt ((api_Topo.Hosts t_0).l) n5)) == i3)then ((ixI h_3 ((api_Topo.Hosts t_0).l).length).bind λn6=>
 (ixI i3 r_1.l.length).bind λn7=>
 (ixI h_3 ((gt r_1.l n7).l).length).bind λn8=>
 some ((api_Host.Port (gt ((api_Topo.Hosts t_0).l) n6)) == (gt ((gt r_1.l n7).l) n8)))else
 (some false):Option Bool).bind λb9=>
 bif b9 then (some (.inr (.inl (i3,(i4 == n_4)))))else
 (bif (i4 == n_4)then (some (.inr (.inl (i3,false))))else
 ((q78 t_0 r_1 i3 h_3).bind λ(r10,r11)=>
 bif (!r11)then (some (.inr (.inl ((-1),false))))else
 (some (.inl (r10,wr .i64 (i4+1)))))))else
 (some (.inr (.inr i3)))
noncomputable def q4n(t_0:api_Topo)(r_1:Sl (Sl Int))(sw_2:Int)(h_3:Int)(n_4:Int):Option (Int×Bool):=
 (loopO (q1i t_0 r_1 h_3 n_4) (sw_2,0)).bind fun
 | .inl (i12,b13)=>(some (i12,b13))
 | .inr i14=>(some (i14,false))
noncomputable def sp6:Spc:=⟨[(false, .x y0),(false, .x (.sl (.sl (.i .i64)))),(false, .x (.i .i64)),(false, .x (.i .i64)),(false, .x (.i .i64))], [([.x (.i .i64), .x .b], [])],true, [],λp=>match p with | (t_0,r_1,sw_2,h_3,n_4)=>q4n t_0 r_1 sw_2 h_3 n_4⟩
theorem ok6:SpcOk prog 53 sp6:=q0o mixed glbok (sig:=sig) (np:=5) (an:= [(7, { j:=some { vs:= [(12, .x (.i .i64)),(13, .x (.i .i64))] },e:= [(.ret, { vs:= [(10, .x (.i .i64)),(11, .x .b)] }),(.exit 0, { vs:= [(12, .x (.i .i64))] })] }),(14, { j:=some { vs:= [(45, .x .b)] } })]) (.cons ok5 .nil) (by kernel_rfl) (by kernel_rfl)
noncomputable def q0n(t_0:api_Topo)(r_1:Sl (Sl Int))(sw_2:Int)(h_3:Int):(Int×Sl Int)->Option ((Int×Sl Int) ⊕ ((Int×Sl Int) ⊕ Unit)):=λ(i5,s6)=>
 bif decide (i5 < (api_Topo.Switches t_0))then ((q4n t_0 r_1 sw_2 h_3 i5).bind λ(r7,r8)=>
 bif (r7 == (-1))then (some (.inr (.inl (13,Sl.nil))))else
 ((capI (s6.l++ [r7])).bind λl9=>
 bif r8 then (some (.inr (.inl (0,(Sl.mk l9)))))else
 (some (.inl (wr .i64 (i5+1),(Sl.mk l9))))))else
 (some (.inr (.inr ())))
noncomputable def q2t(t_0:api_Topo)(r_1:Sl (Sl Int))(sw_2:Int)(h_3:Int):Option (Sl Int×Int):=
 (q4g t_0 r_1).bind λr1=>
 bif (((((!r1) || (decide (sw_2 < 0))) || (decide (sw_2 >= (r_1.l.length:Int)))) || (decide (h_3 < 0))) || (decide (h_3 >= (((api_Topo.Hosts t_0).l).length:Int))))then (some (Sl.nil,2))else
 ((loopO (q0n t_0 r_1 sw_2 h_3) (0,Sl.nil)).bind fun
 | .inl (i10,s11)=>(some (s11,i10))
 | .inr _=>((q4n t_0 r_1 sw_2 h_3 (api_Topo.Switches t_0)).bind λ(r12,r13)=>
 bif (r12 == (-1))then (some (Sl.nil,13))else
 (some (Sl.nil,12))))
noncomputable def sp7:Spc:=⟨[(false, .x y0),(false, .x (.sl (.sl (.i .i64)))),(false, .x (.i .i64)),(false, .x (.i .i64))], [([.x (.sl (.i .i64)), .x (.i .i64)], [])],false, [],λp=>match p with | (t_0,r_1,sw_2,h_3)=>q2t t_0 r_1 sw_2 h_3⟩
theorem ok7:SpcOk prog 31 sp7:=q0o mixed glbok (sig:=sig) (np:=4) (an:= [(12, { j:=some { vs:= [(10, .so 0),(11, .x (.i .i64))],os:= [.ar (.i .i64)] },e:= [(.ret, { vs:= [(8, .so 0),(9, .x (.i .i64))],os:= [.ar (.i .i64)] }),(.exit 0, {})] })]) (.cons ok3 (.cons ok6 .nil)) (by kernel_rfl) (by kernel_rfl)
noncomputable def q2b(t_0:api_Topo)(r_1:Sl (Sl Int))(i3:Int):Int->Option (Int ⊕ (Bool ⊕ Unit)):=λi5=>
 bif decide (i5 < (((api_Topo.Hosts t_0).l).length:Int))then ((q2t t_0 r_1 i3 i5).bind λ(r6,r7)=>
 bif (r7 != 0)then (some (.inr (.inl false)))else
 (some (.inl (wr .i64 (i5+1)))))else
 (some (.inr (.inr ())))
noncomputable def q40(t_0:api_Topo)(r_1:Sl (Sl Int)):Int->Option (Int ⊕ (Bool ⊕ Unit)):=λi3=>
 bif decide (i3 < (r_1.l.length:Int))then ((loopO (q2b t_0 r_1 i3) 0).bind fun
 | .inl b8=>(some (.inr (.inl b8)))
 | .inr _=>(some (.inl (wr .i64 (i3+1)))))else
 (some (.inr (.inr ())))
noncomputable def q5q(t_0:api_Topo)(r_1:Sl (Sl Int)):Option Bool:=
 (q4g t_0 r_1).bind λr1=>
 bif (!r1)then (some false)else
 ((loopO (q40 t_0 r_1) 0).bind fun
 | .inl b9=>(some b9)
 | .inr _=>(some true))
noncomputable def sp8:Spc:=⟨[(false, .x y0),(false, .x (.sl (.sl (.i .i64))))], [([.x .b], [])],true, [],λp=>match p with | (t_0,r_1)=>q5q t_0 r_1⟩
theorem ok8:SpcOk prog 11 sp8:=q0o mixed glbok (sig:=sig) (np:=2) (an:= [(10, { j:=some { vs:= [(5, .x (.i .i64))] },e:= [(.ret, { vs:= [(4, .x .b)] }),(.exit 0, {})] }),(17, { j:=some { vs:= [(6, .x (.i .i64))] },e:= [(.ret, { vs:= [(4, .x .b)] }),(.exit 2, {})] })]) (.cons ok3 (.cons ok7 .nil)) (by kernel_rfl) (by kernel_rfl)
noncomputable def q1x(t_0:api_Topo):(Int×Sl topo_place)->Option ((Int×Sl topo_place) ⊕ (Sl topo_place)):=λ(i4,s5)=>
 bif decide (i4 < (((api_Topo.Links t_0).l).length:Int))then ((ixI i4 ((api_Topo.Links t_0).l).length).bind λn6=>
 (capI (s5.l++ [(⟨api_Link.A (gt ((api_Topo.Links t_0).l) n6),api_Link.PortA (gt ((api_Topo.Links t_0).l) n6)⟩:topo_place),(⟨api_Link.B (gt ((api_Topo.Links t_0).l) n6),api_Link.PortB (gt ((api_Topo.Links t_0).l) n6)⟩:topo_place)])).bind λl7=>
 some (.inl (wr .i64 (i4+1),(Sl.mk l7))))else
 (some (.inr s5))
noncomputable def q1z(t_0:api_Topo):(Int×Sl topo_place)->Option ((Int×Sl topo_place) ⊕ (Sl topo_place)):=λ(i11,s12)=>
 bif decide (i11 < (((api_Topo.Hosts t_0).l).length:Int))then ((ixI i11 ((api_Topo.Hosts t_0).l).length).bind λn13=>
 (capI (s12.l++ [gt ((api_Topo.Hosts t_0).l) n13])).bind λl14=>
 some (.inl (wr .i64 (i11+1),(Sl.mk l14))))else
 (some (.inr s12))
noncomputable def q36(t_0:api_Topo):Option (Sl topo_place):=
 (loopO (q1x t_0) (0,Sl.nil)).bind λs8=>
 (loopO (q1z t_0) (0,s8)).bind λs15=>
 some s15
noncomputable def sp9:Spc:=⟨[(false, .x y0)], [([.x (.sl y2)], [])],false, [],λp=>match p with | t_0=>q36 t_0⟩
theorem ok9:SpcOk prog 88 sp9:=q0o mixed glbok (sig:=sig) (np:=1) (an:= [(7, { j:=some { vs:= [(3, .so 0),(11, .x (.i .i64))],os:= [.ar y2] },e:= [(.exit 0, { vs:= [(3, .so 0)],os:= [.ar y2] })] }),(19, { j:=some { vs:= [(3, .so 0),(32, .x (.i .i64))],os:= [.ar y2],kl:= [1] },e:= [(.exit 2, { vs:= [(3, .so 0)],os:= [.ar y2],kl:= [1] })] })]) .nil (by kernel_rfl) (by kernel_rfl)
noncomputable def q2g(t_0:api_Topo):Int->Option (Int ⊕ (Bool ⊕ Unit)):=λi2=>
 bif decide (i2 < (((api_Topo.Links t_0).l).length:Int))then ((ixI i2 ((api_Topo.Links t_0).l).length).bind λn3=>
 bif (((((api_Link.A (gt ((api_Topo.Links t_0).l) n3)) == (api_Link.B (gt ((api_Topo.Links t_0).l) n3))) || (decide ((api_Link.Least (gt ((api_Topo.Links t_0).l) n3)) < 1))) || (decide ((api_Link.Least (gt ((api_Topo.Links t_0).l) n3)) > (api_Link.Most (gt ((api_Topo.Links t_0).l) n3))))) || (decide ((api_Link.Most (gt ((api_Topo.Links t_0).l) n3)) > 1000)))then (some (.inr (.inl false)))else
 (some (.inl (wr .i64 (i2+1)))))else
 (some (.inr (.inr ())))
noncomputable def q15(t_0:api_Topo)(r5:Sl topo_place):(Int×Mp topo_place Int)->Option ((Int×Mp topo_place Int) ⊕ (Bool ⊕ Unit)):=λ(i9,m10)=>
 bif decide (i9 < (r5.l.length:Int))then ((ixI i9 r5.l.length).bind λn11=>
 (mpSet ((mpEnt m10 0 (gt r5.l n11)).1) ((mpEnt m10 0 (gt r5.l n11)).2.2) (wr .i64 ((mpGet m10 0 (gt r5.l n11))+1))).bind λm12=>
 bif (((((decide ((topo_place.sw (gt r5.l n11)) < 0)) || (decide ((topo_place.sw (gt r5.l n11)) >= (api_Topo.Switches t_0)))) || (decide ((topo_place.port (gt r5.l n11)) < 0))) || (decide ((topo_place.port (gt r5.l n11)) >= 8))) || (decide ((mpGet m12 0 (gt r5.l n11)) > 1)))then (some (.inr (.inl false)))else
 (some (.inl (wr .i64 (i9+1),m12))))else
 (some (.inr (.inr ())))
noncomputable def q43(t_0:api_Topo):Option Bool:=
 bif ((((decide ((api_Topo.Switches t_0) < 1)) || (decide ((api_Topo.Switches t_0) > 8))) || (decide ((((api_Topo.Links t_0).l).length:Int) > 24))) || (decide ((((api_Topo.Hosts t_0).l).length:Int) > 8)))then (some false)else
 ((loopO (q2g t_0) 0).bind fun
 | .inl b4=>(some b4)
 | .inr _=>((q36 t_0).bind λr5=>
 (loopO (q15 t_0 r5) (0,(Mp.none:Mp topo_place Int))).bind fun
 | .inl b13=>(some b13)
 | .inr _=>(some true)))
noncomputable def sp10:Spc:=⟨[(false, .x y0)], [([.x .b], [])],true, [],λp=>match p with | t_0=>q43 t_0⟩
theorem ok10:SpcOk prog 61 sp10:=q0o mixed glbok (sig:=sig) (np:=1) (an:= [(10, { j:=some { vs:= [(31, .x (.i .i64))] },e:= [(.ret, { vs:= [(2, .x .b)] }),(.exit 0, {})] }),(27, { j:=some { vs:= [(5, .om 0),(62, .x (.i .i64))],os:= [.mp y2 (.i .i64)],kl:= [1] },e:= [(.ret, { vs:= [(2, .x .b)],kl:= [1] }),(.exit 2, { kl:= [1] })] })]) (.cons ok9 .nil) (by kernel_rfl) (by kernel_rfl)
noncomputable def q31(p_0:Int):Option Bool:=
 some ((decide (p_0 < 0)) || (decide (p_0 >= 8)))
noncomputable def sp11:Spc:=⟨[(false, .x (.i .i64))], [([.x .b], [])],true, [],λp=>match p with | p_0=>q31 p_0⟩
theorem ok11:SpcOk prog 63 sp11:=q0o mixed glbok (sig:=sig) (np:=1) (an:= []) .nil (by kernel_rfl) (by kernel_rfl)
noncomputable def q02(s_0:Sl Int):Int->Option (Int ⊕ (Int ⊕ Unit)):=λi2=>
 bif decide (i2 < (s_0.l.length:Int))then ((ixI i2 s_0.l.length).bind λn3=>
 (q31 (gt s_0.l n3)).bind λr4=>
 bif r4 then (some (.inr (.inl i2)))else
 (some (.inl (wr .i64 (i2+1)))))else
 (some (.inr (.inr ())))
noncomputable def q06(s_0:Sl Int):Option Int:=
 (loopO (q02 s_0) 0).bind fun
 | .inl i5=>(some i5)
 | .inr _=>(some (-1))
noncomputable def sp12:Spc:=⟨[(false, .x (.sl (.i .i64))),(false, .fn 63 .ni)], [([.x (.i .i64)], [])],true, [],λp=>match p with | s_0=>q06 s_0⟩
theorem ok12:SpcOk prog 89 sp12:=q0o mixed glbok (sig:=sig) (np:=2) (an:= [(5, { j:=some { vs:= [(8, .x (.i .i64))] },e:= [(.ret, { vs:= [(4, .x (.i .i64))] }),(.exit 0, {})] })]) (.cons ok11 .nil) (by kernel_rfl) (by kernel_rfl)
noncomputable def q01(s_0:Sl Int):Option Bool:=
 (q06 s_0).bind λr1=>
 some (decide (r1 >= 0))
noncomputable def sp13:Spc:=⟨[(false, .x (.sl (.i .i64))),(false, .fn 63 .ni)], [([.x .b], [])],true, [],λp=>match p with | s_0=>q01 s_0⟩
theorem ok13:SpcOk prog 62 sp13:=q0o mixed glbok (sig:=sig) (np:=2) (an:= []) (.cons ok12 .nil) (by kernel_rfl) (by kernel_rfl)
noncomputable def q1y(t_0:api_Topo)(r_1:Sl (Sl Int)):Int->Option (Int ⊕ (Bool ⊕ Unit)):=λi3=>
 bif decide (i3 < (r_1.l.length:Int))then ((ixI i3 r_1.l.length).bind λn4=>
 (bif ((((gt r_1.l n4).l).length:Int) != (((api_Topo.Hosts t_0).l).length:Int))then (some true)else
 ((q01 (gt r_1.l n4)).bind λr5=>
 some r5):Option Bool).bind λb6=>
 bif b6 then (some (.inr (.inl false)))else
 (some (.inl (wr .i64 (i3+1)))))else
 (some (.inr (.inr ())))
noncomputable def q1u(t_0:api_Topo)(r_1:Sl (Sl Int)):Option Bool:=
 (q43 t_0).bind λr1=>
 bif ((!r1) || ((r_1.l.length:Int) != (api_Topo.Switches t_0)))then (some false)else
 ((loopO (q1y t_0 r_1) 0).bind fun
 | .inl b7=>(some b7)
 | .inr _=>(some true))
noncomputable def sp14:Spc:=⟨[(false, .x y0),(false, .x (.sl (.sl (.i .i64))))], [([.x .b], [])],true, [],λp=>match p with | (t_0,r_1)=>q1u t_0 r_1⟩
theorem ok14:SpcOk prog 37 sp14:=q0o mixed glbok (sig:=sig) (np:=2) (an:= [(10, { j:=some { vs:= [(19, .x (.i .i64))] },e:= [(.ret, { vs:= [(4, .x .b)] }),(.exit 0, {})] }),(18, { j:=some { vs:= [(32, .x .b)] } })]) (.cons ok10 (.cons ok13 .nil)) (by kernel_rfl) (by kernel_rfl)
noncomputable def q37(r_0:Sl (Sl Int))(sw_1:Int)(h_2:Int):Option (Int×Bool):=
 (bif (((decide (sw_1 < 0)) || (decide (sw_1 >= (r_0.l.length:Int)))) || (decide (h_2 < 0)))then (some true)else
 ((ixI sw_1 r_0.l.length).bind λn1=>
 some (decide (h_2 >= (((gt r_0.l n1).l).length:Int)))):Option Bool).bind λb2=>
 bif b2 then (some (0,false))else
 ((ixI sw_1 r_0.l.length).bind λn3=>
 (ixI h_2 ((gt r_0.l n3).l).length).bind λn4=>
 some (gt ((gt r_0.l n3).l) n4,true))
noncomputable def sp15:Spc:=⟨[(false, .x (.sl (.sl (.i .i64)))),(false, .x (.i .i64)),(false, .x (.i .i64))], [([.x (.i .i64), .x .b], [])],true, [],λp=>match p with | (r_0,sw_1,h_2)=>q37 r_0 sw_1 h_2⟩
theorem ok15:SpcOk prog 74 sp15:=q0o mixed glbok (sig:=sig) (np:=3) (an:= [(4, { j:=some { vs:= [(28, .x .b)] } })]) .nil (by kernel_rfl) (by kernel_rfl)
noncomputable def q0k(s_0:Sl Int)(v_1:Int):Int->Option (Int ⊕ (Int ⊕ Unit)):=λi2=>
 bif decide (i2 < (s_0.l.length:Int))then ((ixI i2 s_0.l.length).bind λn3=>
 bif (v_1 == (gt s_0.l n3))then (some (.inr (.inl i2)))else
 (some (.inl (wr .i64 (i2+1)))))else
 (some (.inr (.inr ())))
noncomputable def q14(s_0:Sl Int)(v_1:Int):Option Int:=
 (loopO (q0k s_0 v_1) 0).bind fun
 | .inl i4=>(some i4)
 | .inr _=>(some (-1))
noncomputable def sp16:Spc:=⟨[(false, .x (.sl (.i .i64))),(false, .x (.i .i64))], [([.x (.i .i64)], [])],true, [],λp=>match p with | (s_0,v_1)=>q14 s_0 v_1⟩
theorem ok16:SpcOk prog 64 sp16:=q0o mixed glbok (sig:=sig) (np:=2) (an:= [(5, { j:=some { vs:= [(8, .x (.i .i64))] },e:= [(.ret, { vs:= [(4, .x (.i .i64))] }),(.exit 0, {})] })]) .nil (by kernel_rfl) (by kernel_rfl)
noncomputable def q09(s_0:Sl Int)(v_1:Int):Option Bool:=
 (q14 s_0 v_1).bind λr1=>
 some (decide (r1 >= 0))
noncomputable def sp17:Spc:=⟨[(false, .x (.sl (.i .i64))),(false, .x (.i .i64))], [([.x .b], [])],true, [],λp=>match p with | (s_0,v_1)=>q09 s_0 v_1⟩
theorem ok17:SpcOk prog 38 sp17:=q0o mixed glbok (sig:=sig) (np:=2) (an:= []) (.cons ok16 .nil) (by kernel_rfl) (by kernel_rfl)
noncomputable def q1b(l_0:Sl Int):Option Bool:=
 (bif decide ((l_0.l.length:Int) > 0)then ((cutI l_0.l 0 (wr .i64 ((l_0.l.length:Int) - 1))).bind λl1=>
 (ixI (wr .i64 ((l_0.l.length:Int) - 1)) l_0.l.length).bind λn2=>
 (q09 (l_0.to l1) (gt l_0.l n2)).bind λr3=>
 some r3)else
 (some false):Option Bool).bind λb4=>
 some b4
noncomputable def sp18:Spc:=⟨[(false, .x (.sl (.i .i64)))], [([.x .b], [])],true, [],λp=>match p with | l_0=>q1b l_0⟩
theorem ok18:SpcOk prog 75 sp18:=q0o mixed glbok (sig:=sig) (np:=1) (an:= [(3, { j:=some { vs:= [(2, .x .b)] } })]) (.cons ok17 .nil) (by kernel_rfl) (by kernel_rfl)
noncomputable def q2u(t_0:api_Topo)(sw_1:Int)(port_2:Int):Int->Option (Int ⊕ ((Int×Int×Int×Bool) ⊕ Unit)):=λi2=>
 bif decide (i2 < (((api_Topo.Links t_0).l).length:Int))then ((ixI i2 ((api_Topo.Links t_0).l).length).bind λn3=>
 bif decide ((⟨sw_1,port_2⟩:topo_place)=(⟨api_Link.A (gt ((api_Topo.Links t_0).l) n3),api_Link.PortA (gt ((api_Topo.Links t_0).l) n3)⟩:topo_place))then (some (.inr (.inl (api_Link.B (gt ((api_Topo.Links t_0).l) n3),api_Link.PortB (gt ((api_Topo.Links t_0).l) n3),i2,true))))else
 (bif decide ((⟨sw_1,port_2⟩:topo_place)=(⟨api_Link.B (gt ((api_Topo.Links t_0).l) n3),api_Link.PortB (gt ((api_Topo.Links t_0).l) n3)⟩:topo_place))then (some (.inr (.inl (api_Link.A (gt ((api_Topo.Links t_0).l) n3),api_Link.PortA (gt ((api_Topo.Links t_0).l) n3),i2,true))))else
 (some (.inl (wr .i64 (i2+1))))))else
 (some (.inr (.inr ())))
noncomputable def q5k(t_0:api_Topo)(sw_1:Int)(port_2:Int):Option (Int×Int×Int×Bool):=
 (loopO (q2u t_0 sw_1 port_2) 0).bind fun
 | .inl (i4,i5,i6,b7)=>(some (i4,i5,i6,b7))
 | .inr _=>(some (0,0,0,false))
noncomputable def sp19:Spc:=⟨[(false, .x y0),(false, .x (.i .i64)),(false, .x (.i .i64))], [([.x (.i .i64), .x (.i .i64), .x (.i .i64), .x .b], [])],true, [],λp=>match p with | (t_0,sw_1,port_2)=>q5k t_0 sw_1 port_2⟩
theorem ok19:SpcOk prog 103 sp19:=q0o mixed glbok (sig:=sig) (np:=3) (an:= [(7, { j:=some { vs:= [(21, .x (.i .i64))] },e:= [(.ret, { vs:= [(6, .x (.i .i64)),(7, .x (.i .i64)),(8, .x (.i .i64)),(9, .x .b)] }),(.exit 0, {})] })]) .nil (by kernel_rfl) (by kernel_rfl)
noncomputable def q44(t_0:api_Topo)(r_1:Sl (Sl Int))(sw_2:Int)(h_3:Int):Option (Int×Bool):=
 (q37 r_1 sw_2 h_3).bind λ(r1,r2)=>
 bif (!r2)then (some (0,false))else
 ((q5k t_0 sw_2 r1).bind λ(r3,r4,r5,r6)=>
 some (r3,r6))
noncomputable def sp20:Spc:=⟨[(false, .x y0),(false, .x (.sl (.sl (.i .i64)))),(false, .x (.i .i64)),(false, .x (.i .i64))], [([.x (.i .i64), .x .b], [])],true, [],λp=>match p with | (t_0,r_1,sw_2,h_3)=>q44 t_0 r_1 sw_2 h_3⟩
theorem ok20:SpcOk prog 76 sp20:=q0o mixed glbok (sig:=sig) (np:=4) (an:= []) (.cons ok15 (.cons ok19 .nil)) (by kernel_rfl) (by kernel_rfl)
noncomputable def q1t(t_0:api_Topo)(r_1:Sl (Sl Int))(h_3:Int):(Sl Int)->Option (Sl Int ⊕ ((Int×Sl Int) ⊕ Unit)):=λs6=>
 (q1b s6).bind λr7=>
 bif (!r7)then ((ixI (wr .i64 ((s6.l.length:Int) - 1)) s6.l.length).bind λn8=>
 (ixI h_3 ((api_Topo.Hosts t_0).l).length).bind λn9=>
 (ixI (gt s6.l n8) r_1.l.length).bind λn10=>
 (ixI h_3 ((gt r_1.l n10).l).length).bind λn11=>
 bif decide ((gt ((api_Topo.Hosts t_0).l) n9)=(⟨gt s6.l n8,gt ((gt r_1.l n10).l) n11⟩:api_Host))then (some (.inr (.inl (0,s6))))else
 ((q44 t_0 r_1 (gt s6.l n8) h_3).bind λ(r12,r13)=>
 bif (!r13)then (some (.inr (.inl (13,Sl.nil))))else
 ((capI (s6.l++ [r12])).bind λl14=>
 some (.inl (Sl.mk l14)))))else
 (some (.inr (.inr ())))
noncomputable def q47(t_0:api_Topo)(r_1:Sl (Sl Int))(sw_2:Int)(h_3:Int):Option (Sl Int×Int):=
 (q37 r_1 sw_2 h_3).bind λ(r1,r2)=>
 (bif (!r2)then (some true)else
 ((q1u t_0 r_1).bind λr3=>
 some (!r3)):Option Bool).bind λb4=>
 bif b4 then (some (Sl.nil,2))else
 ((loopO (q1t t_0 r_1 h_3) (Sl.mk [sw_2])).bind fun
 | .inl (i15,s16)=>(some (s16,i15))
 | .inr _=>(some (Sl.nil,12)))
noncomputable def sp21:Spc:=⟨[(false, .x y0),(false, .x (.sl (.sl (.i .i64)))),(false, .x (.i .i64)),(false, .x (.i .i64))], [([.x (.sl (.i .i64)), .x (.i .i64)], [])],false, [],λp=>match p with | (t_0,r_1,sw_2,h_3)=>q47 t_0 r_1 sw_2 h_3⟩
theorem ok21:SpcOk prog 56 sp21:=q0o mixed glbok (sig:=sig) (np:=4) (an:= [(6, { j:=some { vs:= [(30, .x .b)] } }),(12, { j:=some { vs:= [(12, .so 0)],os:= [.ar (.i .i64)],kl:= [3] },e:= [(.ret, { vs:= [(8, .so 0),(9, .x (.i .i64))],os:= [.ar (.i .i64)],kl:= [3] }),(.exit 0, { kl:= [3] })] })]) (.cons ok15 (.cons ok14 (.cons ok18 (.cons ok20 .nil)))) (by kernel_rfl) (by kernel_rfl)
noncomputable def q28(t_0:api_Topo)(r_1:Sl (Sl Int))(h_2:Int):(Int×Sl Int)->Option ((Int×Sl Int) ⊕ (Sl Int)):=λ(i5,s6)=>
 bif decide (i5 < (r_1.l.length:Int))then ((q47 t_0 r_1 i5 h_2).bind λ(r7,r8)=>
 (capI (s6.l++ [wr .i64 ((r7.l.length:Int) - 1)])).bind λl9=>
 some (.inl (wr .i64 (i5+1),(Sl.mk l9))))else
 (some (.inr s6))
noncomputable def q4s(t_0:api_Topo)(r_1:Sl (Sl Int))(h_2:Int):Option (Sl Int):=
 (q1u t_0 r_1).bind λr1=>
 bif (((!r1) || (decide (h_2 < 0))) || (decide (h_2 >= (((api_Topo.Hosts t_0).l).length:Int))))then (some Sl.nil)else
 ((loopO (q28 t_0 r_1 h_2) (0,Sl.nil)).bind λs10=>
 some s10)
noncomputable def sp22:Spc:=⟨[(false, .x y0),(false, .x (.sl (.sl (.i .i64)))),(false, .x (.i .i64))], [([.x (.sl (.i .i64))], [])],false, [],λp=>match p with | (t_0,r_1,h_2)=>q4s t_0 r_1 h_2⟩
theorem ok22:SpcOk prog 34 sp22:=q0o mixed glbok (sig:=sig) (np:=3) (an:= [(12, { j:=some { vs:= [(7, .so 0),(28, .x (.i .i64))],os:= [.ar (.i .i64)] },e:= [(.exit 0, { vs:= [(7, .so 0)],os:= [.ar (.i .i64)] })] })]) (.cons ok14 (.cons ok21 .nil)) (by kernel_rfl) (by kernel_rfl)
noncomputable def q2e(t_0:api_Topo)(r_1:Sl (Sl Int)):Int->Option (Int ⊕ (Bool ⊕ Unit)):=λi3=>
 bif decide (i3 < (((api_Topo.Hosts t_0).l).length:Int))then ((q4s t_0 r_1 i3).bind λr4=>
 (q09 r4 (-1)).bind λr5=>
 bif r5 then (some (.inr (.inl false)))else
 (some (.inl (wr .i64 (i3+1)))))else
 (some (.inr (.inr ())))
noncomputable def q3h(t_0:api_Topo)(r_1:Sl (Sl Int)):Option Bool:=
 (q1u t_0 r_1).bind λr1=>
 bif (!r1)then (some false)else
 ((loopO (q2e t_0 r_1) 0).bind fun
 | .inl b6=>(some b6)
 | .inr _=>(some true))
noncomputable def sp23:Spc:=⟨[(false, .x y0),(false, .x (.sl (.sl (.i .i64))))], [([.x .b], [])],true, [],λp=>match p with | (t_0,r_1)=>q3h t_0 r_1⟩
theorem ok23:SpcOk prog 17 sp23:=q0o mixed glbok (sig:=sig) (np:=2) (an:= [(10, { j:=some { vs:= [(13, .x (.i .i64))] },e:= [(.ret, { vs:= [(4, .x .b)] }),(.exit 0, {})] })]) (.cons ok14 (.cons ok22 (.cons ok17 .nil))) (by kernel_rfl) (by kernel_rfl)
theorem ok24:SpcOk prog 35 (qh2 y3 36 srtMv):=qlh
noncomputable def q16(old_1:Sl (Sl Int))(now_2:Sl (Sl Int))(i7:Int)(r9:Sl Int):(Int×Sl level_Move)->Option ((Int×Sl level_Move) ⊕ (Sl level_Move)):=λ(i12,s13)=>
 bif decide (i12 < (now_2.l.length:Int))then (((ixI i12 now_2.l.length).bind λn14=>
 (ixI i7 ((gt now_2.l n14).l).length).bind λn15=>
 (ixI i12 old_1.l.length).bind λn16=>
 (ixI i7 ((gt old_1.l n16).l).length).bind λn17=>
 bif ((gt ((gt now_2.l n14).l) n15) != (gt ((gt old_1.l n16).l) n17))then ((ixI i12 now_2.l.length).bind λn18=>
 (ixI i7 ((gt now_2.l n18).l).length).bind λn19=>
 (ixI i12 r9.l.length).bind λn20=>
 (capI (s13.l++ [(⟨i12,i7,gt ((gt now_2.l n18).l) n19,gt r9.l n20⟩:level_Move)])).bind λl21=>
 some (Sl.mk l21))else
 (some s13):Option (Sl level_Move)).bind λs22=>
 some (.inl (wr .i64 (i12+1),s22)))else
 (some (.inr s13))
noncomputable def q21(t_0:api_Topo)(old_1:Sl (Sl Int))(now_2:Sl (Sl Int)):(Int×Sl level_Move)->Option ((Int×Sl level_Move) ⊕ (Sl level_Move)):=λ(i7,s8)=>
 bif decide (i7 < (((api_Topo.Hosts t_0).l).length:Int))then ((q4s t_0 now_2 i7).bind λr9=>
 (loopO (q16 old_1 now_2 i7 r9) (0,s8)).bind λs23=>
 some (.inl (wr .i64 (i7+1),s23)))else
 (some (.inr s8))
noncomputable def q2n(t_0:api_Topo)(old_1:Sl (Sl Int))(now_2:Sl (Sl Int)):Option (Sl level_Move×Int):=
 ((q3h t_0 old_1).bind λr1=>
 bif (!r1)then (some true)else
 ((q3h t_0 now_2).bind λr2=>
 some (!r2)):Option Bool).bind λb3=>
 bif b3 then (some (Sl.nil,2))else
 ((loopO (q21 t_0 old_1 now_2) (0,Sl.nil)).bind λs24=>
 (sortF srtMv s24).bind λs25=>
 (lenS s25 s24).bind λ_=>
 some (s25,0))
noncomputable def sp25:Spc:=⟨[(false, .x y0),(false, .x (.sl (.sl (.i .i64)))),(false, .x (.sl (.sl (.i .i64))))], [([.x (.sl y3), .x (.i .i64)], [])],false, [],λp=>match p with | (t_0,old_1,now_2)=>q2n t_0 old_1 now_2⟩
theorem ok25:SpcOk prog 13 sp25:=q0o mixed glbok (sig:=sig) (np:=3) (an:= [(4, { j:=some { vs:= [(21, .x .b)] } }),(12, { j:=some { vs:= [(8, .so 0),(25, .x (.i .i64))],os:= [.ar y3] },e:= [(.exit 0, { vs:= [(8, .so 0)],os:= [.ar y3] })] }),(23, { j:=some { vs:= [(8, .so 0),(34, .x (.i .i64))],os:= [.ar y3],kl:= [1] },e:= [(.exit 2, { vs:= [(8, .so 0)],os:= [.ar y3],kl:= [1] })] }),(27, { e:= [(.normal, { vs:= [(8, .so 0)],os:= [.ar y3],kl:= [3] })] })]) (.cons ok23 (.cons ok22 (.cons ok24 .nil))) (by kernel_rfl) (by kernel_rfl)
theorem ok26:SpcOk prog 54 (qdf (.i .i64) srtI):=qq3
theorem ok27:SpcOk prog 55 (qi0 (.i .i64) compI):=qqj
noncomputable def q4a(l_0:Sl level_Move):(Int×Sl Int)->Option ((Int×Sl Int) ⊕ (Sl Int)):=λ(i4,s5)=>
 bif decide (i4 < (l_0.l.length:Int))then ((ixI i4 l_0.l.length).bind λn6=>
 (capI (s5.l++ [level_Move.Round (gt l_0.l n6)])).bind λl7=>
 some (.inl (wr .i64 (i4+1),(Sl.mk l7))))else
 (some (.inr s5))
noncomputable def q4v(l_0:Sl level_Move):Option (Sl Int):=
 (loopO (q4a l_0) (0,Sl.nil)).bind λs8=>
 (sortF srtI s8).bind λs9=>
 (lenS s9 s8).bind λ_=>
 (cutF compI s9).bind λs10=>
 some s10
noncomputable def sp28:Spc:=⟨[(false, .x (.sl y3))], [([.x (.sl (.i .i64))], [])],false, [],λp=>match p with | l_0=>q4v l_0⟩
theorem ok28:SpcOk prog 33 sp28:=q0o mixed glbok (sig:=sig) (np:=1) (an:= [(7, { j:=some { vs:= [(3, .so 0),(8, .x (.i .i64))],os:= [.ar (.i .i64)] },e:= [(.exit 0, { vs:= [(3, .so 0)],os:= [.ar (.i .i64)] })] })]) (.cons ok26 (.cons ok27 .nil)) (by kernel_rfl) (by kernel_rfl)
noncomputable def q2c(a_0:Sl Int)(b_1:Sl Int):Int->Option (Int ⊕ (Bool ⊕ Unit)):=λi2=>
 bif decide (i2 < (a_0.l.length:Int))then ((ixI i2 a_0.l.length).bind λn3=>
 (ixI i2 b_1.l.length).bind λn4=>
 bif ((gt a_0.l n3) != (gt b_1.l n4))then (some (.inr (.inl false)))else
 (some (.inl (wr .i64 (i2+1)))))else
 (some (.inr (.inr ())))
noncomputable def q3c(a_0:Sl Int)(b_1:Sl Int):Option Bool:=
 bif ((a_0.l.length:Int) != (b_1.l.length:Int))then (some false)else
 ((loopO (q2c a_0 b_1) 0).bind fun
 | .inl b5=>(some b5)
 | .inr _=>(some true))
noncomputable def sp29:Spc:=⟨[(false, .x (.sl (.i .i64))),(false, .x (.sl (.i .i64)))], [([.x .b], [])],true, [],λp=>match p with | (a_0,b_1)=>q3c a_0 b_1⟩
theorem ok29:SpcOk prog 32 sp29:=q0o mixed glbok (sig:=sig) (np:=2) (an:= [(10, { j:=some { vs:= [(5, .x (.i .i64))] },e:= [(.ret, { vs:= [(4, .x .b)] }),(.exit 0, {})] })]) .nil (by kernel_rfl) (by kernel_rfl)
noncomputable def q2p:Option Bool:=
 (q2n (⟨3,(Sl.mk [(⟨0,0,1,0,1,1⟩:api_Link),(⟨1,1,2,0,1,1⟩:api_Link),(⟨0,1,2,1,1,1⟩:api_Link)]),(Sl.mk [(⟨2,7⟩:api_Host)])⟩:api_Topo) (Sl.mk [(Sl.mk [0]),(Sl.mk [1]),(Sl.mk [7])]) (Sl.mk [(Sl.mk [1]),(Sl.mk [1]),(Sl.mk [7])])).bind λ(r1,r2)=>
 (bif ((r2 == 0) && ((r1.l.length:Int) == 1))then ((ixI 0 r1.l.length).bind λn3=>
 bif decide ((gt r1.l n3)=(⟨0,0,1,1⟩:level_Move))then ((q4v r1).bind λr4=>
 (q3c r4 (Sl.mk [1])).bind λr5=>
 some r5)else
 (some false))else
 (some false):Option Bool).bind λb6=>
 some b6
noncomputable def sp30:Spc:=⟨[], [([.x .b], [])],true, [],λp=>match p with | _=>q2p⟩
theorem ok30:SpcOk prog 12 sp30:=q0o mixed glbok (sig:=sig) (np:=0) (an:= [(7, { j:=some { vs:= [(0, .x .b)] } })]) (.cons ok25 (.cons ok28 (.cons ok29 .nil))) (by kernel_rfl) (by kernel_rfl)
noncomputable def qaj:Option api_Match:=
 some (⟨(-1),(zeE (.ar 4 (.i .i64))),(zeE (.ar 4 (.i .i64)))⟩:api_Match)
noncomputable def sp48:Spc:=⟨[], [([.x y7], [])],true, [],λp=>match p with | _=>qaj⟩
theorem ok48:SpcOk prog 109 sp48:=q0o mixed glbok (sig:=sig) (np:=0) (an:= []) .nil (by kernel_rfl) (by kernel_rfl)
noncomputable def qbk(f_0:Int):Option Int:=
 (bif (f_0 == 0)then (some (f_0 == 0))else
 (bif (f_0 == 1)then (some (f_0 == 1))else
 (some (f_0 == 3))):Option Bool).bind λb1=>
 bif b1 then (some 8)else
 (bif (f_0 == 2)then (some 4)else
 (some 0))
noncomputable def sp49:Spc:=⟨[(false, .x (.i .i64))], [([.x (.i .i64)], [])],true, [],λp=>match p with | f_0=>qbk f_0⟩
theorem ok49:SpcOk prog 117 sp49:=q0o mixed glbok (sig:=sig) (np:=1) (an:= [(5, { e:= [(.normal, { vs:= [(4, .x .b)] })] })]) .nil (by kernel_rfl) (by kernel_rfl)
noncomputable def q7c(f_0:Int):Option Int:=
 (qbk f_0).bind λr1=>
 (shlI .i64 1 r1).bind λi2=>
 some (wr .i64 (i2 - 1))
noncomputable def sp50:Spc:=⟨[(false, .x (.i .i64))], [([.x (.i .i64)], [])],true, [],λp=>match p with | f_0=>q7c f_0⟩
theorem ok50:SpcOk prog 110 sp50:=q0o mixed glbok (sig:=sig) (np:=1) (an:= []) (.cons ok49 .nil) (by kernel_rfl) (by kernel_rfl)
noncomputable def qdv(f_0:Int)(v_1:Int):Option api_Match:=
 (qaj).bind λr1=>
 ((bif (((decide (f_0 >= 0)) && (decide (f_0 < 4))) && (decide (v_1 >= 0)))then ((q7c f_0).bind λr2=>
 some (decide (v_1<=r2)))else
 (some false):Option Bool).bind λb3=>
 bif b3 then ((q7c f_0).bind λr4=>
 (ixI f_0 4).bind λn5=>
 (ixI f_0 4).bind λn6=>
 some (⟨api_Match.Port r1,Arr.set (api_Match.Val r1) n5 v_1,Arr.set (api_Match.Mask r1) n6 r4⟩:api_Match))else
 (some r1):Option api_Match).bind λx7=>
 some x7
noncomputable def sp51:Spc:=⟨[(false, .x (.i .i64)),(false, .x (.i .i64))], [([.x y7], [])],true, [],λp=>match p with | (f_0,v_1)=>qdv f_0 v_1⟩
theorem ok51:SpcOk prog 90 sp51:=q0o mixed glbok (sig:=sig) (np:=2) (an:= [(4, { e:= [(.normal, { vs:= [(5, .op 0 y7 [])],os:= [.bx y7 (.x y7)],kl:= [10] })] }),(6, { j:=some { vs:= [(22, .x .b)] } })]) (.cons ok48 (.cons ok50 .nil)) (by kernel_rfl) (by kernel_rfl)
noncomputable def qaz(f_0:Int)(v_1:Int)(prio_2:Int):Option api_Rule:=
 (qdv f_0 v_1).bind λr1=>
 some (⟨prio_2,r1,Sl.nil⟩:api_Rule)
noncomputable def sp52:Spc:=⟨[(false, .x (.i .i64)),(false, .x (.i .i64)),(false, .x (.i .i64))], [([.x y8], [])],false, [],λp=>match p with | (f_0,v_1,prio_2)=>qaz f_0 v_1 prio_2⟩
theorem ok52:SpcOk prog 66 sp52:=q0o mixed glbok (sig:=sig) (np:=3) (an:= []) (.cons ok51 .nil) (by kernel_rfl) (by kernel_rfl)
noncomputable def q7j(f_0:Int)(v_1:Int)(prio_2:Int)(port_3:Int):Option api_Rule:=
 (qaz f_0 v_1 prio_2).bind λr1=>
 some (⟨api_Rule.Prio r1,api_Rule.M r1,(Sl.mk [(⟨2,0,port_3⟩:api_Act)])⟩:api_Rule)
noncomputable def sp53:Spc:=⟨[(false, .x (.i .i64)),(false, .x (.i .i64)),(false, .x (.i .i64)),(false, .x (.i .i64))], [([.x y8], [])],false, [],λp=>match p with | (f_0,v_1,prio_2,port_3)=>q7j f_0 v_1 prio_2 port_3⟩
theorem ok53:SpcOk prog 41 sp53:=q0o mixed glbok (sig:=sig) (np:=4) (an:= []) (.cons ok52 .nil) (by kernel_rfl) (by kernel_rfl)
noncomputable def q2d(l_0:Sl level_Move)(round_1:Int)(sw_2:Int):(Int×Sl api_Mod)->Option ((Int×Sl api_Mod) ⊕ (Sl api_Mod)):=λ(i4,s5)=>
 bif decide (i4 < (l_0.l.length:Int))then (((ixI i4 l_0.l.length).bind λn6=>
 bif (((level_Move.Round (gt l_0.l n6)) == round_1) && ((level_Move.Sw (gt l_0.l n6)) == sw_2))then ((q7j 1 (level_Move.Host (gt l_0.l n6)) 10 (level_Move.Port (gt l_0.l n6))).bind λr7=>
 (capI (s5.l++ [(⟨3,r7,false⟩:api_Mod)])).bind λl8=>
 some (Sl.mk l8))else
 (some s5):Option (Sl api_Mod)).bind λs9=>
 some (.inl (wr .i64 (i4+1),s9)))else
 (some (.inr s5))
noncomputable def q7a(l_0:Sl level_Move)(round_1:Int)(sw_2:Int):Option (Sl api_Mod):=
 (loopO (q2d l_0 round_1 sw_2) (0,Sl.nil)).bind λs10=>
 some s10
noncomputable def sp54:Spc:=⟨[(false, .x (.sl y3)),(false, .x (.i .i64)),(false, .x (.i .i64))], [([.x (.sl y9)], [])],false, [],λp=>match p with | (l_0,round_1,sw_2)=>q7a l_0 round_1 sw_2⟩
theorem ok54:SpcOk prog 20 sp54:=q0o mixed glbok (sig:=sig) (np:=3) (an:= [(7, { j:=some { vs:= [(7, .so 0),(12, .x (.i .i64))],os:= [.ar y9] },e:= [(.exit 0, { vs:= [(7, .so 0)],os:= [.ar y9] })] }),(11, { e:= [(.normal, { vs:= [(7, .so 0)],os:= [.ar y9],kl:= [0] })] })]) (.cons ok53 .nil) (by kernel_rfl) (by kernel_rfl)
noncomputable def q1j(s_0:Sl Int):Option (Sl Int):=
 bif s_0.isNil then (some Sl.nil)else
 ((capI ([]++s_0.l)).bind λl1=>
 some (appS (Sl.mk []) s_0.l l1))
noncomputable def sp69:Spc:=⟨[(false, .x (.sl (.i .i64)))], [([.os (.i .i64)], [])],false, [],λp=>match p with | s_0=>q1j s_0⟩
theorem ok69:SpcOk prog 65 sp69:=q0o mixed glbok (sig:=sig) (np:=1) (an:= []) .nil (by kernel_rfl) (by kernel_rfl)
noncomputable def q2m(r_0:Sl (Sl Int)):(Int×Sl (Sl Int))->Option ((Int×Sl (Sl Int)) ⊕ (Sl (Sl Int))):=λ(i5,s6)=>
 bif decide (i5 < (r_0.l.length:Int))then ((ixI i5 r_0.l.length).bind λn7=>
 (q1j (gt r_0.l n7)).bind λs8=>
 (ixI i5 s6.l.length).bind λn9=>
 some (.inl (wr .i64 (i5+1),(Sl.mk (s6.l.set n9 s8)))))else
 (some (.inr s6))
noncomputable def q6j(r_0:Sl (Sl Int)):Option (Sl (Sl Int)):=
 (mkI (Sl.nil:Sl Int) (r_0.l.length:Int) (r_0.l.length:Int)).bind λl1=>
 (loopO (q2m r_0) (0,(Sl.mk l1))).bind λs10=>
 some s10
noncomputable def sp70:Spc:=⟨[(false, .x (.sl (.sl (.i .i64))))], [([.rw (.i .i64)], [])],false, [],λp=>match p with | r_0=>q6j r_0⟩
theorem ok70:SpcOk prog 39 sp70:=q0o mixed glbok (sig:=sigN) (np:=1) (an:= [(7, { j:=some { vs:= [(3, .sr 0),(11, .x (.i .i64))],os:= [.rw (.i .i64)],kl:= [0] },e:= [(.exit 0, { vs:= [(3, .sr 0)],os:= [.rw (.i .i64)],kl:= [0] })] })]) (.cons ok69 .nil) (by kernel_rfl) (by kernel_rfl)
noncomputable def q8l(r_0:Sl (Sl Int))(m_1:level_Move):Option (Sl (Sl Int)):=
 (bif (((decide ((level_Move.Sw m_1) >= 0)) && (decide ((level_Move.Sw m_1) < (r_0.l.length:Int)))) && (decide ((level_Move.Host m_1) >= 0)))then ((ixI (level_Move.Sw m_1) r_0.l.length).bind λn1=>
 some (decide ((level_Move.Host m_1) < (((gt r_0.l n1).l).length:Int)),(Sl.mk (r_0.l.set n1 (gt r_0.l n1)))))else
 (some (false,r_0)):Option (Bool×Sl (Sl Int))).bind λ(b2,s3)=>
 bif b2 then ((ixI (level_Move.Sw m_1) s3.l.length).bind λn4=>
 (ixI (level_Move.Host m_1) ((gt s3.l n4).l).length).bind λn5=>
 some (Sl.mk (s3.l.set n4 (Sl.mk (((gt s3.l n4).l).set n5 (level_Move.Port m_1))))))else
 (some s3)
noncomputable def sp71:Spc:=⟨[(true, .rw (.i .i64)),(false, .x y3)], [([], [.rw (.i .i64)])],false, [true,false],λp=>match p with | (r_0,m_1)=>q8l r_0 m_1⟩
theorem ok71:SpcOk prog 40 sp71:=q0o mixed glbok (sig:=sigN) (np:=2) (an:= [(3, { j:=some { vs:= [(0, .sr 0),(29, .x .b)],gs:=(.co (.sr 0) .ni),os:= [.rw (.i .i64)],kl:= [0] } })]) .nil (by kernel_rfl) (by kernel_rfl)
noncomputable def q34(l_1:Sl level_Move)(round_2:Int)(some_3:Sl Int):(Int×Sl (Sl Int))->Option ((Int×Sl (Sl Int)) ⊕ (Sl (Sl Int))):=λ(i5,s6)=>
 bif decide (i5 < (l_1.l.length:Int))then (((ixI i5 l_1.l.length).bind λn7=>
 (bif decide ((level_Move.Round (gt l_1.l n7)) < round_2)then (some true)else
 (bif ((level_Move.Round (gt l_1.l n7)) == round_2)then ((q09 some_3 (level_Move.Sw (gt l_1.l n7))).bind λr8=>
 some r8)else
 (some false)):Option Bool).bind λb9=>
 bif b9 then ((q8l s6 (gt l_1.l n7)).bind λs10=>
 (lenS s10 s6).bind λ_=>
 some s10)else
 (some s6):Option (Sl (Sl Int))).bind λs11=>
 some (.inl (wr .i64 (i5+1),s11)))else
 (some (.inr s6))
noncomputable def q1w(old_0:Sl (Sl Int))(l_1:Sl level_Move)(round_2:Int)(some_3:Sl Int):Option (Sl (Sl Int)):=
 (q6j old_0).bind λs1=>
 (loopO (q34 l_1 round_2 some_3) (0,s1)).bind λs12=>
 some s12
noncomputable def sp72:Spc:=⟨[(false, .x (.sl (.sl (.i .i64)))),(false, .x (.sl y3)),(false, .x (.i .i64)),(false, .x (.sl (.i .i64)))], [([.x (.sl (.sl (.i .i64)))], [])],false, [],λp=>match p with | (old_0,l_1,round_2,some_3)=>q1w old_0 l_1 round_2 some_3⟩
theorem ok72:SpcOk prog 18 sp72:=q0o mixed glbok (sig:=sig) (np:=4) (an:= [(7, { j:=some { vs:= [(9, .sr 0),(16, .x (.i .i64))],os:= [.rw (.i .i64)],kl:= [0] },e:= [(.exit 0, { vs:= [(9, .sr 0)],os:= [.rw (.i .i64)],kl:= [0] })] }),(11, { e:= [(.normal, { vs:= [(9, .sr 0)],os:= [.rw (.i .i64)],kl:= [1] })] }),(15, { j:=some { vs:= [(35, .x .b)] } })]) (.cons ok70 (.cons ok17 (.cons ok71 .nil))) (by kernel_rfl) (by kernel_rfl)
noncomputable def q3z(a_0:Sl (Sl Int))(b_1:Sl (Sl Int)):Int->Option (Int ⊕ (Bool ⊕ Unit)):=λi2=>
 bif decide (i2 < (a_0.l.length:Int))then ((ixI i2 a_0.l.length).bind λn3=>
 (ixI i2 b_1.l.length).bind λn4=>
 (q3c (gt a_0.l n3) (gt b_1.l n4)).bind λr5=>
 bif (!r5)then (some (.inr (.inl false)))else
 (some (.inl (wr .i64 (i2+1)))))else
 (some (.inr (.inr ())))
noncomputable def q7i(a_0:Sl (Sl Int))(b_1:Sl (Sl Int)):Option Bool:=
 bif ((a_0.l.length:Int) != (b_1.l.length:Int))then (some false)else
 ((loopO (q3z a_0 b_1) 0).bind fun
 | .inl b6=>(some b6)
 | .inr _=>(some true))
noncomputable def sp73:Spc:=⟨[(false, .x (.sl (.sl (.i .i64)))),(false, .x (.sl (.sl (.i .i64))))], [([.x .b], [])],true, [],λp=>match p with | (a_0,b_1)=>q7i a_0 b_1⟩
theorem ok73:SpcOk prog 19 sp73:=q0o mixed glbok (sig:=sig) (np:=2) (an:= [(10, { j:=some { vs:= [(5, .x (.i .i64))] },e:= [(.ret, { vs:= [(4, .x .b)] }),(.exit 0, {})] })]) (.cons ok29 .nil) (by kernel_rfl) (by kernel_rfl)
noncomputable def q11(t_0:api_Topo)(sw_4:Int)(r9:Sl (Sl Int))(r10:Sl (Sl Int))(r13:Sl api_Mod):(Int×Int)->Option ((Int×Int) ⊕ (Bool ⊕ Int)):=λ(i16,i17)=>
 bif decide (i17 < (((api_Topo.Hosts t_0).l).length:Int))then (((ixI sw_4 r9.l.length).bind λn18=>
 (ixI i17 ((gt r9.l n18).l).length).bind λn19=>
 (ixI sw_4 r10.l.length).bind λn20=>
 (ixI i17 ((gt r10.l n20).l).length).bind λn21=>
 bif ((gt ((gt r9.l n18).l) n19) != (gt ((gt r10.l n20).l) n21))then ((bif decide (i16 >= (r13.l.length:Int))then (some true)else
 ((ixI i16 r13.l.length).bind λn22=>
 bif ((((api_Rule.Acts (api_Mod.R (gt r13.l n22))).l).length:Int) != 1)then (some true)else
 ((ixI i16 r13.l.length).bind λn23=>
 (ixI 1 4).bind λn24=>
 bif ((gt ((api_Match.Val (api_Rule.M (api_Mod.R (gt r13.l n23)))).1) n24) != i17)then (some true)else
 ((ixI i16 r13.l.length).bind λn25=>
 (ixI 0 ((api_Rule.Acts (api_Mod.R (gt r13.l n25))).l).length).bind λn26=>
 (ixI sw_4 r10.l.length).bind λn27=>
 (ixI i17 ((gt r10.l n27).l).length).bind λn28=>
 some ((api_Act.V (gt ((api_Rule.Acts (api_Mod.R (gt r13.l n25))).l) n26)) != (gt ((gt r10.l n27).l) n28))))):Option Bool).bind λb29=>
 bif b29 then (some (.inr false))else
 (some (.inl (wr .i64 (i16+1)))))else
 (some (.inl i16)):Option (Int ⊕ Bool)).bind fun
 | .inl i30=>(some (.inl (i30,wr .i64 (i17+1))))
 | .inr b31=>(some (.inr (.inl b31))))else
 (some (.inr (.inr i16)))
noncomputable def q4j(t_0:api_Topo)(old_1:Sl (Sl Int))(now_2:Sl (Sl Int))(round_3:Int)(sw_4:Int):Option Bool:=
 ((q4l t_0 old_1).bind λr1=>
 bif (!r1)then (some true)else
 ((q4l t_0 now_2).bind λr2=>
 bif (!r2)then (some true)else
 ((q5q t_0 old_1).bind λr3=>
 bif (!r3)then (some true)else
 ((q5q t_0 now_2).bind λr4=>
 some (((((!r4) || (decide (sw_4 < 0))) || (decide (sw_4 >= (api_Topo.Switches t_0)))) || (decide (round_3 < (-100)))) || (decide (round_3 > 100)))))):Option Bool).bind λb5=>
 bif b5 then ((q2p).bind λr6=>
 some r6)else
 ((q2n t_0 old_1 now_2).bind λ(r7,r8)=>
 (q1w old_1 r7 round_3 Sl.nil).bind λr9=>
 (q1w old_1 r7 round_3 (Sl.mk [0,1,2,3,4,5,6,7])).bind λr10=>
 (q1w old_1 r7 (wr .i64 (round_3+1)) Sl.nil).bind λr11=>
 (q7i r10 r11).bind λr12=>
 bif (((!r12) || ((r9.l.length:Int) != (api_Topo.Switches t_0))) || ((r10.l.length:Int) != (api_Topo.Switches t_0)))then (some false)else
 ((q7a r7 round_3 sw_4).bind λr13=>
 (loopO (q11 t_0 sw_4 r9 r10 r13) (0,0)).bind fun
 | .inl b32=>(some b32)
 | .inr i33=>((bif (i33 == (r13.l.length:Int))then ((q2p).bind λr34=>
 some r34)else
 (some false):Option Bool).bind λb35=>
 some b35)))
noncomputable def sp75:Spc:=⟨[(false, .x y0),(false, .x (.sl (.sl (.i .i64)))),(false, .x (.sl (.sl (.i .i64)))),(false, .x (.i .i64)),(false, .x (.i .i64))], [([.x .b], [])],true, [],λp=>match p with | (t_0,old_1,now_2,round_3,sw_4)=>q4j t_0 old_1 now_2 round_3 sw_4⟩
theorem ok75:SpcOk prog 5 sp75:=q0o mixed glbok (sig:=sig) (np:=5) (an:= [(4, { j:=some { vs:= [(57, .x .b)] } }),(23, { j:=some { vs:= [(16, .x (.i .i64)),(17, .x (.i .i64))] },e:= [(.ret, { vs:= [(10, .x .b)] }),(.exit 0, { vs:= [(16, .x (.i .i64))] })] }),(27, { e:= [(.normal, { vs:= [(16, .x (.i .i64))] }),(.ret, { vs:= [(10, .x .b)] })] }),(32, { j:=some { vs:= [(167, .x .b)] } }),(38, { j:=some { vs:= [(10, .x .b)] } })]) (.cons ok0 (.cons ok8 (.cons ok30 (.cons ok25 (.cons ok72 (.cons ok73 (.cons ok54 .nil))))))) (by kernel_rfl) (by kernel_rfl)
end Go.Proofs.Ythcplpfiidlinaa.L
