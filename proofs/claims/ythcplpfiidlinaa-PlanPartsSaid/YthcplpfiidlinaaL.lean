/- What functions of the program compute, and that the model's run computes it. Conditions: as stated. -/
import Derived.Test.YthcplpfiidlinaaLS
import Derived.Test.YthcplpfiidlinaaChecked
import Derived.KernelRfl
open Go.Ev Go
namespace Go.Proofs.Ythcplpfiidlinaa.L
noncomputable abbrev prog:Program:=Try.prog
theorem mixed:prog.follows .mixedOrders=true:=by kernel_rfl
theorem glbok:GlbOk:=qso λ_=>rfl
def sig:Sig:=λf=>
 if f=3 then (true, [])else if f=4 then (true, [])else if f=5 then (true, [])else if f=6 then (true, [])else if f=7 then (true, [])else if f=8 then (true, [])else if f=9 then (true, [])else if f=10 then (true, [])else if f=11 then (true, [])else if f=12 then (true, [])else if f=15 then (true, [])else if f=16 then (true, [])else if f=17 then (true, [])else if f=19 then (true, [])else if f=21 then (true, [])else if f=24 then (true, [])else if f=25 then (true, [])else if f=26 then (true, [])else if f=27 then (true, [])else if f=29 then (true, [])else if f=30 then (true, [])else if f=32 then (true, [])else if f=35 then (false, [true,false])else if f=37 then (true, [])else if f=38 then (true, [])else if f=40 then (false, [true,false])else if f=42 then (true, [])else if f=43 then (true, [])else if f=47 then (true, [])else if f=49 then (true, [])else if f=50 then (true, [])else if f=51 then (true, [])else if f=52 then (true, [])else if f=53 then (true, [])else if f=54 then (false, [true])else if f=55 then (false, [true])else if f=61 then (true, [])else if f=62 then (true, [])else if f=63 then (true, [])else if f=64 then (true, [])else if f=68 then (true, [])else if f=70 then (true, [])else if f=71 then (true, [])else if f=72 then (true, [])else if f=74 then (true, [])else if f=75 then (true, [])else if f=76 then (true, [])else if f=89 then (true, [])else if f=90 then (true, [])else if f=91 then (true, [])else if f=93 then (true, [])else if f=103 then (true, [])else if f=109 then (true, [])else if f=110 then (true, [])else if f=111 then (true, [])else if f=112 then (true, [])else if f=117 then (true, [])else if f=118 then (true, [])else (false, [])
def sigN:Sig:=λf=>if f=1000000000 then (true, [])else sig f
@[reducible] def api_Link:Type:=Int×Int×Int×Int×Int×Int
@[reducible] def api_Link.A (x:api_Link):Int:=x.1
@[reducible] def api_Link.PortA (x:api_Link):Int:=x.2.1
@[reducible] def api_Link.B (x:api_Link):Int:=x.2.2.1
@[reducible] def api_Link.PortB (x:api_Link):Int:=x.2.2.2.1
@[reducible] def api_Link.Least (x:api_Link):Int:=x.2.2.2.2.1
@[reducible] def api_Link.Most (x:api_Link):Int:=x.2.2.2.2.2
@[reducible] def api_Host:Type:=Int×Int
@[reducible] def api_Host.At (x:api_Host):Int:=x.1
@[reducible] def api_Host.Port (x:api_Host):Int:=x.2
@[reducible] def api_Topo:Type:=Int×Sl api_Link×Sl api_Host
@[reducible] def api_Topo.Switches (x:api_Topo):Int:=x.1
@[reducible] def api_Topo.Links (x:api_Topo):Sl api_Link:=x.2.1
@[reducible] def api_Topo.Hosts (x:api_Topo):Sl api_Host:=x.2.2
@[reducible] def y1:Ty:= .st (.pr (.i .i64) (.pr (.i .i64) (.pr (.i .i64) (.pr (.i .i64) (.pr (.i .i64) (.i .i64))))))
@[reducible] def y2:Ty:= .st (.pr (.i .i64) (.i .i64))
@[reducible] def y0:Ty:= .st (.pr (.i .i64) (.pr (.sl y1) (.sl y2)))
@[reducible] def topo_place:Type:=Int×Int
@[reducible] def topo_place.sw (x:topo_place):Int:=x.1
@[reducible] def topo_place.port (x:topo_place):Int:=x.2
@[reducible] def level_Move:Type:=Int×Int×Int×Int
@[reducible] def level_Move.Sw (x:level_Move):Int:=x.1
@[reducible] def level_Move.Host (x:level_Move):Int:=x.2.1
@[reducible] def level_Move.Port (x:level_Move):Int:=x.2.2.1
@[reducible] def level_Move.Round (x:level_Move):Int:=x.2.2.2
@[reducible] def y3:Ty:= .st (.pr (.i .i64) (.pr (.i .i64) (.pr (.i .i64) (.i .i64))))
@[reducible] def plan_Round:Type:=Int×Int×Sl Int
@[reducible] def plan_Round.No (x:plan_Round):Int:=x.1
@[reducible] def plan_Round.At (x:plan_Round):Int:=x.2.1
@[reducible] def plan_Round.Sws (x:plan_Round):Sl Int:=x.2.2
@[reducible] def plan_Plan:Type:=Sl level_Move×Sl plan_Round×Int×Int×Int×Int
@[reducible] def plan_Plan.Moves (x:plan_Plan):Sl level_Move:=x.1
@[reducible] def plan_Plan.Rounds (x:plan_Plan):Sl plan_Round:=x.2.1
@[reducible] def plan_Plan.From (x:plan_Plan):Int:=x.2.2.2.2.1
@[reducible] def plan_Plan.To (x:plan_Plan):Int:=x.2.2.2.2.2
@[reducible] def diff_After:Type:=Int×Int×Int
@[reducible] def diff_After.I (x:diff_After):Int:=x.1
@[reducible] def diff_After.J (x:diff_After):Int:=x.2.1
@[reducible] def diff_After.Gap (x:diff_After):Int:=x.2.2
@[reducible] def y4:Ty:= .st (.pr (.i .i64) (.pr (.i .i64) (.i .i64)))
@[reducible] def y6:Ty:= .st (.pr (.i .i64) (.pr (.i .i64) (.sl (.i .i64))))
@[reducible] def y5:Ty:= .st (.pr (.sl y3) (.pr (.sl y6) (.pr (.i .i64) (.pr (.i .i64) (.pr (.i .i64) (.i .i64))))))
@[reducible] def y7:Ty:= .st (.pr (.i .i64) (.pr (.ar 4 (.i .i64)) (.ar 4 (.i .i64))))
@[reducible] def api_Match:Type:=Int×Arr 4 Int×Arr 4 Int
@[reducible] def api_Match.Port (x:api_Match):Int:=x.1
@[reducible] def api_Match.Val (x:api_Match):Arr 4 Int:=x.2.1
@[reducible] def api_Match.Mask (x:api_Match):Arr 4 Int:=x.2.2
@[reducible] def api_Act:Type:=Int×Int×Int
@[reducible] def api_Rule:Type:=Int×api_Match×Sl api_Act
@[reducible] def api_Rule.Prio (x:api_Rule):Int:=x.1
@[reducible] def api_Rule.M (x:api_Rule):api_Match:=x.2.1
@[reducible] def api_Rule.Acts (x:api_Rule):Sl api_Act:=x.2.2
@[reducible] def y8:Ty:= .st (.pr (.i .i64) (.pr y7 (.sl y4)))
@[reducible] def api_Mod:Type:=Int×api_Rule×Bool
@[reducible] def api_Mod.Kind (x:api_Mod):Int:=x.1
@[reducible] def api_Mod.R (x:api_Mod):api_Rule:=x.2.1
@[reducible] def api_Mod.Check (x:api_Mod):Bool:=x.2.2
@[reducible] def y9:Ty:= .st (.pr (.i .i64) (.pr y8 .b))
@[reducible] def plan_Part:Type:=Int×Sl api_Mod
@[reducible] def plan_Part.Sw (x:plan_Part):Int:=x.1
@[reducible] def plan_Part.Mods (x:plan_Part):Sl api_Mod:=x.2
@[reducible] def y10:Ty:= .st (.pr (.i .i64) (.sl y9))
noncomputable def q3y(r_1:Sl (Sl Int)):Int->Option (Int ⊕ (Bool ⊕ Unit)):=λi2=>
 bif decide (i2 < (r_1.l.length:Int))then ((ixI i2 r_1.l.length).bind λn3=>
 bif decide ((((gt r_1.l n3).l).length:Int) > 12)then (some (.inr (.inl false)))else
 (some (.inl (wr .i64 (i2+1)))))else
 (some (.inr (.inr ())))
noncomputable def q4q(t_0:api_Topo)(r_1:Sl (Sl Int)):Option Bool:=
 (loopO (q3y r_1) 0).bind fun
 | .inl b4=>(some b4)
 | .inr _=>(some (((decide ((((api_Topo.Links t_0).l).length:Int)<=30)) && (decide ((((api_Topo.Hosts t_0).l).length:Int)<=12))) && (decide ((r_1.l.length:Int)<=12))))
noncomputable def sp0:Spc:=⟨[(false, .x y0),(false, .x (.sl (.sl (.i .i64))))], [([.x .b], [])],true, [],λp=>match p with | (t_0,r_1)=>q4q t_0 r_1⟩
theorem ok0:SpcOk prog 10 sp0:=q0f mixed glbok (sig:=sig) (np:=2) (an:= [(5, { j:=some { vs:= [(5, .x (.i .i64))] },e:= [(.ret, { vs:= [(4, .x .b)] }),(.exit 0, {})] })]) .nil (by kernel_rfl) (by kernel_rfl)
noncomputable def q31(t_0:api_Topo):(Int×Sl topo_place)->Option ((Int×Sl topo_place) ⊕ (Sl topo_place)):=λ(i4,s5)=>
 bif decide (i4 < (((api_Topo.Links t_0).l).length:Int))then ((ixI i4 ((api_Topo.Links t_0).l).length).bind λn6=>
 (capI (s5.l++ [(⟨api_Link.A (gt ((api_Topo.Links t_0).l) n6),api_Link.PortA (gt ((api_Topo.Links t_0).l) n6)⟩:topo_place),(⟨api_Link.B (gt ((api_Topo.Links t_0).l) n6),api_Link.PortB (gt ((api_Topo.Links t_0).l) n6)⟩:topo_place)])).bind λl7=>
 some (.inl (wr .i64 (i4+1),(Sl.mk l7))))else
 (some (.inr s5))
noncomputable def q2y(t_0:api_Topo):(Int×Sl topo_place)->Option ((Int×Sl topo_place) ⊕ (Sl topo_place)):=λ(i11,s12)=>
 bif decide (i11 < (((api_Topo.Hosts t_0).l).length:Int))then ((ixI i11 ((api_Topo.Hosts t_0).l).length).bind λn13=>
 (capI (s12.l++ [gt ((api_Topo.Hosts t_0).l) n13])).bind λl14=>
 some (.inl (wr .i64 (i11+1),(Sl.mk l14))))else
 (some (.inr s12))
noncomputable def q3p(t_0:api_Topo):Option (Sl topo_place):=
 (loopO (q31 t_0) (0,Sl.nil)).bind λs8=>
 (loopO (q2y t_0) (0,s8)).bind λs15=>
 some s15
noncomputable def sp9:Spc:=⟨[(false, .x y0)], [([.x (.sl y2)], [])],false, [],λp=>match p with | t_0=>q3p t_0⟩
theorem ok9:SpcOk prog 88 sp9:=q0f mixed glbok (sig:=sig) (np:=1) (an:= [(7, { j:=some { vs:= [(3, .so 0),(11, .x (.i .i64))],os:= [.ar y2] },e:= [(.exit 0, { vs:= [(3, .so 0)],os:= [.ar y2] })] }),(19, { j:=some { vs:= [(3, .so 0),(32, .x (.i .i64))],os:= [.ar y2],kl:= [1] },e:= [(.exit 2, { vs:= [(3, .so 0)],os:= [.ar y2],kl:= [1] })] })]) .nil (by kernel_rfl) (by kernel_rfl)
noncomputable def q3b(t_0:api_Topo):Int->Option (Int ⊕ (Bool ⊕ Unit)):=λi2=>
 bif decide (i2 < (((api_Topo.Links t_0).l).length:Int))then ((ixI i2 ((api_Topo.Links t_0).l).length).bind λn3=>
 bif (((((api_Link.A (gt ((api_Topo.Links t_0).l) n3)) == (api_Link.B (gt ((api_Topo.Links t_0).l) n3))) || (decide ((api_Link.Least (gt ((api_Topo.Links t_0).l) n3)) < 1))) || (decide ((api_Link.Least (gt ((api_Topo.Links t_0).l) n3)) > (api_Link.Most (gt ((api_Topo.Links t_0).l) n3))))) || (decide ((api_Link.Most (gt ((api_Topo.Links t_0).l) n3)) > 1000)))then (some (.inr (.inl false)))else
 (some (.inl (wr .i64 (i2+1)))))else
 (some (.inr (.inr ())))
noncomputable def q1l(t_0:api_Topo)(r5:Sl topo_place):(Int×Mp topo_place Int)->Option ((Int×Mp topo_place Int) ⊕ (Bool ⊕ Unit)):=λ(i9,m10)=>
 bif decide (i9 < (r5.l.length:Int))then ((ixI i9 r5.l.length).bind λn11=>
 (mpSet ((mpEnt m10 0 (gt r5.l n11)).1) ((mpEnt m10 0 (gt r5.l n11)).2.2) (wr .i64 ((mpGet m10 0 (gt r5.l n11))+1))).bind λm12=>
 bif (((((decide ((topo_place.sw (gt r5.l n11)) < 0)) || (decide ((topo_place.sw (gt r5.l n11)) >= (api_Topo.Switches t_0)))) || (decide ((topo_place.port (gt r5.l n11)) < 0))) || (decide ((topo_place.port (gt r5.l n11)) >= 8))) || (decide ((mpGet m12 0 (gt r5.l n11)) > 1)))then (some (.inr (.inl false)))else
 (some (.inl (wr .i64 (i9+1),m12))))else
 (some (.inr (.inr ())))
noncomputable def q4g(t_0:api_Topo):Option Bool:=
 bif ((((decide ((api_Topo.Switches t_0) < 1)) || (decide ((api_Topo.Switches t_0) > 8))) || (decide ((((api_Topo.Links t_0).l).length:Int) > 24))) || (decide ((((api_Topo.Hosts t_0).l).length:Int) > 8)))then (some false)else
 ((loopO (q3b t_0) 0).bind fun
 | .inl b4=>(some b4)
 | .inr _=>((q3p t_0).bind λr5=>
 (loopO (q1l t_0 r5) (0,(Mp.none:Mp topo_place Int))).bind fun
 | .inl b13=>(some b13)
 | .inr _=>(some true)))
noncomputable def sp10:Spc:=⟨[(false, .x y0)], [([.x .b], [])],true, [],λp=>match p with | t_0=>q4g t_0⟩
theorem ok10:SpcOk prog 61 sp10:=q0f mixed glbok (sig:=sig) (np:=1) (an:= [(10, { j:=some { vs:= [(31, .x (.i .i64))] },e:= [(.ret, { vs:= [(2, .x .b)] }),(.exit 0, {})] }),(27, { j:=some { vs:= [(5, .om 0),(62, .x (.i .i64))],os:= [.mp y2 (.i .i64)],kl:= [1] },e:= [(.ret, { vs:= [(2, .x .b)],kl:= [1] }),(.exit 2, { kl:= [1] })] })]) (.cons ok9 .nil) (by kernel_rfl) (by kernel_rfl)
noncomputable def q5x(p_0:Int):Option Bool:=
 some ((decide (p_0 < 0)) || (decide (p_0 >= 8)))
noncomputable def sp11:Spc:=⟨[(false, .x (.i .i64))], [([.x .b], [])],true, [],λp=>match p with | p_0=>q5x p_0⟩
theorem ok11:SpcOk prog 63 sp11:=q0f mixed glbok (sig:=sig) (np:=1) (an:= []) .nil (by kernel_rfl) (by kernel_rfl)
noncomputable def q07(s_0:Sl Int):Int->Option (Int ⊕ (Int ⊕ Unit)):=λi2=>
 bif decide (i2 < (s_0.l.length:Int))then ((ixI i2 s_0.l.length).bind λn3=>
 (q5x (gt s_0.l n3)).bind λr4=>
 bif r4 then (some (.inr (.inl i2)))else
 (some (.inl (wr .i64 (i2+1)))))else
 (some (.inr (.inr ())))
noncomputable def q0b(s_0:Sl Int):Option Int:=
 (loopO (q07 s_0) 0).bind fun
 | .inl i5=>(some i5)
 | .inr _=>(some (-1))
noncomputable def sp12:Spc:=⟨[(false, .x (.sl (.i .i64))),(false, .fn 63 .ni)], [([.x (.i .i64)], [])],true, [],λp=>match p with | s_0=>q0b s_0⟩
theorem ok12:SpcOk prog 89 sp12:=q0f mixed glbok (sig:=sig) (np:=2) (an:= [(5, { j:=some { vs:= [(8, .x (.i .i64))] },e:= [(.ret, { vs:= [(4, .x (.i .i64))] }),(.exit 0, {})] })]) (.cons ok11 .nil) (by kernel_rfl) (by kernel_rfl)
noncomputable def q04(s_0:Sl Int):Option Bool:=
 (q0b s_0).bind λr1=>
 some (decide (r1 >= 0))
noncomputable def sp13:Spc:=⟨[(false, .x (.sl (.i .i64))),(false, .fn 63 .ni)], [([.x .b], [])],true, [],λp=>match p with | s_0=>q04 s_0⟩
theorem ok13:SpcOk prog 62 sp13:=q0f mixed glbok (sig:=sig) (np:=2) (an:= []) (.cons ok12 .nil) (by kernel_rfl) (by kernel_rfl)
noncomputable def q2c(t_0:api_Topo)(r_1:Sl (Sl Int)):Int->Option (Int ⊕ (Bool ⊕ Unit)):=λi3=>
 bif decide (i3 < (r_1.l.length:Int))then ((ixI i3 r_1.l.length).bind λn4=>
 (bif ((((gt r_1.l n4).l).length:Int) != (((api_Topo.Hosts t_0).l).length:Int))then (some true)else
 ((q04 (gt r_1.l n4)).bind λr5=>
 some r5):Option Bool).bind λb6=>
 bif b6 then (some (.inr (.inl false)))else
 (some (.inl (wr .i64 (i3+1)))))else
 (some (.inr (.inr ())))
noncomputable def q26(t_0:api_Topo)(r_1:Sl (Sl Int)):Option Bool:=
 (q4g t_0).bind λr1=>
 bif ((!r1) || ((r_1.l.length:Int) != (api_Topo.Switches t_0)))then (some false)else
 ((loopO (q2c t_0 r_1) 0).bind fun
 | .inl b7=>(some b7)
 | .inr _=>(some true))
noncomputable def sp14:Spc:=⟨[(false, .x y0),(false, .x (.sl (.sl (.i .i64))))], [([.x .b], [])],true, [],λp=>match p with | (t_0,r_1)=>q26 t_0 r_1⟩
theorem ok14:SpcOk prog 37 sp14:=q0f mixed glbok (sig:=sig) (np:=2) (an:= [(10, { j:=some { vs:= [(19, .x (.i .i64))] },e:= [(.ret, { vs:= [(4, .x .b)] }),(.exit 0, {})] }),(18, { j:=some { vs:= [(32, .x .b)] } })]) (.cons ok10 (.cons ok13 .nil)) (by kernel_rfl) (by kernel_rfl)
noncomputable def q3n(r_0:Sl (Sl Int))(sw_1:Int)(h_2:Int):Option (Int×Bool):=
 (bif (((decide (sw_1 < 0)) || (decide (sw_1 >= (r_0.l.length:Int)))) || (decide (h_2 < 0)))then (some true)else
 ((ixI sw_1 r_0.l.length).bind λn1=>
 some (decide (h_2 >= (((gt r_0.l n1).l).length:Int)))):Option Bool).bind λb2=>
 bif b2 then (some (0,false))else
 ((ixI sw_1 r_0.l.length).bind λn3=>
 (ixI h_2 ((gt r_0.l n3).l).length).bind λn4=>
 some (gt ((gt r_0.l n3).l) n4,true))
noncomputable def sp15:Spc:=⟨[(false, .x (.sl (.sl (.i .i64)))),(false, .x (.i .i64)),(false, .x (.i .i64))], [([.x (.i .i64), .x .b], [])],true, [],λp=>match p with | (r_0,sw_1,h_2)=>q3n r_0 sw_1 h_2⟩
theorem ok15:SpcOk prog 74 sp15:=q0f mixed glbok (sig:=sig) (np:=3) (an:= [(4, { j:=some { vs:= [(28, .x .b)] } })]) .nil (by kernel_rfl) (by kernel_rfl)
noncomputable def q0w(s_0:Sl Int)(v_1:Int):Int->Option (Int ⊕ (Int ⊕ Unit)):=λi2=>
 bif decide (i2 < (s_0.l.length:Int))then ((ixI i2 s_0.l.length).bind λn3=>
 bif (v_1 == (gt s_0.l n3))then (some (.inr (.inl i2)))else
 (some (.inl (wr .i64 (i2+1)))))else
 (some (.inr (.inr ())))
noncomputable def q19(s_0:Sl Int)(v_1:Int):Option Int:=
 (loopO (q0w s_0 v_1) 0).bind fun
 | .inl i4=>(some i4)
 | .inr _=>(some (-1))
noncomputable def sp16:Spc:=⟨[(false, .x (.sl (.i .i64))),(false, .x (.i .i64))], [([.x (.i .i64)], [])],true, [],λp=>match p with | (s_0,v_1)=>q19 s_0 v_1⟩
theorem ok16:SpcOk prog 64 sp16:=q0f mixed glbok (sig:=sig) (np:=2) (an:= [(5, { j:=some { vs:= [(8, .x (.i .i64))] },e:= [(.ret, { vs:= [(4, .x (.i .i64))] }),(.exit 0, {})] })]) .nil (by kernel_rfl) (by kernel_rfl)
noncomputable def q0d(s_0:Sl Int)(v_1:Int):Option Bool:=
 (q19 s_0 v_1).bind λr1=>
 some (decide (r1 >= 0))
noncomputable def sp17:Spc:=⟨[(false, .x (.sl (.i .i64))),(false, .x (.i .i64))], [([.x .b], [])],true, [],λp=>match p with | (s_0,v_1)=>q0d s_0 v_1⟩
theorem ok17:SpcOk prog 38 sp17:=q0f mixed glbok (sig:=sig) (np:=2) (an:= []) (.cons ok16 .nil) (by kernel_rfl) (by kernel_rfl)
noncomputable def q1h(l_0:Sl Int):Option Bool:=
 (bif decide ((l_0.l.length:Int) > 0)then ((cutI l_0.l 0 (wr .i64 ((l_0.l.length:Int) - 1))).bind λl1=>
 (ixI (wr .i64 ((l_0.l.length:Int) - 1)) l_0.l.length).bind λn2=>
 (q0d (l_0.to l1) (gt l_0.l n2)).bind λr3=>
 some r3)else
 (some false):Option Bool).bind λb4=>
 some b4
noncomputable def sp18:Spc:=⟨[(false, .x (.sl (.i .i64)))], [([.x .b], [])],true, [],λp=>match p with | l_0=>q1h l_0⟩
theorem ok18:SpcOk prog 75 sp18:=q0f mixed glbok (sig:=sig) (np:=1) (an:= [(3, { j:=some { vs:= [(2, .x .b)] } })]) (.cons ok17 .nil) (by kernel_rfl) (by kernel_rfl)
noncomputable def q42(t_0:api_Topo)(sw_1:Int)(port_2:Int):Int->Option (Int ⊕ ((Int×Int×Int×Bool) ⊕ Unit)):=λi2=>
 bif decide (i2 < (((api_Topo.Links t_0).l).length:Int))then ((ixI i2 ((api_Topo.Links t_0).l).length).bind λn3=>
 bif decide ((⟨sw_1,port_2⟩:topo_place)=(⟨api_Link.A (gt ((api_Topo.Links t_0).l) n3),api_Link.PortA (gt ((api_Topo.Links t_0).l) n3)⟩:topo_place))then (some (.inr (.inl (api_Link.B (gt ((api_Topo.Links t_0).l) n3),api_Link.PortB (gt ((api_Topo.Links t_0).l) n3),i2,true))))else
 (bif decide ((⟨sw_1,port_2⟩:topo_place)=(⟨api_Link.B (gt ((api_Topo.Links t_0).l) n3),api_Link.PortB (gt ((api_Topo.Links t_0).l) n3)⟩:topo_place))then (some (.inr (.inl (api_Link.A (gt ((api_Topo.Links t_0).l) n3),api_Link.PortA (gt ((api_Topo.Links t_0).l) n3),i2,true))))else
 (some (.inl (wr .i64 (i2+1))))))else
 (some (.inr (.inr ())))
noncomputable def q5u(t_0:api_Topo)(sw_1:Int)(port_2:Int):Option (Int×Int×Int×Bool):=
 (loopO (q42 t_0 sw_1 port_2) 0).bind fun
 | .inl (i4,i5,i6,b7)=>(some (i4,i5,i6,b7))
 | .inr _=>(some (0,0,0,false))
noncomputable def sp19:Spc:=⟨[(false, .x y0),(false, .x (.i .i64)),(false, .x (.i .i64))], [([.x (.i .i64), .x (.i .i64), .x (.i .i64), .x .b], [])],true, [],λp=>match p with | (t_0,sw_1,port_2)=>q5u t_0 sw_1 port_2⟩
theorem ok19:SpcOk prog 103 sp19:=q0f mixed glbok (sig:=sig) (np:=3) (an:= [(7, { j:=some { vs:= [(21, .x (.i .i64))] },e:= [(.ret, { vs:= [(6, .x (.i .i64)),(7, .x (.i .i64)),(8, .x (.i .i64)),(9, .x .b)] }),(.exit 0, {})] })]) .nil (by kernel_rfl) (by kernel_rfl)
noncomputable def q4h(t_0:api_Topo)(r_1:Sl (Sl Int))(sw_2:Int)(h_3:Int):Option (Int×Bool):=
 (q3n r_1 sw_2 h_3).bind λ(r1,r2)=>
 bif (!r2)then (some (0,false))else
 ((q5u t_0 sw_2 r1).bind λ(r3,r4,r5,r6)=>
 some (r3,r6))
noncomputable def sp20:Spc:=⟨[(false, .x y0),(false, .x (.sl (.sl (.i .i64)))),(false, .x (.i .i64)),(false, .x (.i .i64))], [([.x (.i .i64), .x .b], [])],true, [],λp=>match p with | (t_0,r_1,sw_2,h_3)=>q4h t_0 r_1 sw_2 h_3⟩
theorem ok20:SpcOk prog 76 sp20:=q0f mixed glbok (sig:=sig) (np:=4) (an:= []) (.cons ok15 (.cons ok19 .nil)) (by kernel_rfl) (by kernel_rfl)
noncomputable def q0k(t_0:api_Topo)(r_1:Sl (Sl Int))(h_3:Int):(Sl Int)->Option (Sl Int ⊕ ((Int×Sl Int) ⊕ Unit)):=λs6=>
 (q1h s6).bind λr7=>
 bif (!r7)then ((ixI (wr .i64 ((s6.l.length:Int) - 1)) s6.l.length).bind λn8=>
 (ixI h_3 ((api_Topo.Hosts t_0).l).length).bind λn9=>
 (ixI (gt s6.l n8) r_1.l.length).bind λn10=>
 (ixI h_3 ((gt r_1.l n10).l).length).bind λn11=>
 bif decide ((gt ((api_Topo.Hosts t_0).l) n9)=(⟨gt s6.l n8,gt ((gt r_1.l n10).l) n11⟩:api_Host))then (some (.inr (.inl (0,s6))))else
 ((q4h t_0 r_1 (gt s6.l n8) h_3).bind λ(r12,r13)=>
 bif (!r13)then (some (.inr (.inl (13,Sl.nil))))else
 ((capI (s6.l++ [r12])).bind λl14=>
 some (.inl (Sl.mk l14)))))else
 (some (.inr (.inr ())))
noncomputable def q2d(t_0:api_Topo)(r_1:Sl (Sl Int))(sw_2:Int)(h_3:Int):Option (Sl Int×Int):=
 (q3n r_1 sw_2 h_3).bind λ(r1,r2)=>
 (bif (!r2)then (some true)else
 ((q26 t_0 r_1).bind λr3=>
 some (!r3)):Option Bool).bind λb4=>
 bif b4 then (some (Sl.nil,2))else
 ((loopO (q0k t_0 r_1 h_3) (Sl.mk [sw_2])).bind fun
 | .inl (i15,s16)=>(some (s16,i15))
 | .inr _=>(some (Sl.nil,12)))
noncomputable def sp21:Spc:=⟨[(false, .x y0),(false, .x (.sl (.sl (.i .i64)))),(false, .x (.i .i64)),(false, .x (.i .i64))], [([.x (.sl (.i .i64)), .x (.i .i64)], [])],false, [],λp=>match p with | (t_0,r_1,sw_2,h_3)=>q2d t_0 r_1 sw_2 h_3⟩
theorem ok21:SpcOk prog 56 sp21:=q0f mixed glbok (sig:=sig) (np:=4) (an:= [(6, { j:=some { vs:= [(30, .x .b)] } }),(12, { j:=some { vs:= [(12, .so 0)],os:= [.ar (.i .i64)],kl:= [3] },e:= [(.ret, { vs:= [(8, .so 0),(9, .x (.i .i64))],os:= [.ar (.i .i64)],kl:= [3] }),(.exit 0, { kl:= [3] })] })]) (.cons ok15 (.cons ok14 (.cons ok18 (.cons ok20 .nil)))) (by kernel_rfl) (by kernel_rfl)
noncomputable def q14(t_0:api_Topo)(r_1:Sl (Sl Int))(h_2:Int):(Int×Sl Int)->Option ((Int×Sl Int) ⊕ (Sl Int)):=λ(i5,s6)=>
 bif decide (i5 < (r_1.l.length:Int))then ((q2d t_0 r_1 i5 h_2).bind λ(r7,r8)=>
 (capI (s6.l++ [wr .i64 ((r7.l.length:Int) - 1)])).bind λl9=>
 some (.inl (wr .i64 (i5+1),(Sl.mk l9))))else
 (some (.inr s6))
noncomputable def q3a(t_0:api_Topo)(r_1:Sl (Sl Int))(h_2:Int):Option (Sl Int):=
 (q26 t_0 r_1).bind λr1=>
 bif (((!r1) || (decide (h_2 < 0))) || (decide (h_2 >= (((api_Topo.Hosts t_0).l).length:Int))))then (some Sl.nil)else
 ((loopO (q14 t_0 r_1 h_2) (0,Sl.nil)).bind λs10=>
 some s10)
noncomputable def sp22:Spc:=⟨[(false, .x y0),(false, .x (.sl (.sl (.i .i64)))),(false, .x (.i .i64))], [([.x (.sl (.i .i64))], [])],false, [],λp=>match p with | (t_0,r_1,h_2)=>q3a t_0 r_1 h_2⟩
theorem ok22:SpcOk prog 34 sp22:=q0f mixed glbok (sig:=sig) (np:=3) (an:= [(12, { j:=some { vs:= [(7, .so 0),(28, .x (.i .i64))],os:= [.ar (.i .i64)] },e:= [(.exit 0, { vs:= [(7, .so 0)],os:= [.ar (.i .i64)] })] })]) (.cons ok14 (.cons ok21 .nil)) (by kernel_rfl) (by kernel_rfl)
noncomputable def q1b(t_0:api_Topo)(r_1:Sl (Sl Int)):Int->Option (Int ⊕ (Bool ⊕ Unit)):=λi3=>
 bif decide (i3 < (((api_Topo.Hosts t_0).l).length:Int))then ((q3a t_0 r_1 i3).bind λr4=>
 (q0d r4 (-1)).bind λr5=>
 bif r5 then (some (.inr (.inl false)))else
 (some (.inl (wr .i64 (i3+1)))))else
 (some (.inr (.inr ())))
noncomputable def q29(t_0:api_Topo)(r_1:Sl (Sl Int)):Option Bool:=
 (q26 t_0 r_1).bind λr1=>
 bif (!r1)then (some false)else
 ((loopO (q1b t_0 r_1) 0).bind fun
 | .inl b6=>(some b6)
 | .inr _=>(some true))
noncomputable def sp23:Spc:=⟨[(false, .x y0),(false, .x (.sl (.sl (.i .i64))))], [([.x .b], [])],true, [],λp=>match p with | (t_0,r_1)=>q29 t_0 r_1⟩
theorem ok23:SpcOk prog 17 sp23:=q0f mixed glbok (sig:=sig) (np:=2) (an:= [(10, { j:=some { vs:= [(13, .x (.i .i64))] },e:= [(.ret, { vs:= [(4, .x .b)] }),(.exit 0, {})] })]) (.cons ok14 (.cons ok22 (.cons ok17 .nil))) (by kernel_rfl) (by kernel_rfl)
theorem ok24:SpcOk prog 35 (qhr y3 36 srtMv):=qn1
noncomputable def q1q(old_1:Sl (Sl Int))(now_2:Sl (Sl Int))(i7:Int)(r9:Sl Int):(Int×Sl level_Move)->Option ((Int×Sl level_Move) ⊕ (Sl level_Move)):=λ(i12,s13)=>
 bif decide (i12 < (now_2.l.length:Int))then (((ixI i12 now_2.l.length).bind λn14=>
 (ixI i7 ((gt now_2.l n14).l).length).bind λn15=>
 (ixI i12 old_1.l.length).bind λn16=>
 (ixI i7 ((gt old_1.l n16).l).length).bind λn17=>
 bif ((gt ((gt now_2.l n14).l) n15) != (gt ((gt old_1.l n16).l) n17))then ((ixI i12 now_2.l.length).bind λn18=>
 (ixI i7 ((gt now_2.l n18).l).length).bind λn19=>
 (ixI i12 r9.l.length).bind λn20=>
 (capI (s13.l++ [(⟨i12,i7,gt ((gt now_2.l n18).l) n19,gt r9.l n20⟩:level_Move)])).bind λl21=>
 some (Sl.mk l21))else
 (some s13):Option (Sl level_Move)).bind λs22=>
 some (.inl (wr .i64 (i12+1),s22)))else
 (some (.inr s13))
noncomputable def q28(t_0:api_Topo)(old_1:Sl (Sl Int))(now_2:Sl (Sl Int)):(Int×Sl level_Move)->Option ((Int×Sl level_Move) ⊕ (Sl level_Move)):=λ(i7,s8)=>
 bif decide (i7 < (((api_Topo.Hosts t_0).l).length:Int))then ((q3a t_0 now_2 i7).bind λr9=>
 (loopO (q1q old_1 now_2 i7 r9) (0,s8)).bind λs23=>
 some (.inl (wr .i64 (i7+1),s23)))else
 (some (.inr s8))
noncomputable def q2j(t_0:api_Topo)(old_1:Sl (Sl Int))(now_2:Sl (Sl Int)):Option (Sl level_Move×Int):=
 ((q29 t_0 old_1).bind λr1=>
 bif (!r1)then (some true)else
 ((q29 t_0 now_2).bind λr2=>
 some (!r2)):Option Bool).bind λb3=>
 bif b3 then (some (Sl.nil,2))else
 ((loopO (q28 t_0 old_1 now_2) (0,Sl.nil)).bind λs24=>
 (sortF srtMv s24).bind λs25=>
 (lenS s25 s24).bind λ_=>
 some (s25,0))
noncomputable def sp25:Spc:=⟨[(false, .x y0),(false, .x (.sl (.sl (.i .i64)))),(false, .x (.sl (.sl (.i .i64))))], [([.x (.sl y3), .x (.i .i64)], [])],false, [],λp=>match p with | (t_0,old_1,now_2)=>q2j t_0 old_1 now_2⟩
theorem ok25:SpcOk prog 13 sp25:=q0f mixed glbok (sig:=sig) (np:=3) (an:= [(4, { j:=some { vs:= [(21, .x .b)] } }),(12, { j:=some { vs:= [(8, .so 0),(25, .x (.i .i64))],os:= [.ar y3] },e:= [(.exit 0, { vs:= [(8, .so 0)],os:= [.ar y3] })] }),(23, { j:=some { vs:= [(8, .so 0),(34, .x (.i .i64))],os:= [.ar y3],kl:= [1] },e:= [(.exit 2, { vs:= [(8, .so 0)],os:= [.ar y3],kl:= [1] })] }),(27, { e:= [(.normal, { vs:= [(8, .so 0)],os:= [.ar y3],kl:= [3] })] })]) (.cons ok23 (.cons ok22 (.cons ok24 .nil))) (by kernel_rfl) (by kernel_rfl)
theorem ok26:SpcOk prog 54 (qdy (.i .i64) srtI):=qpp
theorem ok27:SpcOk prog 55 (qiy (.i .i64) compI):=qrn
noncomputable def q2n(l_0:Sl level_Move):(Int×Sl Int)->Option ((Int×Sl Int) ⊕ (Sl Int)):=λ(i4,s5)=>
 bif decide (i4 < (l_0.l.length:Int))then ((ixI i4 l_0.l.length).bind λn6=>
 (capI (s5.l++ [level_Move.Round (gt l_0.l n6)])).bind λl7=>
 some (.inl (wr .i64 (i4+1),(Sl.mk l7))))else
 (some (.inr s5))
noncomputable def q2o(l_0:Sl level_Move):Option (Sl Int):=
 (loopO (q2n l_0) (0,Sl.nil)).bind λs8=>
 (sortF srtI s8).bind λs9=>
 (lenS s9 s8).bind λ_=>
 (cutF compI s9).bind λs10=>
 some s10
noncomputable def sp28:Spc:=⟨[(false, .x (.sl y3))], [([.x (.sl (.i .i64))], [])],false, [],λp=>match p with | l_0=>q2o l_0⟩
theorem ok28:SpcOk prog 33 sp28:=q0f mixed glbok (sig:=sig) (np:=1) (an:= [(7, { j:=some { vs:= [(3, .so 0),(8, .x (.i .i64))],os:= [.ar (.i .i64)] },e:= [(.exit 0, { vs:= [(3, .so 0)],os:= [.ar (.i .i64)] })] })]) (.cons ok26 (.cons ok27 .nil)) (by kernel_rfl) (by kernel_rfl)
noncomputable def q49(a_0:Sl Int)(b_1:Sl Int):Int->Option (Int ⊕ (Bool ⊕ Unit)):=λi2=>
 bif decide (i2 < (a_0.l.length:Int))then ((ixI i2 a_0.l.length).bind λn3=>
 (ixI i2 b_1.l.length).bind λn4=>
 bif ((gt a_0.l n3) != (gt b_1.l n4))then (some (.inr (.inl false)))else
 (some (.inl (wr .i64 (i2+1)))))else
 (some (.inr (.inr ())))
noncomputable def q7h(a_0:Sl Int)(b_1:Sl Int):Option Bool:=
 bif ((a_0.l.length:Int) != (b_1.l.length:Int))then (some false)else
 ((loopO (q49 a_0 b_1) 0).bind fun
 | .inl b5=>(some b5)
 | .inr _=>(some true))
noncomputable def sp29:Spc:=⟨[(false, .x (.sl (.i .i64))),(false, .x (.sl (.i .i64)))], [([.x .b], [])],true, [],λp=>match p with | (a_0,b_1)=>q7h a_0 b_1⟩
theorem ok29:SpcOk prog 32 sp29:=q0f mixed glbok (sig:=sig) (np:=2) (an:= [(10, { j:=some { vs:= [(5, .x (.i .i64))] },e:= [(.ret, { vs:= [(4, .x .b)] }),(.exit 0, {})] })]) .nil (by kernel_rfl) (by kernel_rfl)
noncomputable def q4o(n_0:Int)(most_1:Int):Option Bool:=
 some ((decide (n_0 >= 0)) && (decide (n_0<=most_1)))
noncomputable def sp34:Spc:=⟨[(false, .x (.i .i64)),(false, .x (.i .i64))], [([.x .b], [])],true, [],λp=>match p with | (n_0,most_1)=>q4o n_0 most_1⟩
theorem ok34:SpcOk prog 43 sp34:=q0f mixed glbok (sig:=sig) (np:=2) (an:= []) .nil (by kernel_rfl) (by kernel_rfl)
noncomputable def q1y(t_0:api_Topo):(Int×Int)->Option ((Int×Int) ⊕ Int):=λ(i3,i4)=>
 bif decide (i4 < (((api_Topo.Links t_0).l).length:Int))then ((ixI i4 ((api_Topo.Links t_0).l).length).bind λn5=>
 some (.inl ((if (api_Link.Most (gt ((api_Topo.Links t_0).l) n5)) > i3 then (api_Link.Most (gt ((api_Topo.Links t_0).l) n5))else i3),wr .i64 (i4+1))))else
 (some (.inr i3))
noncomputable def q36(t_0:api_Topo):Option Int:=
 (loopO (q1y t_0) (0,0)).bind λi6=>
 some i6
noncomputable def sp35:Spc:=⟨[(false, .x y0)], [([.x (.i .i64)], [])],true, [],λp=>match p with | t_0=>q36 t_0⟩
theorem ok35:SpcOk prog 50 sp35:=q0f mixed glbok (sig:=sig) (np:=1) (an:= [(7, { j:=some { vs:= [(3, .x (.i .i64)),(9, .x (.i .i64))] },e:= [(.exit 0, { vs:= [(3, .x (.i .i64))] })] })]) .nil (by kernel_rfl) (by kernel_rfl)
noncomputable def q4v(t_0:api_Topo):Option Int:=
 (q36 t_0).bind λr1=>
 some (wr .i64 ((api_Topo.Switches t_0) * r1))
noncomputable def sp36:Spc:=⟨[(false, .x y0)], [([.x (.i .i64)], [])],true, [],λp=>match p with | t_0=>q4v t_0⟩
theorem ok36:SpcOk prog 25 sp36:=q0f mixed glbok (sig:=sig) (np:=1) (an:= []) (.cons ok35 .nil) (by kernel_rfl) (by kernel_rfl)
noncomputable def q62(t_0:api_Topo)(miss_1:Int):Option Int:=
 (q4v t_0).bind λr1=>
 some (wr .i64 ((wr .i64 ((wr .i64 (2 * miss_1))+r1))+1))
noncomputable def sp37:Spc:=⟨[(false, .x y0),(false, .x (.i .i64))], [([.x (.i .i64)], [])],true, [],λp=>match p with | (t_0,miss_1)=>q62 t_0 miss_1⟩
theorem ok37:SpcOk prog 42 sp37:=q0f mixed glbok (sig:=sig) (np:=2) (an:= []) (.cons ok36 .nil) (by kernel_rfl) (by kernel_rfl)
noncomputable def q6x(a_0:diff_After)(c_1:Int):Option Bool:=
 some ((((((decide ((diff_After.I a_0) < 0)) || (decide ((diff_After.I a_0) >= c_1))) || (decide ((diff_After.J a_0) < 0))) || (decide ((diff_After.J a_0) >= c_1))) || (decide ((diff_After.Gap a_0) < (-1073741824)))) || (decide ((diff_After.Gap a_0) > 1073741824)))
noncomputable def sp38:Spc:=⟨[(false, .x y4),(false, .pt (.i .i64))], [([.x .b], [])],true, [],λp=>match p with | (a_0,c_1)=>q6x a_0 c_1⟩
theorem ok38:SpcOk prog 112 sp38:=q0f mixed glbok (sig:=sig) (np:=2) (an:= []) .nil (by kernel_rfl) (by kernel_rfl)
noncomputable def q02(s_0:Sl diff_After)(f_1_c0:Int):Int->Option (Int ⊕ (Int ⊕ Unit)):=λi2=>
 bif decide (i2 < (s_0.l.length:Int))then ((ixI i2 s_0.l.length).bind λn3=>
 (q6x (gt s_0.l n3) f_1_c0).bind λr4=>
 bif r4 then (some (.inr (.inl i2)))else
 (some (.inl (wr .i64 (i2+1)))))else
 (some (.inr (.inr ())))
noncomputable def q03(s_0:Sl diff_After)(f_1_c0:Int):Option Int:=
 (loopO (q02 s_0 f_1_c0) 0).bind fun
 | .inl i5=>(some i5)
 | .inr _=>(some (-1))
noncomputable def sp39:Spc:=⟨[(false, .x (.sl y4)),(false, .fn 112 (.pr (.pt (.i .i64)) .ni))], [([.x (.i .i64)], [])],true, [],λp=>match p with | (s_0,f_1_c0)=>q03 s_0 f_1_c0⟩
theorem ok39:SpcOk prog 118 sp39:=q0f mixed glbok (sig:=sig) (np:=2) (an:= [(5, { j:=some { vs:= [(8, .x (.i .i64))] },e:= [(.ret, { vs:= [(4, .x (.i .i64))] }),(.exit 0, {})] })]) (.cons ok38 .nil) (by kernel_rfl) (by kernel_rfl)
noncomputable def q01(s_0:Sl diff_After)(f_1_c0:Int):Option Bool:=
 (q03 s_0 f_1_c0).bind λr1=>
 some (decide (r1 >= 0))
noncomputable def sp40:Spc:=⟨[(false, .x (.sl y4)),(false, .fn 112 (.pr (.pt (.i .i64)) .ni))], [([.x .b], [])],true, [],λp=>match p with | (s_0,f_1_c0)=>q01 s_0 f_1_c0⟩
theorem ok40:SpcOk prog 111 sp40:=q0f mixed glbok (sig:=sig) (np:=2) (an:= []) (.cons ok39 .nil) (by kernel_rfl) (by kernel_rfl)
noncomputable def q4f(n_0:Int)(l_1:Sl diff_After):Option Bool:=
 bif (((decide (n_0 < 0)) || (decide (n_0 > 64))) || (decide ((l_1.l.length:Int) > 256)))then (some false)else
 ((q01 l_1 n_0).bind λr1=>
 some (!r1))
noncomputable def sp41:Spc:=⟨[(false, .x (.i .i64)),(false, .x (.sl y4))], [([.x .b], [])],true, [],λp=>match p with | (n_0,l_1)=>q4f n_0 l_1⟩
theorem ok41:SpcOk prog 91 sp41:=q0f mixed glbok (sig:=sig) (np:=2) (an:= []) (.cons ok40 .nil) (by kernel_rfl) (by kernel_rfl)
noncomputable def q1c(l_1:Sl diff_After):(Int×Int×Sl Int×Sl Int)->Option ((Int×Int×Sl Int×Sl Int) ⊕ (Int×Sl Int×Sl Int)):=λ(i19,i20,s21,s22)=>
 bif decide (i20 < (l_1.l.length:Int))then (((ixI i20 l_1.l.length).bind λn23=>
 (ixI (diff_After.I (gt l_1.l n23)) s21.l.length).bind λn24=>
 (ixI (diff_After.J (gt l_1.l n23)) s21.l.length).bind λn25=>
 bif decide ((wr .i64 ((gt s21.l n24)+(diff_After.Gap (gt l_1.l n23)))) > (gt s21.l n25))then ((ixI (diff_After.J (gt l_1.l n23)) s21.l.length).bind λn26=>
 (ixI (diff_After.J (gt l_1.l n23)) s22.l.length).bind λn27=>
 some (diff_After.J (gt l_1.l n23),(Sl.mk (s21.l.set n26 (wr .i64 ((gt s21.l n24)+(diff_After.Gap (gt l_1.l n23)))))),(Sl.mk (s22.l.set n27 i20))))else
 (some (i19,s21,s22)):Option (Int×Sl Int×Sl Int)).bind λ(i28,s29,s30)=>
 some (.inl (i28,wr .i64 (i20+1),s29,s30)))else
 (some (.inr (i19,s21,s22)))
noncomputable def q2k(n_0:Int)(l_1:Sl diff_After):(Int×Int×Sl Int×Sl Int)->Option ((Int×Int×Sl Int×Sl Int) ⊕ (Int×Sl Int×Sl Int)):=λ(i9,i10,s11,s12)=>
 bif decide (i10 < (wr .i64 (n_0+1)))then ((loopO (q1c l_1) ((-1),0,s11,s12)).bind λ(i31,s32,s33)=>
 bif decide (i31 < 0)then (some (.inr (i31,s32,s33)))else
 (some (.inl (i31,wr .i64 (i10+1),s32,s33))))else
 (some (.inr (i9,s11,s12)))
noncomputable def q5m(n_0:Int)(l_1:Sl diff_After):Option (Sl Int×Sl Int×Int):=
 (mkI 0 n_0 n_0).bind λl1=>
 (mkI 0 n_0 n_0).bind λl2=>
 (loopO (q2k n_0 l_1) ((-1),0,(Sl.mk l1),(Sl.mk l2))).bind λ(i34,s35,s36)=>
 some (s35,s36,i34)
noncomputable def sp42:Spc:=⟨[(false, .x (.i .i64)),(false, .x (.sl y4))], [([.x (.sl (.i .i64)), .x (.sl (.i .i64)), .x (.i .i64)], [])],false, [],λp=>match p with | (n_0,l_1)=>q5m n_0 l_1⟩
theorem ok42:SpcOk prog 92 sp42:=q0f mixed glbok (sig:=sig) (np:=2) (an:= [(10, { j:=some { vs:= [(7, .so 0),(8, .so 1),(9, .x (.i .i64)),(19, .x (.i .i64))],os:= [.ar (.i .i64), .ar (.i .i64)],kl:= [1000000,3000000] },e:= [(.exit 0, { vs:= [(7, .so 0),(8, .so 1),(9, .x (.i .i64))],os:= [.ar (.i .i64), .ar (.i .i64)],kl:= [1000000,3000000] })] }),(20, { j:=some { vs:= [(7, .so 0),(8, .so 1),(9, .x (.i .i64)),(23, .x (.i .i64))],os:= [.ar (.i .i64), .ar (.i .i64)],kl:= [6000000,6000001] },e:= [(.exit 2, { vs:= [(7, .so 0),(8, .so 1),(9, .x (.i .i64))],os:= [.ar (.i .i64), .ar (.i .i64)],kl:= [6000000,6000001] })] }),(24, { e:= [(.normal, { vs:= [(7, .so 0),(8, .so 1),(9, .x (.i .i64))],os:= [.ar (.i .i64), .ar (.i .i64)],kl:= [6000002,6000003] })] })]) .nil (by kernel_rfl) (by kernel_rfl)
noncomputable def q3j(n_0:Int)(l_1:Sl diff_After):Option (Sl Int×Bool):=
 (q4f n_0 l_1).bind λr1=>
 bif (!r1)then (some (Sl.nil,false))else
 ((q5m n_0 l_1).bind λ(r2,r3,r4)=>
 bif decide (r4 >= 0)then (some (Sl.nil,false))else
 (some (r2,true)))
noncomputable def sp43:Spc:=⟨[(false, .x (.i .i64)),(false, .x (.sl y4))], [([.x (.sl (.i .i64)), .x .b], [])],false, [],λp=>match p with | (n_0,l_1)=>q3j n_0 l_1⟩
theorem ok43:SpcOk prog 67 sp43:=q0f mixed glbok (sig:=sig) (np:=2) (an:= []) (.cons ok41 (.cons ok42 .nil)) (by kernel_rfl) (by kernel_rfl)
noncomputable def q2r(n_0:Int)(gap_1:Int):(Int×Sl diff_After)->Option ((Int×Sl diff_After) ⊕ (Sl diff_After)):=λ(i4,s5)=>
 bif decide (i4 < n_0)then ((capI (s5.l++ [(⟨wr .i64 (i4 - 1),i4,gap_1⟩:diff_After)])).bind λl6=>
 some (.inl (wr .i64 (i4+1),(Sl.mk l6))))else
 (some (.inr s5))
noncomputable def q3q(n_0:Int)(gap_1:Int):Option (Sl Int):=
 (loopO (q2r n_0 gap_1) (1,Sl.nil)).bind λs7=>
 (q3j n_0 s7).bind λ(r8,r9)=>
 some r8
noncomputable def sp44:Spc:=⟨[(false, .x (.i .i64)),(false, .x (.i .i64))], [([.x (.sl (.i .i64))], [])],false, [],λp=>match p with | (n_0,gap_1)=>q3q n_0 gap_1⟩
theorem ok44:SpcOk prog 44 sp44:=q0f mixed glbok (sig:=sig) (np:=2) (an:= [(7, { j:=some { vs:= [(5, .so 0),(6, .x (.i .i64))],os:= [.ar y4] },e:= [(.exit 0, { vs:= [(5, .so 0)],os:= [.ar y4] })] })]) (.cons ok43 .nil) (by kernel_rfl) (by kernel_rfl)
noncomputable def q25(l_0:Sl level_Move)(round_1:Int):(Int×Sl Int)->Option ((Int×Sl Int) ⊕ (Sl Int)):=λ(i4,s5)=>
 bif decide (i4 < (l_0.l.length:Int))then (((ixI i4 l_0.l.length).bind λn6=>
 (bif ((level_Move.Round (gt l_0.l n6)) == round_1)then ((q0d s5 (level_Move.Sw (gt l_0.l n6))).bind λr7=>
 some (!r7))else
 (some false):Option Bool).bind λb8=>
 bif b8 then ((capI (s5.l++ [level_Move.Sw (gt l_0.l n6)])).bind λl9=>
 some (Sl.mk l9))else
 (some s5):Option (Sl Int)).bind λs10=>
 some (.inl (wr .i64 (i4+1),s10)))else
 (some (.inr s5))
noncomputable def q7l(l_0:Sl level_Move)(round_1:Int):Option (Sl Int):=
 (loopO (q25 l_0 round_1) (0,Sl.nil)).bind λs11=>
 some s11
noncomputable def sp45:Spc:=⟨[(false, .x (.sl y3)),(false, .x (.i .i64))], [([.x (.sl (.i .i64))], [])],false, [],λp=>match p with | (l_0,round_1)=>q7l l_0 round_1⟩
theorem ok45:SpcOk prog 45 sp45:=q0f mixed glbok (sig:=sig) (np:=2) (an:= [(7, { j:=some { vs:= [(5, .so 0),(10, .x (.i .i64))],os:= [.ar (.i .i64)] },e:= [(.exit 0, { vs:= [(5, .so 0)],os:= [.ar (.i .i64)] })] }),(11, { e:= [(.normal, { vs:= [(5, .so 0)],os:= [.ar (.i .i64)],kl:= [0] })] }),(15, { j:=some { vs:= [(24, .x .b)] } })]) (.cons ok17 .nil) (by kernel_rfl) (by kernel_rfl)
noncomputable def q2m(at_3:Int)(miss_4:Int)(lead_5:Int)(r5:Sl level_Move)(r7:Int)(r8:Sl Int)(r10:Sl Int):(Int×Sl level_Move×Int×Int×Int×Int×Sl plan_Round)->Option ((Int×Sl level_Move×Int×Int×Int×Int×Sl plan_Round) ⊕ (Sl level_Move×Int×Int×Int×Int×Sl plan_Round)):=λ(i19,s20,i21,i22,i23,i24,s25)=>
 bif decide (i19 < (r10.l.length:Int))then ((ixI i19 r10.l.length).bind λn26=>
 (ixI i19 r8.l.length).bind λn27=>
 (ixI i19 r8.l.length).bind λn28=>
 (q7l r5 (gt r8.l n28)).bind λr29=>
 (capI (s25.l++ [(⟨gt r8.l n27,wr .i64 ((wr .i64 ((wr .i64 ((wr .i64 ((wr .i64 (at_3+lead_5))+miss_4))+r7))+1))+(gt r10.l n26)),r29⟩:plan_Round)])).bind λl30=>
 some (.inl (wr .i64 (i19+1),s20,i21,i22,i23,i24,(Sl.mk l30))))else
 (some (.inr (s20,i21,i22,i23,i24,s25)))
noncomputable def q2q(t_0:api_Topo)(old_1:Sl (Sl Int))(now_2:Sl (Sl Int))(at_3:Int)(miss_4:Int)(lead_5:Int):Option (plan_Plan×Int):=
 ((q4o at_3 1099511627776).bind λr1=>
 bif (!r1)then (some true)else
 ((q4o miss_4 1048576).bind λr2=>
 bif (!r2)then (some true)else
 ((q4o lead_5 1048576).bind λr3=>
 some (!r3))):Option Bool).bind λb4=>
 bif b4 then (some ((⟨Sl.nil,Sl.nil,0,0,0,0⟩:plan_Plan),2))else
 ((q2j t_0 old_1 now_2).bind λ(r5,r6)=>
 bif (r6 != 0)then (some ((⟨Sl.nil,Sl.nil,0,0,0,0⟩:plan_Plan),r6))else
 (bif ((r5.l.length:Int) == 0)then (some ((⟨Sl.nil,Sl.nil,0,0,0,0⟩:plan_Plan),7))else
 ((q4v t_0).bind λr7=>
 (q2o r5).bind λr8=>
 (q62 t_0 miss_4).bind λr9=>
 (q3q (r8.l.length:Int) r9).bind λr10=>
 (loopO (q2m at_3 miss_4 lead_5 r5 r7 r8 r10) (0,r5,miss_4,r7,0,0,Sl.nil)).bind λ(s31,i32,i33,i34,i35,s36)=>
 (ixI (wr .i64 ((s36.l.length:Int) - 1)) s36.l.length).bind λn37=>
 bif decide ((wr .i64 ((plan_Round.At (gt s36.l n37))+miss_4)) > 1099511627776)then (some ((⟨Sl.nil,Sl.nil,0,0,0,0⟩:plan_Plan),11))else
 (some ((⟨s31,s36,i32,i33,wr .i64 ((wr .i64 ((wr .i64 ((wr .i64 ((wr .i64 ((wr .i64 (at_3+lead_5))+miss_4))+r7))+1)) - miss_4)) - i33),wr .i64 ((plan_Round.At (gt s36.l n37))+miss_4)⟩:plan_Plan),0)))))
noncomputable def sp46:Spc:=⟨[(false, .x y0),(false, .x (.sl (.sl (.i .i64)))),(false, .x (.sl (.sl (.i .i64)))),(false, .x (.i .i64)),(false, .x (.i .i64)),(false, .x (.i .i64))], [([.x y5, .x (.i .i64)], [])],false, [],λp=>match p with | (t_0,old_1,now_2,at_3,miss_4,lead_5)=>q2q t_0 old_1 now_2 at_3 miss_4 lead_5⟩
theorem ok46:SpcOk prog 22 sp46:=q0f mixed glbok (sig:=sig) (np:=6) (an:= [(4, { j:=some { vs:= [(33, .x .b)] } }),(27, { j:=some { vs:= [(16, .op 0 y5 []),(75, .x (.i .i64))],os:= [.bx y5 (.rc (.co (.x (.sl y3)) (.co (.so 1) (.co (.x (.i .i64)) (.co (.x (.i .i64)) (.co (.x (.i .i64)) (.co (.x (.i .i64)) .ni))))))), .ar y6],kl:= [5] },e:= [(.exit 1, { vs:= [(16, .op 0 y5 [])],os:= [.bx y5 (.rc (.co (.x (.sl y3)) (.co (.so 1) (.co (.x (.i .i64)) (.co (.x (.i .i64)) (.co (.x (.i .i64)) (.co (.x (.i .i64)) .ni))))))), .ar y6],kl:= [5] })] })]) (.cons ok34 (.cons ok25 (.cons ok36 (.cons ok28 (.cons ok37 (.cons ok44 (.cons ok45 .nil))))))) (by kernel_rfl) (by kernel_rfl)
noncomputable def q72(p_0:plan_Plan)(t_1:Int):Option Bool:=
 some ((decide (t_1 >= (plan_Plan.From p_0))) && (decide (t_1<=(plan_Plan.To p_0))))
noncomputable def sp47:Spc:=⟨[(false, .x y5),(false, .x (.i .i64))], [([.x .b], [])],true, [],λp=>match p with | (p_0,t_1)=>q72 p_0 t_1⟩
theorem ok47:SpcOk prog 26 sp47:=q0f mixed glbok (sig:=sig) (np:=2) (an:= []) .nil (by kernel_rfl) (by kernel_rfl)
noncomputable def qbg:Option api_Match:=
 some (⟨(-1),(zeE (.ar 4 (.i .i64))),(zeE (.ar 4 (.i .i64)))⟩:api_Match)
noncomputable def sp48:Spc:=⟨[], [([.x y7], [])],true, [],λp=>match p with | _=>qbg⟩
theorem ok48:SpcOk prog 109 sp48:=q0f mixed glbok (sig:=sig) (np:=0) (an:= []) .nil (by kernel_rfl) (by kernel_rfl)
noncomputable def qb6(f_0:Int):Option Int:=
 (bif (f_0 == 0)then (some (f_0 == 0))else
 (bif (f_0 == 1)then (some (f_0 == 1))else
 (some (f_0 == 3))):Option Bool).bind λb1=>
 bif b1 then (some 8)else
 (bif (f_0 == 2)then (some 4)else
 (some 0))
noncomputable def sp49:Spc:=⟨[(false, .x (.i .i64))], [([.x (.i .i64)], [])],true, [],λp=>match p with | f_0=>qb6 f_0⟩
theorem ok49:SpcOk prog 117 sp49:=q0f mixed glbok (sig:=sig) (np:=1) (an:= [(5, { e:= [(.normal, { vs:= [(4, .x .b)] })] })]) .nil (by kernel_rfl) (by kernel_rfl)
noncomputable def q7o(f_0:Int):Option Int:=
 (qb6 f_0).bind λr1=>
 (shlI .i64 1 r1).bind λi2=>
 some (wr .i64 (i2 - 1))
noncomputable def sp50:Spc:=⟨[(false, .x (.i .i64))], [([.x (.i .i64)], [])],true, [],λp=>match p with | f_0=>q7o f_0⟩
theorem ok50:SpcOk prog 110 sp50:=q0f mixed glbok (sig:=sig) (np:=1) (an:= []) (.cons ok49 .nil) (by kernel_rfl) (by kernel_rfl)
noncomputable def qe2(f_0:Int)(v_1:Int):Option api_Match:=
 (qbg).bind λr1=>
 ((bif (((decide (f_0 >= 0)) && (decide (f_0 < 4))) && (decide (v_1 >= 0)))then ((q7o f_0).bind λr2=>
 some (decide (v_1<=r2)))else
 (some false):Option Bool).bind λb3=>
 bif b3 then ((q7o f_0).bind λr4=>
 (ixI f_0 4).bind λn5=>
 (ixI f_0 4).bind λn6=>
 some (⟨api_Match.Port r1,Arr.set (api_Match.Val r1) n5 v_1,Arr.set (api_Match.Mask r1) n6 r4⟩:api_Match))else
 (some r1):Option api_Match).bind λx7=>
 some x7
noncomputable def sp51:Spc:=⟨[(false, .x (.i .i64)),(false, .x (.i .i64))], [([.x y7], [])],true, [],λp=>match p with | (f_0,v_1)=>qe2 f_0 v_1⟩
theorem ok51:SpcOk prog 90 sp51:=q0f mixed glbok (sig:=sig) (np:=2) (an:= [(4, { e:= [(.normal, { vs:= [(5, .op 0 y7 [])],os:= [.bx y7 (.x y7)],kl:= [10] })] }),(6, { j:=some { vs:= [(22, .x .b)] } })]) (.cons ok48 (.cons ok50 .nil)) (by kernel_rfl) (by kernel_rfl)
noncomputable def qb3(f_0:Int)(v_1:Int)(prio_2:Int):Option api_Rule:=
 (qe2 f_0 v_1).bind λr1=>
 some (⟨prio_2,r1,Sl.nil⟩:api_Rule)
noncomputable def sp52:Spc:=⟨[(false, .x (.i .i64)),(false, .x (.i .i64)),(false, .x (.i .i64))], [([.x y8], [])],false, [],λp=>match p with | (f_0,v_1,prio_2)=>qb3 f_0 v_1 prio_2⟩
theorem ok52:SpcOk prog 66 sp52:=q0f mixed glbok (sig:=sig) (np:=3) (an:= []) (.cons ok51 .nil) (by kernel_rfl) (by kernel_rfl)
noncomputable def q7r(f_0:Int)(v_1:Int)(prio_2:Int)(port_3:Int):Option api_Rule:=
 (qb3 f_0 v_1 prio_2).bind λr1=>
 some (⟨api_Rule.Prio r1,api_Rule.M r1,(Sl.mk [(⟨2,0,port_3⟩:api_Act)])⟩:api_Rule)
noncomputable def sp53:Spc:=⟨[(false, .x (.i .i64)),(false, .x (.i .i64)),(false, .x (.i .i64)),(false, .x (.i .i64))], [([.x y8], [])],false, [],λp=>match p with | (f_0,v_1,prio_2,port_3)=>q7r f_0 v_1 prio_2 port_3⟩
theorem ok53:SpcOk prog 41 sp53:=q0f mixed glbok (sig:=sig) (np:=4) (an:= []) (.cons ok52 .nil) (by kernel_rfl) (by kernel_rfl)
noncomputable def q24(l_0:Sl level_Move)(round_1:Int)(sw_2:Int):(Int×Sl api_Mod)->Option ((Int×Sl api_Mod) ⊕ (Sl api_Mod)):=λ(i4,s5)=>
 bif decide (i4 < (l_0.l.length:Int))then (((ixI i4 l_0.l.length).bind λn6=>
 bif (((level_Move.Round (gt l_0.l n6)) == round_1) && ((level_Move.Sw (gt l_0.l n6)) == sw_2))then ((q7r 1 (level_Move.Host (gt l_0.l n6)) 10 (level_Move.Port (gt l_0.l n6))).bind λr7=>
 (capI (s5.l++ [(⟨3,r7,false⟩:api_Mod)])).bind λl8=>
 some (Sl.mk l8))else
 (some s5):Option (Sl api_Mod)).bind λs9=>
 some (.inl (wr .i64 (i4+1),s9)))else
 (some (.inr s5))
noncomputable def q1w(l_0:Sl level_Move)(round_1:Int)(sw_2:Int):Option (Sl api_Mod):=
 (loopO (q24 l_0 round_1 sw_2) (0,Sl.nil)).bind λs10=>
 some s10
noncomputable def sp54:Spc:=⟨[(false, .x (.sl y3)),(false, .x (.i .i64)),(false, .x (.i .i64))], [([.x (.sl y9)], [])],false, [],λp=>match p with | (l_0,round_1,sw_2)=>q1w l_0 round_1 sw_2⟩
theorem ok54:SpcOk prog 20 sp54:=q0f mixed glbok (sig:=sig) (np:=3) (an:= [(7, { j:=some { vs:= [(7, .so 0),(12, .x (.i .i64))],os:= [.ar y9] },e:= [(.exit 0, { vs:= [(7, .so 0)],os:= [.ar y9] })] }),(11, { e:= [(.normal, { vs:= [(7, .so 0)],os:= [.ar y9],kl:= [0] })] })]) (.cons ok53 .nil) (by kernel_rfl) (by kernel_rfl)
noncomputable def q23(p_0:plan_Plan)(k_1:Int)(n1:Nat):(Int×Sl plan_Part)->Option ((Int×Sl plan_Part) ⊕ (Sl plan_Part)):=λ(i5,s6)=>
 bif decide (i5 < (((plan_Round.Sws (gt ((plan_Plan.Rounds p_0).l) n1)).l).length:Int))then ((ixI i5 ((plan_Round.Sws (gt ((plan_Plan.Rounds p_0).l) n1)).l).length).bind λn7=>
 (ixI k_1 ((plan_Plan.Rounds p_0).l).length).bind λn8=>
 (q1w (plan_Plan.Moves p_0) (plan_Round.No (gt ((plan_Plan.Rounds p_0).l) n8)) (gt ((plan_Round.Sws (gt ((plan_Plan.Rounds p_0).l) n1)).l) n7)).bind λr9=>
 (capI (s6.l++ [(⟨gt ((plan_Round.Sws (gt ((plan_Plan.Rounds p_0).l) n1)).l) n7,r9⟩:plan_Part)])).bind λl10=>
 some (.inl (wr .i64 (i5+1),(Sl.mk l10))))else
 (some (.inr s6))
noncomputable def q1e(p_0:plan_Plan)(k_1:Int):Option (Sl plan_Part):=
 bif ((decide (k_1 < 0)) || (decide (k_1 >= (((plan_Plan.Rounds p_0).l).length:Int))))then (some Sl.nil)else
 ((ixI k_1 ((plan_Plan.Rounds p_0).l).length).bind λn1=>
 (loopO (q23 p_0 k_1 n1) (0,Sl.nil)).bind λs11=>
 some s11)
noncomputable def sp55:Spc:=⟨[(false, .x y5),(false, .x (.i .i64))], [([.x (.sl y10)], [])],false, [],λp=>match p with | (p_0,k_1)=>q1e p_0 k_1⟩
theorem ok55:SpcOk prog 28 sp55:=q0f mixed glbok (sig:=sig) (np:=2) (an:= [(12, { j:=some { vs:= [(5, .so 0),(24, .x (.i .i64))],os:= [.ar y10] },e:= [(.exit 0, { vs:= [(5, .so 0)],os:= [.ar y10] })] })]) (.cons ok54 .nil) (by kernel_rfl) (by kernel_rfl)
noncomputable def q22:Option Bool:=
 (q2q (⟨3,(Sl.mk [(⟨0,0,1,0,1,1⟩:api_Link),(⟨1,1,2,0,1,2⟩:api_Link),(⟨0,1,2,1,1,1⟩:api_Link)]),(Sl.mk [(⟨2,7⟩:api_Host)])⟩:api_Topo) (Sl.mk [(Sl.mk [0]),(Sl.mk [1]),(Sl.mk [7])]) (Sl.mk [(Sl.mk [1]),(Sl.mk [1]),(Sl.mk [7])]) 100 4 10).bind λ(r1,r2)=>
 ((q62 (⟨3,(Sl.mk [(⟨0,0,1,0,1,1⟩:api_Link),(⟨1,1,2,0,1,2⟩:api_Link),(⟨0,1,2,1,1,1⟩:api_Link)]),(Sl.mk [(⟨2,7⟩:api_Host)])⟩:api_Topo) 4).bind λr3=>
 bif (((r3 == 15) && (r2 == 0)) && ((((plan_Plan.Rounds r1).l).length:Int) == 1))then ((ixI 0 ((plan_Plan.Rounds r1).l).length).bind λn4=>
 bif ((((plan_Round.At (gt ((plan_Plan.Rounds r1).l) n4)) == 121) && ((plan_Plan.From r1) == 111)) && ((plan_Plan.To r1) == 125))then ((q72 r1 125).bind λr5=>
 bif r5 then ((q1e r1 0).bind λr6=>
 some ((r6.l.length:Int) == 1))else
 (some false))else
 (some false))else
 (some false):Option Bool).bind λb7=>
 some b7
noncomputable def sp56:Spc:=⟨[], [([.x .b], [])],true, [],λp=>match p with | _=>q22⟩
theorem ok56:SpcOk prog 21 sp56:=q0f mixed glbok (sig:=sig) (np:=0) (an:= [(7, { j:=some { vs:= [(0, .x .b)] } })]) (.cons ok46 (.cons ok37 (.cons ok47 (.cons ok55 .nil)))) (by kernel_rfl) (by kernel_rfl)
noncomputable def q1t(s_0:Sl Int):Option (Sl Int):=
 bif s_0.isNil then (some Sl.nil)else
 ((capI ([]++s_0.l)).bind λl1=>
 some (appS (Sl.mk []) s_0.l l1))
noncomputable def sp69:Spc:=⟨[(false, .x (.sl (.i .i64)))], [([.os (.i .i64)], [])],false, [],λp=>match p with | s_0=>q1t s_0⟩
theorem ok69:SpcOk prog 65 sp69:=q0f mixed glbok (sig:=sig) (np:=1) (an:= []) .nil (by kernel_rfl) (by kernel_rfl)
noncomputable def q30(r_0:Sl (Sl Int)):(Int×Sl (Sl Int))->Option ((Int×Sl (Sl Int)) ⊕ (Sl (Sl Int))):=λ(i5,s6)=>
 bif decide (i5 < (r_0.l.length:Int))then ((ixI i5 r_0.l.length).bind λn7=>
 (q1t (gt r_0.l n7)).bind λs8=>
 (ixI i5 s6.l.length).bind λn9=>
 some (.inl (wr .i64 (i5+1),(Sl.mk (s6.l.set n9 s8)))))else
 (some (.inr s6))
noncomputable def q66(r_0:Sl (Sl Int)):Option (Sl (Sl Int)):=
 (mkI (Sl.nil:Sl Int) (r_0.l.length:Int) (r_0.l.length:Int)).bind λl1=>
 (loopO (q30 r_0) (0,(Sl.mk l1))).bind λs10=>
 some s10
noncomputable def sp70:Spc:=⟨[(false, .x (.sl (.sl (.i .i64))))], [([.rw (.i .i64)], [])],false, [],λp=>match p with | r_0=>q66 r_0⟩
theorem ok70:SpcOk prog 39 sp70:=q0f mixed glbok (sig:=sigN) (np:=1) (an:= [(7, { j:=some { vs:= [(3, .sr 0),(11, .x (.i .i64))],os:= [.rw (.i .i64)],kl:= [0] },e:= [(.exit 0, { vs:= [(3, .sr 0)],os:= [.rw (.i .i64)],kl:= [0] })] })]) (.cons ok69 .nil) (by kernel_rfl) (by kernel_rfl)
noncomputable def q8h(r_0:Sl (Sl Int))(m_1:level_Move):Option (Sl (Sl Int)):=
 (bif (((decide ((level_Move.Sw m_1) >= 0)) && (decide ((level_Move.Sw m_1) < (r_0.l.length:Int)))) && (decide ((level_Move.Host m_1) >= 0)))then ((ixI (level_Move.Sw m_1) r_0.l.length).bind λn1=>
 some (decide ((level_Move.Host m_1) < (((gt r_0.l n1).l).length:Int)),(Sl.mk (r_0.l.set n1 (gt r_0.l n1)))))else
 (some (false,r_0)):Option (Bool×Sl (Sl Int))).bind λ(b2,s3)=>
 bif b2 then ((ixI (level_Move.Sw m_1) s3.l.length).bind λn4=>
 (ixI (level_Move.Host m_1) ((gt s3.l n4).l).length).bind λn5=>
 some (Sl.mk (s3.l.set n4 (Sl.mk (((gt s3.l n4).l).set n5 (level_Move.Port m_1))))))else
 (some s3)
noncomputable def sp71:Spc:=⟨[(true, .rw (.i .i64)),(false, .x y3)], [([], [.rw (.i .i64)])],false, [true,false],λp=>match p with | (r_0,m_1)=>q8h r_0 m_1⟩
theorem ok71:SpcOk prog 40 sp71:=q0f mixed glbok (sig:=sigN) (np:=2) (an:= [(3, { j:=some { vs:= [(0, .sr 0),(29, .x .b)],gs:=(.co (.sr 0) .ni),os:= [.rw (.i .i64)],kl:= [0] } })]) .nil (by kernel_rfl) (by kernel_rfl)
noncomputable def q3g(l_1:Sl level_Move)(round_2:Int)(some_3:Sl Int):(Int×Sl (Sl Int))->Option ((Int×Sl (Sl Int)) ⊕ (Sl (Sl Int))):=λ(i5,s6)=>
 bif decide (i5 < (l_1.l.length:Int))then (((ixI i5 l_1.l.length).bind λn7=>
 (bif decide ((level_Move.Round (gt l_1.l n7)) < round_2)then (some true)else
 (bif ((level_Move.Round (gt l_1.l n7)) == round_2)then ((q0d some_3 (level_Move.Sw (gt l_1.l n7))).bind λr8=>
 some r8)else
 (some false)):Option Bool).bind λb9=>
 bif b9 then ((q8h s6 (gt l_1.l n7)).bind λs10=>
 (lenS s10 s6).bind λ_=>
 some s10)else
 (some s6):Option (Sl (Sl Int))).bind λs11=>
 some (.inl (wr .i64 (i5+1),s11)))else
 (some (.inr s6))
noncomputable def q4d(old_0:Sl (Sl Int))(l_1:Sl level_Move)(round_2:Int)(some_3:Sl Int):Option (Sl (Sl Int)):=
 (q66 old_0).bind λs1=>
 (loopO (q3g l_1 round_2 some_3) (0,s1)).bind λs12=>
 some s12
noncomputable def sp72:Spc:=⟨[(false, .x (.sl (.sl (.i .i64)))),(false, .x (.sl y3)),(false, .x (.i .i64)),(false, .x (.sl (.i .i64)))], [([.x (.sl (.sl (.i .i64)))], [])],false, [],λp=>match p with | (old_0,l_1,round_2,some_3)=>q4d old_0 l_1 round_2 some_3⟩
theorem ok72:SpcOk prog 18 sp72:=q0f mixed glbok (sig:=sig) (np:=4) (an:= [(7, { j:=some { vs:= [(9, .sr 0),(16, .x (.i .i64))],os:= [.rw (.i .i64)],kl:= [0] },e:= [(.exit 0, { vs:= [(9, .sr 0)],os:= [.rw (.i .i64)],kl:= [0] })] }),(11, { e:= [(.normal, { vs:= [(9, .sr 0)],os:= [.rw (.i .i64)],kl:= [1] })] }),(15, { j:=some { vs:= [(35, .x .b)] } })]) (.cons ok70 (.cons ok17 (.cons ok71 .nil))) (by kernel_rfl) (by kernel_rfl)
noncomputable def q48(a_0:Sl (Sl Int))(b_1:Sl (Sl Int)):Int->Option (Int ⊕ (Bool ⊕ Unit)):=λi2=>
 bif decide (i2 < (a_0.l.length:Int))then ((ixI i2 a_0.l.length).bind λn3=>
 (ixI i2 b_1.l.length).bind λn4=>
 (q7h (gt a_0.l n3) (gt b_1.l n4)).bind λr5=>
 bif (!r5)then (some (.inr (.inl false)))else
 (some (.inl (wr .i64 (i2+1)))))else
 (some (.inr (.inr ())))
noncomputable def q7f(a_0:Sl (Sl Int))(b_1:Sl (Sl Int)):Option Bool:=
 bif ((a_0.l.length:Int) != (b_1.l.length:Int))then (some false)else
 ((loopO (q48 a_0 b_1) 0).bind fun
 | .inl b6=>(some b6)
 | .inr _=>(some true))
noncomputable def sp73:Spc:=⟨[(false, .x (.sl (.sl (.i .i64)))),(false, .x (.sl (.sl (.i .i64))))], [([.x .b], [])],true, [],λp=>match p with | (a_0,b_1)=>q7f a_0 b_1⟩
theorem ok73:SpcOk prog 19 sp73:=q0f mixed glbok (sig:=sig) (np:=2) (an:= [(10, { j:=some { vs:= [(5, .x (.i .i64))] },e:= [(.ret, { vs:= [(4, .x .b)] }),(.exit 0, {})] })]) (.cons ok29 .nil) (by kernel_rfl) (by kernel_rfl)
noncomputable def q4c(a_0:Sl api_Act)(b_1:Sl api_Act):Int->Option (Int ⊕ (Bool ⊕ Unit)):=λi2=>
 bif decide (i2 < (a_0.l.length:Int))then ((ixI i2 a_0.l.length).bind λn3=>
 (ixI i2 b_1.l.length).bind λn4=>
 bif (!(decide ((gt a_0.l n3)=(gt b_1.l n4))))then (some (.inr (.inl false)))else
 (some (.inl (wr .i64 (i2+1)))))else
 (some (.inr (.inr ())))
noncomputable def q7i(a_0:Sl api_Act)(b_1:Sl api_Act):Option Bool:=
 bif ((a_0.l.length:Int) != (b_1.l.length:Int))then (some false)else
 ((loopO (q4c a_0 b_1) 0).bind fun
 | .inl b5=>(some b5)
 | .inr _=>(some true))
noncomputable def sp76:Spc:=⟨[(false, .x (.sl y4)),(false, .x (.sl y4))], [([.x .b], [])],true, [],λp=>match p with | (a_0,b_1)=>q7i a_0 b_1⟩
theorem ok76:SpcOk prog 93 sp76:=q0f mixed glbok (sig:=sig) (np:=2) (an:= [(10, { j:=some { vs:= [(5, .x (.i .i64))] },e:= [(.ret, { vs:= [(4, .x .b)] }),(.exit 0, {})] })]) .nil (by kernel_rfl) (by kernel_rfl)
noncomputable def q9g(a_0:api_Rule)(b_1:api_Rule):Option Bool:=
 (bif (((api_Rule.Prio a_0) == (api_Rule.Prio b_1)) && (decide ((api_Rule.M a_0)=(api_Rule.M b_1))))then ((q7i (api_Rule.Acts a_0) (api_Rule.Acts b_1)).bind λr1=>
 some r1)else
 (some false):Option Bool).bind λb2=>
 some b2
noncomputable def sp77:Spc:=⟨[(false, .x y8),(false, .x y8)], [([.x .b], [])],true, [],λp=>match p with | (a_0,b_1)=>q9g a_0 b_1⟩
theorem ok77:SpcOk prog 70 sp77:=q0f mixed glbok (sig:=sig) (np:=2) (an:= [(3, { j:=some { vs:= [(4, .x .b)] } })]) (.cons ok76 .nil) (by kernel_rfl) (by kernel_rfl)
noncomputable def q7s(a_0:api_Mod)(b_1:api_Mod):Option Bool:=
 (bif (((api_Mod.Kind a_0) == (api_Mod.Kind b_1)) && ((api_Mod.Check a_0) == (api_Mod.Check b_1)))then ((q9g (api_Mod.R a_0) (api_Mod.R b_1)).bind λr1=>
 some r1)else
 (some false):Option Bool).bind λb2=>
 some b2
noncomputable def sp78:Spc:=⟨[(false, .x y9),(false, .x y9)], [([.x .b], [])],true, [],λp=>match p with | (a_0,b_1)=>q7s a_0 b_1⟩
theorem ok78:SpcOk prog 51 sp78:=q0f mixed glbok (sig:=sig) (np:=2) (an:= [(3, { j:=some { vs:= [(4, .x .b)] } })]) (.cons ok77 .nil) (by kernel_rfl) (by kernel_rfl)
noncomputable def q4b(a_0:Sl api_Mod)(b_1:Sl api_Mod):Int->Option (Int ⊕ (Bool ⊕ Unit)):=λi2=>
 bif decide (i2 < (a_0.l.length:Int))then ((ixI i2 a_0.l.length).bind λn3=>
 (ixI i2 b_1.l.length).bind λn4=>
 (q7s (gt a_0.l n3) (gt b_1.l n4)).bind λr5=>
 bif (!r5)then (some (.inr (.inl false)))else
 (some (.inl (wr .i64 (i2+1)))))else
 (some (.inr (.inr ())))
noncomputable def q5n(a_0:Sl api_Mod)(b_1:Sl api_Mod):Option Bool:=
 bif ((a_0.l.length:Int) != (b_1.l.length:Int))then (some false)else
 ((loopO (q4b a_0 b_1) 0).bind fun
 | .inl b6=>(some b6)
 | .inr _=>(some true))
noncomputable def sp79:Spc:=⟨[(false, .x (.sl y9)),(false, .x (.sl y9))], [([.x .b], [])],true, [],λp=>match p with | (a_0,b_1)=>q5n a_0 b_1⟩
theorem ok79:SpcOk prog 29 sp79:=q0f mixed glbok (sig:=sig) (np:=2) (an:= [(10, { j:=some { vs:= [(5, .x (.i .i64))] },e:= [(.ret, { vs:= [(4, .x .b)] }),(.exit 0, {})] })]) (.cons ok78 .nil) (by kernel_rfl) (by kernel_rfl)
noncomputable def q1m(r5:plan_Plan)(i13:Int)(r14:Sl plan_Part):(Int×Int)->Option ((Int×Int) ⊕ (Bool ⊕ Int)):=λ(i18,i19)=>
 bif decide (i19 < (r14.l.length:Int))then (((ixI i19 r14.l.length).bind λn20=>
 (ixI i13 ((plan_Plan.Rounds r5).l).length).bind λn21=>
 (ixI i19 ((plan_Round.Sws (gt ((plan_Plan.Rounds r5).l) n21)).l).length).bind λn22=>
 bif ((plan_Part.Sw (gt r14.l n20)) != (gt ((plan_Round.Sws (gt ((plan_Plan.Rounds r5).l) n21)).l) n22))then (some true)else
 ((ixI i19 r14.l.length).bind λn23=>
 bif ((((plan_Part.Mods (gt r14.l n23)).l).length:Int) == 0)then (some true)else
 ((ixI i19 r14.l.length).bind λn24=>
 (ixI i13 ((plan_Plan.Rounds r5).l).length).bind λn25=>
 (ixI i19 r14.l.length).bind λn26=>
 (q1w (plan_Plan.Moves r5) (plan_Round.No (gt ((plan_Plan.Rounds r5).l) n25)) (plan_Part.Sw (gt r14.l n26))).bind λr27=>
 (q5n (plan_Part.Mods (gt r14.l n24)) r27).bind λr28=>
 some (!r28))):Option Bool).bind λb29=>
 bif b29 then (some (.inr (.inl false)))else
 ((ixI i19 r14.l.length).bind λn30=>
 some (.inl (wr .i64 (i18+(((plan_Part.Mods (gt r14.l n30)).l).length:Int)),wr .i64 (i19+1)))))else
 (some (.inr (.inr i18)))
noncomputable def q1o(r5:plan_Plan):(Int×Int)->Option ((Int×Int) ⊕ (Bool ⊕ Int)):=λ(i12,i13)=>
 bif decide (i13 < (((plan_Plan.Rounds r5).l).length:Int))then ((q1e r5 i13).bind λr14=>
 (ixI i13 ((plan_Plan.Rounds r5).l).length).bind λn15=>
 bif ((r14.l.length:Int) != (((plan_Round.Sws (gt ((plan_Plan.Rounds r5).l) n15)).l).length:Int))then (some (.inr (.inl false)))else
 ((loopO (q1m r5 i13 r14) (i12,0)).bind fun
 | .inl b31=>(some (.inr (.inl b31)))
 | .inr i32=>(some (.inl (i32,wr .i64 (i13+1))))))else
 (some (.inr (.inr i12)))
noncomputable def q4k(t_0:api_Topo)(old_1:Sl (Sl Int))(now_2:Sl (Sl Int))(at_3:Int)(miss_4:Int)(lead_5:Int)(k_6:Int):Option Bool:=
 ((q4q t_0 old_1).bind λr1=>
 bif (!r1)then (some true)else
 ((q4q t_0 now_2).bind λr2=>
 some (!r2)):Option Bool).bind λb3=>
 bif b3 then ((q22).bind λr4=>
 some r4)else
 ((q2q t_0 old_1 now_2 at_3 miss_4 lead_5).bind λ(r5,r6)=>
 bif (r6 != 0)then (((q1e r5 k_6).bind λr7=>
 bif ((r7.l.length:Int) == 0)then ((q22).bind λr8=>
 some r8)else
 (some false):Option Bool).bind λb9=>
 some b9)else
 ((loopO (q1o r5) (0,0)).bind fun
 | .inl b33=>(some b33)
 | .inr i34=>((bif (i34 == (((plan_Plan.Moves r5).l).length:Int))then ((q4d old_1 (plan_Plan.Moves r5) (api_Topo.Switches t_0) Sl.nil).bind λr35=>
 (q7f r35 now_2).bind λr36=>
 bif r36 then (bif ((decide (k_6 >= 0)) && (decide (k_6 < (((plan_Plan.Rounds r5).l).length:Int))))then ((q22).bind λr37=>
 some r37)else
 ((q1e r5 k_6).bind λr38=>
 bif ((r38.l.length:Int) == 0)then ((q22).bind λr39=>
 some r39)else
 (some false)))else
 (some false))else
 (some false):Option Bool).bind λb40=>
 some b40)))
noncomputable def sp80:Spc:=⟨[(false, .x y0),(false, .x (.sl (.sl (.i .i64)))),(false, .x (.sl (.sl (.i .i64)))),(false, .x (.i .i64)),(false, .x (.i .i64)),(false, .x (.i .i64)),(false, .x (.i .i64))], [([.x .b], [])],true, [],λp=>match p with | (t_0,old_1,now_2,at_3,miss_4,lead_5,k_6)=>q4k t_0 old_1 now_2 at_3 miss_4 lead_5 k_6⟩
theorem ok80:SpcOk prog 9 sp80:=q0f mixed glbok (sig:=sig) (np:=7) (an:= [(4, { j:=some { vs:= [(30, .x .b)] } }),(13, { j:=some { vs:= [(14, .x .b)] } }),(19, { j:=some { vs:= [(17, .x (.i .i64)),(18, .x (.i .i64))] },e:= [(.ret, { vs:= [(14, .x .b)] }),(.exit 0, { vs:= [(17, .x (.i .i64))] })] }),(33, { j:=some { vs:= [(17, .x (.i .i64)),(20, .x (.i .i64))] },e:= [(.ret, { vs:= [(14, .x .b)] }),(.exit 2, { vs:= [(17, .x (.i .i64))] })] }),(40, { j:=some { vs:= [(124, .x .b)] } }),(47, { j:=some { vs:= [(14, .x .b)] } })]) (.cons ok0 (.cons ok56 (.cons ok46 (.cons ok55 (.cons ok54 (.cons ok79 (.cons ok72 (.cons ok73 .nil)))))))) (by kernel_rfl) (by kernel_rfl)
end Go.Proofs.Ythcplpfiidlinaa.L
