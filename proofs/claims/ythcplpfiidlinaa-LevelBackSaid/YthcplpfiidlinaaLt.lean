/- q2p answers true: by running its twin. Conditions: none. -/
import Derived.Test.YthcplpfiidlinaaL
import Derived.Test.YthcplpfiidlinaaTwin
import Derived.Test.YthcplpfiidlinaaLP
open Go.Ev Go
namespace Go.Proofs.Ythcplpfiidlinaa.L
def q3u(t_0:api_Topo):(Int×Sl topo_place)->Option ((Int×Sl topo_place) ⊕ (Sl topo_place)):=λ(i4,s5)=>
 bif decide (i4 < (((api_Topo.Links t_0).l).length:Int))then ((ixI i4 ((api_Topo.Links t_0).l).length).bind λn6=>
 (capI (s5.l++ [(⟨api_Link.A (gt ((api_Topo.Links t_0).l) n6),api_Link.PortA (gt ((api_Topo.Links t_0).l) n6)⟩:topo_place),(⟨api_Link.B (gt ((api_Topo.Links t_0).l) n6),api_Link.PortB (gt ((api_Topo.Links t_0).l) n6)⟩:topo_place)])).bind λl7=>
 some (.inl (wr .i64 (i4+1),(Sl.mk l7))))else
 (some (.inr s5))
theorem q8v(t_0:api_Topo):∀s,OLe (q3u t_0 s) (q1x t_0 s):=by
 intro s
 unfold q3u q1x
 repeat' first
  | with_reducible refine OLe.loop (λ_=> ?_) _ _
  | with_reducible refine OLe.lend (λ_=> ?_) ?_
  | with_reducible refine OLe.cond ?_ ?_
  | with_reducible refine OLe.bind ?_ (λ_=> ?_)
  | (split <;> try dsimp only)
  | with_reducible exact OLe.refl _
def q3v(t_0:api_Topo):(Int×Sl topo_place)->Option ((Int×Sl topo_place) ⊕ (Sl topo_place)):=λ(i11,s12)=>
 bif decide (i11 < (((api_Topo.Hosts t_0).l).length:Int))then ((ixI i11 ((api_Topo.Hosts t_0).l).length).bind λn13=>
 (capI (s12.l++ [gt ((api_Topo.Hosts t_0).l) n13])).bind λl14=>
 some (.inl (wr .i64 (i11+1),(Sl.mk l14))))else
 (some (.inr s12))
theorem q8y(t_0:api_Topo):∀s,OLe (q3v t_0 s) (q1z t_0 s):=by
 intro s
 unfold q3v q1z
 repeat' first
  | with_reducible refine OLe.loop (λ_=> ?_) _ _
  | with_reducible refine OLe.lend (λ_=> ?_) ?_
  | with_reducible refine OLe.cond ?_ ?_
  | with_reducible refine OLe.bind ?_ (λ_=> ?_)
  | (split <;> try dsimp only)
  | with_reducible exact OLe.refl _
def q68(t_0:api_Topo):Option (Sl topo_place):=
 (loopN 100000 (q3u t_0) (0,Sl.nil)).bind λs8=>
 (loopN 100000 (q3v t_0) (0,s8)).bind λs15=>
 some s15
theorem qbq(t_0:api_Topo):OLe (q68 t_0) (q36 t_0):=by
 unfold q68 q36
 repeat' first
  | with_reducible apply q8v
  | with_reducible apply q8y
  | with_reducible refine OLe.loop (λ_=> ?_) _ _
  | with_reducible refine OLe.lend (λ_=> ?_) ?_
  | with_reducible refine OLe.cond ?_ ?_
  | with_reducible refine OLe.bind ?_ (λ_=> ?_)
  | (split <;> try dsimp only)
  | with_reducible exact OLe.refl _
def q4f(t_0:api_Topo):Int->Option (Int ⊕ (Bool ⊕ Unit)):=λi2=>
 bif decide (i2 < (((api_Topo.Links t_0).l).length:Int))then ((ixI i2 ((api_Topo.Links t_0).l).length).bind λn3=>
 bif (((((api_Link.A (gt ((api_Topo.Links t_0).l) n3)) == (api_Link.B (gt ((api_Topo.Links t_0).l) n3))) || (decide ((api_Link.Least (gt ((api_Topo.Links t_0).l) n3)) < 1))) || (decide ((api_Link.Least (gt ((api_Topo.Links t_0).l) n3)) > (api_Link.Most (gt ((api_Topo.Links t_0).l) n3))))) || (decide ((api_Link.Most (gt ((api_Topo.Links t_0).l) n3)) > 1000)))then (some (.inr (.inl false)))else
 (some (.inl (wr .i64 (i2+1)))))else
 (some (.inr (.inr ())))
theorem q9w(t_0:api_Topo):∀s,OLe (q4f t_0 s) (q2g t_0 s):=by
 intro s
 unfold q4f q2g
 repeat' first
  | with_reducible refine OLe.loop (λ_=> ?_) _ _
  | with_reducible refine OLe.lend (λ_=> ?_) ?_
  | with_reducible refine OLe.cond ?_ ?_
  | with_reducible refine OLe.bind ?_ (λ_=> ?_)
  | (split <;> try dsimp only)
  | with_reducible exact OLe.refl _
def q4c(t_0:api_Topo)(r5:Sl topo_place):(Int×Mp topo_place Int)->Option ((Int×Mp topo_place Int) ⊕ (Bool ⊕ Unit)):=λ(i9,m10)=>
 bif decide (i9 < (r5.l.length:Int))then ((ixI i9 r5.l.length).bind λn11=>
 (mpSet ((mpEnt m10 0 (gt r5.l n11)).1) ((mpEnt m10 0 (gt r5.l n11)).2.2) (wr .i64 ((mpGet m10 0 (gt r5.l n11))+1))).bind λm12=>
 bif (((((decide ((topo_place.sw (gt r5.l n11)) < 0)) || (decide ((topo_place.sw (gt r5.l n11)) >= (api_Topo.Switches t_0)))) || (decide ((topo_place.port (gt r5.l n11)) < 0))) || (decide ((topo_place.port (gt r5.l n11)) >= 8))) || (decide ((mpGet m12 0 (gt r5.l n11)) > 1)))then (some (.inr (.inl false)))else
 (some (.inl (wr .i64 (i9+1),m12))))else
 (some (.inr (.inr ())))
theorem q9x(t_0:api_Topo)(r5:Sl topo_place):∀s,OLe (q4c t_0 r5 s) (q15 t_0 r5 s):=by
 intro s
 unfold q4c q15
 repeat' first
  | with_reducible refine OLe.loop (λ_=> ?_) _ _
  | with_reducible refine OLe.lend (λ_=> ?_) ?_
  | with_reducible refine OLe.cond ?_ ?_
  | with_reducible refine OLe.bind ?_ (λ_=> ?_)
  | (split <;> try dsimp only)
  | with_reducible exact OLe.refl _
def q70(t_0:api_Topo):Option Bool:=
 bif ((((decide ((api_Topo.Switches t_0) < 1)) || (decide ((api_Topo.Switches t_0) > 8))) || (decide ((((api_Topo.Links t_0).l).length:Int) > 24))) || (decide ((((api_Topo.Hosts t_0).l).length:Int) > 8)))then (some false)else
 ((loopN 100000 (q4f t_0) 0).bind fun
 | .inl b4=>(some b4)
 | .inr _=>((q68 t_0).bind λr5=>
 (loopN 100000 (q4c t_0 r5) (0,(Mp.none:Mp topo_place Int))).bind fun
 | .inl b13=>(some b13)
 | .inr _=>(some true)))
theorem qdc(t_0:api_Topo):OLe (q70 t_0) (q43 t_0):=by
 unfold q70 q43
 repeat' first
  | with_reducible apply q9w
  | with_reducible apply qbq
  | with_reducible apply q9x
  | with_reducible refine OLe.loop (λ_=> ?_) _ _
  | with_reducible refine OLe.lend (λ_=> ?_) ?_
  | with_reducible refine OLe.cond ?_ ?_
  | with_reducible refine OLe.bind ?_ (λ_=> ?_)
  | (split <;> try dsimp only)
  | with_reducible exact OLe.refl _
def q4r(p_0:Int):Option Bool:=
 some ((decide (p_0 < 0)) || (decide (p_0 >= 8)))
theorem q9v(p_0:Int):OLe (q4r p_0) (q31 p_0):=by
 unfold q4r q31
 repeat' first
  | with_reducible refine OLe.loop (λ_=> ?_) _ _
  | with_reducible refine OLe.lend (λ_=> ?_) ?_
  | with_reducible refine OLe.cond ?_ ?_
  | with_reducible refine OLe.bind ?_ (λ_=> ?_)
  | (split <;> try dsimp only)
  | with_reducible exact OLe.refl _
def q0f(s_0:Sl Int):Int->Option (Int ⊕ (Int ⊕ Unit)):=λi2=>
 bif decide (i2 < (s_0.l.length:Int))then ((ixI i2 s_0.l.length).bind λn3=>
 (q4r (gt s_0.l n3)).bind λr4=>
 bif r4 then (some (.inr (.inl i2)))else
 (some (.inl (wr .i64 (i2+1)))))else
 (some (.inr (.inr ())))
theorem q1q(s_0:Sl Int):∀s,OLe (q0f s_0 s) (q02 s_0 s):=by
 intro s
 unfold q0f q02
 repeat' first
  | with_reducible apply q9v
  | with_reducible refine OLe.loop (λ_=> ?_) _ _
  | with_reducible refine OLe.lend (λ_=> ?_) ?_
  | with_reducible refine OLe.cond ?_ ?_
  | with_reducible refine OLe.bind ?_ (λ_=> ?_)
  | (split <;> try dsimp only)
  | with_reducible exact OLe.refl _
def q0g(s_0:Sl Int):Option Int:=
 (loopN 100000 (q0f s_0) 0).bind fun
 | .inl i5=>(some i5)
 | .inr _=>(some (-1))
theorem q23(s_0:Sl Int):OLe (q0g s_0) (q06 s_0):=by
 unfold q0g q06
 repeat' first
  | with_reducible apply q1q
  | with_reducible refine OLe.loop (λ_=> ?_) _ _
  | with_reducible refine OLe.lend (λ_=> ?_) ?_
  | with_reducible refine OLe.cond ?_ ?_
  | with_reducible refine OLe.bind ?_ (λ_=> ?_)
  | (split <;> try dsimp only)
  | with_reducible exact OLe.refl _
def q0e(s_0:Sl Int):Option Bool:=
 (q0g s_0).bind λr1=>
 some (decide (r1 >= 0))
theorem q1p(s_0:Sl Int):OLe (q0e s_0) (q01 s_0):=by
 unfold q0e q01
 repeat' first
  | with_reducible apply q23
  | with_reducible refine OLe.loop (λ_=> ?_) _ _
  | with_reducible refine OLe.lend (λ_=> ?_) ?_
  | with_reducible refine OLe.cond ?_ ?_
  | with_reducible refine OLe.bind ?_ (λ_=> ?_)
  | (split <;> try dsimp only)
  | with_reducible exact OLe.refl _
def q3w(t_0:api_Topo)(r_1:Sl (Sl Int)):Int->Option (Int ⊕ (Bool ⊕ Unit)):=λi3=>
 bif decide (i3 < (r_1.l.length:Int))then ((ixI i3 r_1.l.length).bind λn4=>
 (bif ((((gt r_1.l n4).l).length:Int) != (((api_Topo.Hosts t_0).l).length:Int))then (some true)else
 ((q0e (gt r_1.l n4)).bind λr5=>
 some r5):Option Bool).bind λb6=>
 bif b6 then (some (.inr (.inl false)))else
 (some (.inl (wr .i64 (i3+1)))))else
 (some (.inr (.inr ())))
theorem q8s(t_0:api_Topo)(r_1:Sl (Sl Int)):∀s,OLe (q3w t_0 r_1 s) (q1y t_0 r_1 s):=by
 intro s
 unfold q3w q1y
 repeat' first
  | with_reducible apply q1p
  | with_reducible refine OLe.loop (λ_=> ?_) _ _
  | with_reducible refine OLe.lend (λ_=> ?_) ?_
  | with_reducible refine OLe.cond ?_ ?_
  | with_reducible refine OLe.bind ?_ (λ_=> ?_)
  | (split <;> try dsimp only)
  | with_reducible exact OLe.refl _
def q2v(t_0:api_Topo)(r_1:Sl (Sl Int)):Option Bool:=
 (q70 t_0).bind λr1=>
 bif ((!r1) || ((r_1.l.length:Int) != (api_Topo.Switches t_0)))then (some false)else
 ((loopN 100000 (q3w t_0 r_1) 0).bind fun
 | .inl b7=>(some b7)
 | .inr _=>(some true))
theorem q5f(t_0:api_Topo)(r_1:Sl (Sl Int)):OLe (q2v t_0 r_1) (q1u t_0 r_1):=by
 unfold q2v q1u
 repeat' first
  | with_reducible apply qdc
  | with_reducible apply q8s
  | with_reducible refine OLe.loop (λ_=> ?_) _ _
  | with_reducible refine OLe.lend (λ_=> ?_) ?_
  | with_reducible refine OLe.cond ?_ ?_
  | with_reducible refine OLe.bind ?_ (λ_=> ?_)
  | (split <;> try dsimp only)
  | with_reducible exact OLe.refl _
def q51(r_0:Sl (Sl Int))(sw_1:Int)(h_2:Int):Option (Int×Bool):=
 (bif (((decide (sw_1 < 0)) || (decide (sw_1 >= (r_0.l.length:Int)))) || (decide (h_2 < 0)))then (some true)else
 ((ixI sw_1 r_0.l.length).bind λn1=>
 some (decide (h_2 >= (((gt r_0.l n1).l).length:Int)))):Option Bool).bind λb2=>
 bif b2 then (some (0,false))else
 ((ixI sw_1 r_0.l.length).bind λn3=>
 (ixI h_2 ((gt r_0.l n3).l).length).bind λn4=>
 some (gt ((gt r_0.l n3).l) n4,true))
theorem q8j(r_0:Sl (Sl Int))(sw_1:Int)(h_2:Int):OLe (q51 r_0 sw_1 h_2) (q37 r_0 sw_1 h_2):=by
 unfold q51 q37
 repeat' first
  | with_reducible refine OLe.loop (λ_=> ?_) _ _
  | with_reducible refine OLe.lend (λ_=> ?_) ?_
  | with_reducible refine OLe.cond ?_ ?_
  | with_reducible refine OLe.bind ?_ (λ_=> ?_)
  | (split <;> try dsimp only)
  | with_reducible exact OLe.refl _
def q1g(s_0:Sl Int)(v_1:Int):Int->Option (Int ⊕ (Int ⊕ Unit)):=λi2=>
 bif decide (i2 < (s_0.l.length:Int))then ((ixI i2 s_0.l.length).bind λn3=>
 bif (v_1 == (gt s_0.l n3))then (some (.inr (.inl i2)))else
 (some (.inl (wr .i64 (i2+1)))))else
 (some (.inr (.inr ())))
theorem q4u(s_0:Sl Int)(v_1:Int):∀s,OLe (q1g s_0 v_1 s) (q0k s_0 v_1 s):=by
 intro s
 unfold q1g q0k
 repeat' first
  | with_reducible refine OLe.loop (λ_=> ?_) _ _
  | with_reducible refine OLe.lend (λ_=> ?_) ?_
  | with_reducible refine OLe.cond ?_ ?_
  | with_reducible refine OLe.bind ?_ (λ_=> ?_)
  | (split <;> try dsimp only)
  | with_reducible exact OLe.refl _
def q24(s_0:Sl Int)(v_1:Int):Option Int:=
 (loopN 100000 (q1g s_0 v_1) 0).bind fun
 | .inl i4=>(some i4)
 | .inr _=>(some (-1))
theorem q6a(s_0:Sl Int)(v_1:Int):OLe (q24 s_0 v_1) (q14 s_0 v_1):=by
 unfold q24 q14
 repeat' first
  | with_reducible apply q4u
  | with_reducible refine OLe.loop (λ_=> ?_) _ _
  | with_reducible refine OLe.lend (λ_=> ?_) ?_
  | with_reducible refine OLe.cond ?_ ?_
  | with_reducible refine OLe.bind ?_ (λ_=> ?_)
  | (split <;> try dsimp only)
  | with_reducible exact OLe.refl _
def q0z(s_0:Sl Int)(v_1:Int):Option Bool:=
 (q24 s_0 v_1).bind λr1=>
 some (decide (r1 >= 0))
theorem q2h(s_0:Sl Int)(v_1:Int):OLe (q0z s_0 v_1) (q09 s_0 v_1):=by
 unfold q0z q09
 repeat' first
  | with_reducible apply q6a
  | with_reducible refine OLe.loop (λ_=> ?_) _ _
  | with_reducible refine OLe.lend (λ_=> ?_) ?_
  | with_reducible refine OLe.cond ?_ ?_
  | with_reducible refine OLe.bind ?_ (λ_=> ?_)
  | (split <;> try dsimp only)
  | with_reducible exact OLe.refl _
def q3g(l_0:Sl Int):Option Bool:=
 (bif decide ((l_0.l.length:Int) > 0)then ((cutI l_0.l 0 (wr .i64 ((l_0.l.length:Int) - 1))).bind λl1=>
 (ixI (wr .i64 ((l_0.l.length:Int) - 1)) l_0.l.length).bind λn2=>
 (q0z (l_0.to l1) (gt l_0.l n2)).bind λr3=>
 some r3)else
 (some false):Option Bool).bind λb4=>
 some b4
theorem q8g(l_0:Sl Int):OLe (q3g l_0) (q1b l_0):=by
 unfold q3g q1b
 repeat' first
  | with_reducible apply q2h
  | with_reducible refine OLe.loop (λ_=> ?_) _ _
  | with_reducible refine OLe.lend (λ_=> ?_) ?_
  | with_reducible refine OLe.cond ?_ ?_
  | with_reducible refine OLe.bind ?_ (λ_=> ?_)
  | (split <;> try dsimp only)
  | with_reducible exact OLe.refl _
def q5c(t_0:api_Topo)(sw_1:Int)(port_2:Int):Int->Option (Int ⊕ ((Int×Int×Int×Bool) ⊕ Unit)):=λi2=>
 bif decide (i2 < (((api_Topo.Links t_0).l).length:Int))then ((ixI i2 ((api_Topo.Links t_0).l).length).bind λn3=>
 bif decide ((⟨sw_1,port_2⟩:topo_place)=(⟨api_Link.A (gt ((api_Topo.Links t_0).l) n3),api_Link.PortA (gt ((api_Topo.Links t_0).l) n3)⟩:topo_place))then (some (.inr (.inl (api_Link.B (gt ((api_Topo.Links t_0).l) n3),api_Link.PortB (gt ((api_Topo.Links t_0).l) n3),i2,true))))else
 (bif decide ((⟨sw_1,port_2⟩:topo_place)=(⟨api_Link.B (gt ((api_Topo.Links t_0).l) n3),api_Link.PortB (gt ((api_Topo.Links t_0).l) n3)⟩:topo_place))then (some (.inr (.inl (api_Link.A (gt ((api_Topo.Links t_0).l) n3),api_Link.PortA (gt ((api_Topo.Links t_0).l) n3),i2,true))))else
 (some (.inl (wr .i64 (i2+1))))))else
 (some (.inr (.inr ())))
theorem qah(t_0:api_Topo)(sw_1:Int)(port_2:Int):∀s,OLe (q5c t_0 sw_1 port_2 s) (q2u t_0 sw_1 port_2 s):=by
 intro s
 unfold q5c q2u
 repeat' first
  | with_reducible refine OLe.loop (λ_=> ?_) _ _
  | with_reducible refine OLe.lend (λ_=> ?_) ?_
  | with_reducible refine OLe.cond ?_ ?_
  | with_reducible refine OLe.bind ?_ (λ_=> ?_)
  | (split <;> try dsimp only)
  | with_reducible exact OLe.refl _
def q7q(t_0:api_Topo)(sw_1:Int)(port_2:Int):Option (Int×Int×Int×Bool):=
 (loopN 100000 (q5c t_0 sw_1 port_2) 0).bind fun
 | .inl (i4,i5,i6,b7)=>(some (i4,i5,i6,b7))
 | .inr _=>(some (0,0,0,false))
theorem qeo(t_0:api_Topo)(sw_1:Int)(port_2:Int):OLe (q7q t_0 sw_1 port_2) (q5k t_0 sw_1 port_2):=by
 unfold q7q q5k
 repeat' first
  | with_reducible apply qah
  | with_reducible refine OLe.loop (λ_=> ?_) _ _
  | with_reducible refine OLe.lend (λ_=> ?_) ?_
  | with_reducible refine OLe.cond ?_ ?_
  | with_reducible refine OLe.bind ?_ (λ_=> ?_)
  | (split <;> try dsimp only)
  | with_reducible exact OLe.refl _
def q75(t_0:api_Topo)(r_1:Sl (Sl Int))(sw_2:Int)(h_3:Int):Option (Int×Bool):=
 (q51 r_1 sw_2 h_3).bind λ(r1,r2)=>
 bif (!r2)then (some (0,false))else
 ((q7q t_0 sw_2 r1).bind λ(r3,r4,r5,r6)=>
 some (r3,r6))
theorem qcx(t_0:api_Topo)(r_1:Sl (Sl Int))(sw_2:Int)(h_3:Int):OLe (q75 t_0 r_1 sw_2 h_3) (q44 t_0 r_1 sw_2 h_3):=by
 unfold q75 q44
 repeat' first
  | with_reducible apply q8j
  | with_reducible apply qeo
  | with_reducible refine OLe.loop (λ_=> ?_) _ _
  | with_reducible refine OLe.lend (λ_=> ?_) ?_
  | with_reducible refine OLe.cond ?_ ?_
  | with_reducible refine OLe.bind ?_ (λ_=> ?_)
  | (split <;> try dsimp only)
  | with_reducible exact OLe.refl _
def q4k(t_0:api_Topo)(r_1:Sl (Sl Int))(h_3:Int):(Sl Int)->Option (Sl Int ⊕ ((Int×Sl Int) ⊕ Unit)):=λs6=>
 (q3g s6).bind λr7=>
 bif (!r7)then ((ixI (wr .i64 ((s6.l.length:Int) - 1)) s6.l.length).bind λn8=>
 (ixI h_3 ((api_Topo.Hosts t_0).l).length).bind λn9=>
 (ixI (gt s6.l n8) r_1.l.length).bind λn10=>
 (ixI h_3 ((gt r_1.l n10).l).length).bind λn11=>
 bif decide ((gt ((api_Topo.Hosts t_0).l) n9)=(⟨gt s6.l n8,gt ((gt r_1.l n10).l) n11⟩:api_Host))then (some (.inr (.inl (0,s6))))else
 ((q75 t_0 r_1 (gt s6.l n8) h_3).bind λ(r12,r13)=>
 bif (!r13)then (some (.inr (.inl (13,Sl.nil))))else
 ((capI (s6.l++ [r12])).bind λl14=>
 some (.inl (Sl.mk l14)))))else
 (some (.inr (.inr ())))
theorem q9z(t_0:api_Topo)(r_1:Sl (Sl Int))(h_3:Int):∀s,OLe (q4k t_0 r_1 h_3 s) (q1t t_0 r_1 h_3 s):=by
 intro s
 unfold q4k q1t
 repeat' first
  | with_reducible apply q8g
  | with_reducible apply qcx
  | with_reducible refine OLe.loop (λ_=> ?_) _ _
  | with_reducible refine OLe.lend (λ_=> ?_) ?_
  | with_reducible refine OLe.cond ?_ ?_
  | with_reducible refine OLe.bind ?_ (λ_=> ?_)
  | (split <;> try dsimp only)
  | with_reducible exact OLe.refl _
def q6t(t_0:api_Topo)(r_1:Sl (Sl Int))(sw_2:Int)(h_3:Int):Option (Sl Int×Int):=
 (q51 r_1 sw_2 h_3).bind λ(r1,r2)=>
 (bif (!r2)then (some true)else
 ((q2v t_0 r_1).bind λr3=>
 some (!r3)):Option Bool).bind λb4=>
 bif b4 then (some (Sl.nil,2))else
 ((loopN 100000 (q4k t_0 r_1 h_3) (Sl.mk [sw_2])).bind fun
 | .inl (i15,s16)=>(some (s16,i15))
 | .inr _=>(some (Sl.nil,12)))
theorem qdg(t_0:api_Topo)(r_1:Sl (Sl Int))(sw_2:Int)(h_3:Int):OLe (q6t t_0 r_1 sw_2 h_3) (q47 t_0 r_1 sw_2 h_3):=by
 unfold q6t q47
 repeat' first
  | with_reducible apply q8j
  | with_reducible apply q5f
  | with_reducible apply q9z
  | with_reducible refine OLe.loop (λ_=> ?_) _ _
  | with_reducible refine OLe.lend (λ_=> ?_) ?_
  | with_reducible refine OLe.cond ?_ ?_
  | with_reducible refine OLe.bind ?_ (λ_=> ?_)
  | (split <;> try dsimp only)
  | with_reducible exact OLe.refl _
def q5g(t_0:api_Topo)(r_1:Sl (Sl Int))(h_2:Int):(Int×Sl Int)->Option ((Int×Sl Int) ⊕ (Sl Int)):=λ(i5,s6)=>
 bif decide (i5 < (r_1.l.length:Int))then ((q6t t_0 r_1 i5 h_2).bind λ(r7,r8)=>
 (capI (s6.l++ [wr .i64 ((r7.l.length:Int) - 1)])).bind λl9=>
 some (.inl (wr .i64 (i5+1),(Sl.mk l9))))else
 (some (.inr s6))
theorem qay(t_0:api_Topo)(r_1:Sl (Sl Int))(h_2:Int):∀s,OLe (q5g t_0 r_1 h_2 s) (q28 t_0 r_1 h_2 s):=by
 intro s
 unfold q5g q28
 repeat' first
  | with_reducible apply qdg
  | with_reducible refine OLe.loop (λ_=> ?_) _ _
  | with_reducible refine OLe.lend (λ_=> ?_) ?_
  | with_reducible refine OLe.cond ?_ ?_
  | with_reducible refine OLe.bind ?_ (λ_=> ?_)
  | (split <;> try dsimp only)
  | with_reducible exact OLe.refl _
def q6i(t_0:api_Topo)(r_1:Sl (Sl Int))(h_2:Int):Option (Sl Int):=
 (q2v t_0 r_1).bind λr1=>
 bif (((!r1) || (decide (h_2 < 0))) || (decide (h_2 >= (((api_Topo.Hosts t_0).l).length:Int))))then (some Sl.nil)else
 ((loopN 100000 (q5g t_0 r_1 h_2) (0,Sl.nil)).bind λs10=>
 some s10)
theorem q9e(t_0:api_Topo)(r_1:Sl (Sl Int))(h_2:Int):OLe (q6i t_0 r_1 h_2) (q4s t_0 r_1 h_2):=by
 unfold q6i q4s
 repeat' first
  | with_reducible apply q5f
  | with_reducible apply qay
  | with_reducible refine OLe.loop (λ_=> ?_) _ _
  | with_reducible refine OLe.lend (λ_=> ?_) ?_
  | with_reducible refine OLe.cond ?_ ?_
  | with_reducible refine OLe.bind ?_ (λ_=> ?_)
  | (split <;> try dsimp only)
  | with_reducible exact OLe.refl _
def q4q(t_0:api_Topo)(r_1:Sl (Sl Int)):Int->Option (Int ⊕ (Bool ⊕ Unit)):=λi3=>
 bif decide (i3 < (((api_Topo.Hosts t_0).l).length:Int))then ((q6i t_0 r_1 i3).bind λr4=>
 (q0z r4 (-1)).bind λr5=>
 bif r5 then (some (.inr (.inl false)))else
 (some (.inl (wr .i64 (i3+1)))))else
 (some (.inr (.inr ())))
theorem q9s(t_0:api_Topo)(r_1:Sl (Sl Int)):∀s,OLe (q4q t_0 r_1 s) (q2e t_0 r_1 s):=by
 intro s
 unfold q4q q2e
 repeat' first
  | with_reducible apply q9e
  | with_reducible apply q2h
  | with_reducible refine OLe.loop (λ_=> ?_) _ _
  | with_reducible refine OLe.lend (λ_=> ?_) ?_
  | with_reducible refine OLe.cond ?_ ?_
  | with_reducible refine OLe.bind ?_ (λ_=> ?_)
  | (split <;> try dsimp only)
  | with_reducible exact OLe.refl _
def q5a(t_0:api_Topo)(r_1:Sl (Sl Int)):Option Bool:=
 (q2v t_0 r_1).bind λr1=>
 bif (!r1)then (some false)else
 ((loopN 100000 (q4q t_0 r_1) 0).bind fun
 | .inl b6=>(some b6)
 | .inr _=>(some true))
theorem qdz(t_0:api_Topo)(r_1:Sl (Sl Int)):OLe (q5a t_0 r_1) (q3h t_0 r_1):=by
 unfold q5a q3h
 repeat' first
  | with_reducible apply q5f
  | with_reducible apply q9s
  | with_reducible refine OLe.loop (λ_=> ?_) _ _
  | with_reducible refine OLe.lend (λ_=> ?_) ?_
  | with_reducible refine OLe.cond ?_ ?_
  | with_reducible refine OLe.bind ?_ (λ_=> ?_)
  | (split <;> try dsimp only)
  | with_reducible exact OLe.refl _
def q3t(old_1:Sl (Sl Int))(now_2:Sl (Sl Int))(i7:Int)(r9:Sl Int):(Int×Sl level_Move)->Option ((Int×Sl level_Move) ⊕ (Sl level_Move)):=λ(i12,s13)=>
 bif decide (i12 < (now_2.l.length:Int))then (((ixI i12 now_2.l.length).bind λn14=>
 (ixI i7 ((gt now_2.l n14).l).length).bind λn15=>
 (ixI i12 old_1.l.length).bind λn16=>
 (ixI i7 ((gt old_1.l n16).l).length).bind λn17=>
 bif ((gt ((gt now_2.l n14).l) n15) != (gt ((gt old_1.l n16).l) n17))then ((ixI i12 now_2.l.length).bind λn18=>
 (ixI i7 ((gt now_2.l n18).l).length).bind λn19=>
 (ixI i12 r9.l.length).bind λn20=>
 (capI (s13.l++ [(⟨i12,i7,gt ((gt now_2.l n18).l) n19,gt r9.l n20⟩:level_Move)])).bind λl21=>
 some (Sl.mk l21))else
 (some s13):Option (Sl level_Move)).bind λs22=>
 some (.inl (wr .i64 (i12+1),s22)))else
 (some (.inr s13))
theorem q98(old_1:Sl (Sl Int))(now_2:Sl (Sl Int))(i7:Int)(r9:Sl Int):∀s,OLe (q3t old_1 now_2 i7 r9 s) (q16 old_1 now_2 i7 r9 s):=by
 intro s
 unfold q3t q16
 repeat' first
  | with_reducible refine OLe.loop (λ_=> ?_) _ _
  | with_reducible refine OLe.lend (λ_=> ?_) ?_
  | with_reducible refine OLe.cond ?_ ?_
  | with_reducible refine OLe.bind ?_ (λ_=> ?_)
  | (split <;> try dsimp only)
  | with_reducible exact OLe.refl _
def q3r(t_0:api_Topo)(old_1:Sl (Sl Int))(now_2:Sl (Sl Int)):(Int×Sl level_Move)->Option ((Int×Sl level_Move) ⊕ (Sl level_Move)):=λ(i7,s8)=>
 bif decide (i7 < (((api_Topo.Hosts t_0).l).length:Int))then ((q6i t_0 now_2 i7).bind λr9=>
 (loopN 100000 (q3t old_1 now_2 i7 r9) (0,s8)).bind λs23=>
 some (.inl (wr .i64 (i7+1),s23)))else
 (some (.inr s8))
theorem q9b(t_0:api_Topo)(old_1:Sl (Sl Int))(now_2:Sl (Sl Int)):∀s,OLe (q3r t_0 old_1 now_2 s) (q21 t_0 old_1 now_2 s):=by
 intro s
 unfold q3r q21
 repeat' first
  | with_reducible apply q9e
  | with_reducible apply q98
  | with_reducible refine OLe.loop (λ_=> ?_) _ _
  | with_reducible refine OLe.lend (λ_=> ?_) ?_
  | with_reducible refine OLe.cond ?_ ?_
  | with_reducible refine OLe.bind ?_ (λ_=> ?_)
  | (split <;> try dsimp only)
  | with_reducible exact OLe.refl _
def q6e(t_0:api_Topo)(old_1:Sl (Sl Int))(now_2:Sl (Sl Int)):Option (Sl level_Move×Int):=
 ((q5a t_0 old_1).bind λr1=>
 bif (!r1)then (some true)else
 ((q5a t_0 now_2).bind λr2=>
 some (!r2)):Option Bool).bind λb3=>
 bif b3 then (some (Sl.nil,2))else
 ((loopN 100000 (q3r t_0 old_1 now_2) (0,Sl.nil)).bind λs24=>
 (q9q s24).bind λs25=>
 (lenS s25 s24).bind λ_=>
 some (s25,0))
theorem qbn(t_0:api_Topo)(old_1:Sl (Sl Int))(now_2:Sl (Sl Int)):OLe (q6e t_0 old_1 now_2) (q2n t_0 old_1 now_2):=by
 unfold q6e q2n
 repeat' first
  | with_reducible apply qdz
  | with_reducible apply q9b
  | with_reducible apply qof
  | with_reducible refine OLe.loop (λ_=> ?_) _ _
  | with_reducible refine OLe.lend (λ_=> ?_) ?_
  | with_reducible refine OLe.cond ?_ ?_
  | with_reducible refine OLe.bind ?_ (λ_=> ?_)
  | (split <;> try dsimp only)
  | with_reducible exact OLe.refl _
def q3a(l_0:Sl level_Move):(Int×Sl Int)->Option ((Int×Sl Int) ⊕ (Sl Int)):=λ(i4,s5)=>
 bif decide (i4 < (l_0.l.length:Int))then ((ixI i4 l_0.l.length).bind λn6=>
 (capI (s5.l++ [level_Move.Round (gt l_0.l n6)])).bind λl7=>
 some (.inl (wr .i64 (i4+1),(Sl.mk l7))))else
 (some (.inr s5))
theorem q8f(l_0:Sl level_Move):∀s,OLe (q3a l_0 s) (q4a l_0 s):=by
 intro s
 unfold q3a q4a
 repeat' first
  | with_reducible refine OLe.loop (λ_=> ?_) _ _
  | with_reducible refine OLe.lend (λ_=> ?_) ?_
  | with_reducible refine OLe.cond ?_ ?_
  | with_reducible refine OLe.bind ?_ (λ_=> ?_)
  | (split <;> try dsimp only)
  | with_reducible exact OLe.refl _
def q5d(l_0:Sl level_Move):Option (Sl Int):=
 (loopN 100000 (q3a l_0) (0,Sl.nil)).bind λs8=>
 (q9q s8).bind λs9=>
 (lenS s9 s8).bind λ_=>
 (q9q s9).bind λs10=>
 some s10
theorem qal(l_0:Sl level_Move):OLe (q5d l_0) (q4v l_0):=by
 unfold q5d q4v
 repeat' first
  | with_reducible apply q8f
  | with_reducible apply qsr
  | with_reducible apply qtg
  | with_reducible refine OLe.loop (λ_=> ?_) _ _
  | with_reducible refine OLe.lend (λ_=> ?_) ?_
  | with_reducible refine OLe.cond ?_ ?_
  | with_reducible refine OLe.bind ?_ (λ_=> ?_)
  | (split <;> try dsimp only)
  | with_reducible exact OLe.refl _
def q4o(a_0:Sl Int)(b_1:Sl Int):Int->Option (Int ⊕ (Bool ⊕ Unit)):=λi2=>
 bif decide (i2 < (a_0.l.length:Int))then ((ixI i2 a_0.l.length).bind λn3=>
 (ixI i2 b_1.l.length).bind λn4=>
 bif ((gt a_0.l n3) != (gt b_1.l n4))then (some (.inr (.inl false)))else
 (some (.inl (wr .i64 (i2+1)))))else
 (some (.inr (.inr ())))
theorem q9t(a_0:Sl Int)(b_1:Sl Int):∀s,OLe (q4o a_0 b_1 s) (q2c a_0 b_1 s):=by
 intro s
 unfold q4o q2c
 repeat' first
  | with_reducible refine OLe.loop (λ_=> ?_) _ _
  | with_reducible refine OLe.lend (λ_=> ?_) ?_
  | with_reducible refine OLe.cond ?_ ?_
  | with_reducible refine OLe.bind ?_ (λ_=> ?_)
  | (split <;> try dsimp only)
  | with_reducible exact OLe.refl _
def q6s(a_0:Sl Int)(b_1:Sl Int):Option Bool:=
 bif ((a_0.l.length:Int) != (b_1.l.length:Int))then (some false)else
 ((loopN 100000 (q4o a_0 b_1) 0).bind fun
 | .inl b5=>(some b5)
 | .inr _=>(some true))
theorem qcy(a_0:Sl Int)(b_1:Sl Int):OLe (q6s a_0 b_1) (q3c a_0 b_1):=by
 unfold q6s q3c
 repeat' first
  | with_reducible apply q9t
  | with_reducible refine OLe.loop (λ_=> ?_) _ _
  | with_reducible refine OLe.lend (λ_=> ?_) ?_
  | with_reducible refine OLe.cond ?_ ?_
  | with_reducible refine OLe.bind ?_ (λ_=> ?_)
  | (split <;> try dsimp only)
  | with_reducible exact OLe.refl _
def q87:Option Bool:=
 (q6e (⟨3,(Sl.mk [(⟨0,0,1,0,1,1⟩:api_Link),(⟨1,1,2,0,1,1⟩:api_Link),(⟨0,1,2,1,1,1⟩:api_Link)]),(Sl.mk [(⟨2,7⟩:api_Host)])⟩:api_Topo) (Sl.mk [(Sl.mk [0]),(Sl.mk [1]),(Sl.mk [7])]) (Sl.mk [(Sl.mk [1]),(Sl.mk [1]),(Sl.mk [7])])).bind λ(r1,r2)=>
 (bif ((r2 == 0) && ((r1.l.length:Int) == 1))then ((ixI 0 r1.l.length).bind λn3=>
 bif decide ((gt r1.l n3)=(⟨0,0,1,1⟩:level_Move))then ((q5d r1).bind λr4=>
 (q6s r4 (Sl.mk [1])).bind λr5=>
 some r5)else
 (some false))else
 (some false):Option Bool).bind λb6=>
 some b6
theorem qbo:OLe (q87) (q2p):=by
 unfold q87 q2p
 repeat' first
  | with_reducible apply qbn
  | with_reducible apply qal
  | with_reducible apply qcy
  | with_reducible refine OLe.loop (λ_=> ?_) _ _
  | with_reducible refine OLe.lend (λ_=> ?_) ?_
  | with_reducible refine OLe.cond ?_ ?_
  | with_reducible refine OLe.bind ?_ (λ_=> ?_)
  | (split <;> try dsimp only)
  | with_reducible exact OLe.refl _
theorem q1d:q2p=some true:=qbo _ (by decide +kernel)
end Go.Proofs.Ythcplpfiidlinaa.L
