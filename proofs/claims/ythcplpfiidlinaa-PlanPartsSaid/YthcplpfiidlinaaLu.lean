/- q22 answers true: by running its twin. Conditions: none. -/
import Derived.Test.YthcplpfiidlinaaL
import Derived.Test.YthcplpfiidlinaaTwin
import Derived.Test.YthcplpfiidlinaaLP
open Go.Ev Go
namespace Go.Proofs.Ythcplpfiidlinaa.L
noncomputable def q6j(t_0:api_Topo):Option (Sl topo_place):=
 (loopN 100000 (q31 t_0) (0,Sl.nil)).bind λs8=>
 (loopN 100000 (q2y t_0) (0,s8)).bind λs15=>
 some s15
theorem qbx(t_0:api_Topo):OLe (q6j t_0) (q3p t_0):=by
 unfold q6j q3p
 repeat' first
  | with_reducible refine OLe.loop (λ_=> ?_) _ _
  | with_reducible refine OLe.bind ?_ (λ_=> ?_)
  | (split <;> try dsimp only)
  | with_reducible exact OLe.refl _
noncomputable def q76(t_0:api_Topo):Option Bool:=
 bif ((((decide ((api_Topo.Switches t_0) < 1)) || (decide ((api_Topo.Switches t_0) > 8))) || (decide ((((api_Topo.Links t_0).l).length:Int) > 24))) || (decide ((((api_Topo.Hosts t_0).l).length:Int) > 8)))then (some false)else
 ((loopN 100000 (q3b t_0) 0).bind fun
 | .inl b4=>(some b4)
 | .inr _=>((q6j t_0).bind λr5=>
 (loopN 100000 (q1l t_0 r5) (0,(Mp.none:Mp topo_place Int))).bind fun
 | .inl b13=>(some b13)
 | .inr _=>(some true)))
theorem qdl(t_0:api_Topo):OLe (q76 t_0) (q4g t_0):=by
 unfold q76 q4g
 repeat' first
  | with_reducible apply qbx
  | with_reducible refine OLe.loop (λ_=> ?_) _ _
  | with_reducible refine OLe.cond ?_ ?_
  | with_reducible refine OLe.bind ?_ (λ_=> ?_)
  | (split <;> try dsimp only)
  | with_reducible exact OLe.refl _
noncomputable def q0l(s_0:Sl Int):Option Int:=
 (loopN 100000 (q07 s_0) 0).bind fun
 | .inl i5=>(some i5)
 | .inr _=>(some (-1))
theorem q2e(s_0:Sl Int):OLe (q0l s_0) (q0b s_0):=by
 unfold q0l q0b
 repeat' first
  | with_reducible refine OLe.loop (λ_=> ?_) _ _
  | with_reducible refine OLe.bind ?_ (λ_=> ?_)
  | (split <;> try dsimp only)
  | with_reducible exact OLe.refl _
noncomputable def q0j(s_0:Sl Int):Option Bool:=
 (q0l s_0).bind λr1=>
 some (decide (r1 >= 0))
theorem q1z(s_0:Sl Int):OLe (q0j s_0) (q04 s_0):=by
 unfold q0j q04
 repeat' first
  | with_reducible apply q2e
  | with_reducible refine OLe.bind ?_ (λ_=> ?_)
  | (split <;> try dsimp only)
  | with_reducible exact OLe.refl _
noncomputable def q46(t_0:api_Topo)(r_1:Sl (Sl Int)):Int->Option (Int ⊕ (Bool ⊕ Unit)):=λi3=>
 bif decide (i3 < (r_1.l.length:Int))then ((ixI i3 r_1.l.length).bind λn4=>
 (bif ((((gt r_1.l n4).l).length:Int) != (((api_Topo.Hosts t_0).l).length:Int))then (some true)else
 ((q0j (gt r_1.l n4)).bind λr5=>
 some r5):Option Bool).bind λb6=>
 bif b6 then (some (.inr (.inl false)))else
 (some (.inl (wr .i64 (i3+1)))))else
 (some (.inr (.inr ())))
theorem q9m(t_0:api_Topo)(r_1:Sl (Sl Int)):∀s,OLe (q46 t_0 r_1 s) (q2c t_0 r_1 s):=by
 intro s
 unfold q46 q2c
 repeat' first
  | with_reducible apply q1z
  | with_reducible refine OLe.cond ?_ ?_
  | with_reducible refine OLe.bind ?_ (λ_=> ?_)
  | (split <;> try dsimp only)
  | with_reducible exact OLe.refl _
noncomputable def q3i(t_0:api_Topo)(r_1:Sl (Sl Int)):Option Bool:=
 (q76 t_0).bind λr1=>
 bif ((!r1) || ((r_1.l.length:Int) != (api_Topo.Switches t_0)))then (some false)else
 ((loopN 100000 (q46 t_0 r_1) 0).bind fun
 | .inl b7=>(some b7)
 | .inr _=>(some true))
theorem q5e(t_0:api_Topo)(r_1:Sl (Sl Int)):OLe (q3i t_0 r_1) (q26 t_0 r_1):=by
 unfold q3i q26
 repeat' first
  | with_reducible apply qdl
  | with_reducible apply q9m
  | with_reducible refine OLe.loop (λ_=> ?_) _ _
  | with_reducible refine OLe.cond ?_ ?_
  | with_reducible refine OLe.bind ?_ (λ_=> ?_)
  | (split <;> try dsimp only)
  | with_reducible exact OLe.refl _
noncomputable def q2g(s_0:Sl Int)(v_1:Int):Option Int:=
 (loopN 100000 (q0w s_0 v_1) 0).bind fun
 | .inl i4=>(some i4)
 | .inr _=>(some (-1))
theorem q6i(s_0:Sl Int)(v_1:Int):OLe (q2g s_0 v_1) (q19 s_0 v_1):=by
 unfold q2g q19
 repeat' first
  | with_reducible refine OLe.loop (λ_=> ?_) _ _
  | with_reducible refine OLe.bind ?_ (λ_=> ?_)
  | (split <;> try dsimp only)
  | with_reducible exact OLe.refl _
noncomputable def q0q(s_0:Sl Int)(v_1:Int):Option Bool:=
 (q2g s_0 v_1).bind λr1=>
 some (decide (r1 >= 0))
theorem q1k(s_0:Sl Int)(v_1:Int):OLe (q0q s_0 v_1) (q0d s_0 v_1):=by
 unfold q0q q0d
 repeat' first
  | with_reducible apply q6i
  | with_reducible refine OLe.bind ?_ (λ_=> ?_)
  | (split <;> try dsimp only)
  | with_reducible exact OLe.refl _
noncomputable def q3r(l_0:Sl Int):Option Bool:=
 (bif decide ((l_0.l.length:Int) > 0)then ((cutI l_0.l 0 (wr .i64 ((l_0.l.length:Int) - 1))).bind λl1=>
 (ixI (wr .i64 ((l_0.l.length:Int) - 1)) l_0.l.length).bind λn2=>
 (q0q (l_0.to l1) (gt l_0.l n2)).bind λr3=>
 some r3)else
 (some false):Option Bool).bind λb4=>
 some b4
theorem q8o(l_0:Sl Int):OLe (q3r l_0) (q1h l_0):=by
 unfold q3r q1h
 repeat' first
  | with_reducible apply q1k
  | with_reducible refine OLe.cond ?_ ?_
  | with_reducible refine OLe.bind ?_ (λ_=> ?_)
  | (split <;> try dsimp only)
  | with_reducible exact OLe.refl _
noncomputable def q8a(t_0:api_Topo)(sw_1:Int)(port_2:Int):Option (Int×Int×Int×Bool):=
 (loopN 100000 (q42 t_0 sw_1 port_2) 0).bind fun
 | .inl (i4,i5,i6,b7)=>(some (i4,i5,i6,b7))
 | .inr _=>(some (0,0,0,false))
theorem qfr(t_0:api_Topo)(sw_1:Int)(port_2:Int):OLe (q8a t_0 sw_1 port_2) (q5u t_0 sw_1 port_2):=by
 unfold q8a q5u
 repeat' first
  | with_reducible refine OLe.loop (λ_=> ?_) _ _
  | with_reducible refine OLe.bind ?_ (λ_=> ?_)
  | (split <;> try dsimp only)
  | with_reducible exact OLe.refl _
noncomputable def q78(t_0:api_Topo)(r_1:Sl (Sl Int))(sw_2:Int)(h_3:Int):Option (Int×Bool):=
 (q3n r_1 sw_2 h_3).bind λ(r1,r2)=>
 bif (!r2)then (some (0,false))else
 ((q8a t_0 sw_2 r1).bind λ(r3,r4,r5,r6)=>
 some (r3,r6))
theorem qeh(t_0:api_Topo)(r_1:Sl (Sl Int))(sw_2:Int)(h_3:Int):OLe (q78 t_0 r_1 sw_2 h_3) (q4h t_0 r_1 sw_2 h_3):=by
 unfold q78 q4h
 repeat' first
  | with_reducible apply qfr
  | with_reducible refine OLe.cond ?_ ?_
  | with_reducible refine OLe.bind ?_ (λ_=> ?_)
  | (split <;> try dsimp only)
  | with_reducible exact OLe.refl _
noncomputable def q4t(t_0:api_Topo)(r_1:Sl (Sl Int))(h_3:Int):(Sl Int)->Option (Sl Int ⊕ ((Int×Sl Int) ⊕ Unit)):=λs6=>
 (q3r s6).bind λr7=>
 bif (!r7)then ((ixI (wr .i64 ((s6.l.length:Int) - 1)) s6.l.length).bind λn8=>
 (ixI h_3 ((api_Topo.Hosts t_0).l).length).bind λn9=>
 (ixI (gt s6.l n8) r_1.l.length).bind λn10=>
 (ixI h_3 ((gt r_1.l n10).l).length).bind λn11=>
 bif decide ((gt ((api_Topo.Hosts t_0).l) n9)=(⟨gt s6.l n8,gt ((gt r_1.l n10).l) n11⟩:api_Host))then (some (.inr (.inl (0,s6))))else
 ((q78 t_0 r_1 (gt s6.l n8) h_3).bind λ(r12,r13)=>
 bif (!r13)then (some (.inr (.inl (13,Sl.nil))))else
 ((capI (s6.l++ [r12])).bind λl14=>
 some (.inl (Sl.mk l14)))))else
 (some (.inr (.inr ())))
theorem qa3(t_0:api_Topo)(r_1:Sl (Sl Int))(h_3:Int):∀s,OLe (q4t t_0 r_1 h_3 s) (q0k t_0 r_1 h_3 s):=by
 intro s
 unfold q4t q0k
 repeat' first
  | with_reducible apply q8o
  | with_reducible apply qeh
  | with_reducible refine OLe.cond ?_ ?_
  | with_reducible refine OLe.bind ?_ (λ_=> ?_)
  | (split <;> try dsimp only)
  | with_reducible exact OLe.refl _
noncomputable def q73(t_0:api_Topo)(r_1:Sl (Sl Int))(sw_2:Int)(h_3:Int):Option (Sl Int×Int):=
 (q3n r_1 sw_2 h_3).bind λ(r1,r2)=>
 (bif (!r2)then (some true)else
 ((q3i t_0 r_1).bind λr3=>
 some (!r3)):Option Bool).bind λb4=>
 bif b4 then (some (Sl.nil,2))else
 ((loopN 100000 (q4t t_0 r_1 h_3) (Sl.mk [sw_2])).bind fun
 | .inl (i15,s16)=>(some (s16,i15))
 | .inr _=>(some (Sl.nil,12)))
theorem qdk(t_0:api_Topo)(r_1:Sl (Sl Int))(sw_2:Int)(h_3:Int):OLe (q73 t_0 r_1 sw_2 h_3) (q2d t_0 r_1 sw_2 h_3):=by
 unfold q73 q2d
 repeat' first
  | with_reducible apply q5e
  | with_reducible apply qa3
  | with_reducible refine OLe.loop (λ_=> ?_) _ _
  | with_reducible refine OLe.cond ?_ ?_
  | with_reducible refine OLe.bind ?_ (λ_=> ?_)
  | (split <;> try dsimp only)
  | with_reducible exact OLe.refl _
noncomputable def q5j(t_0:api_Topo)(r_1:Sl (Sl Int))(h_2:Int):(Int×Sl Int)->Option ((Int×Sl Int) ⊕ (Sl Int)):=λ(i5,s6)=>
 bif decide (i5 < (r_1.l.length:Int))then ((q73 t_0 r_1 i5 h_2).bind λ(r7,r8)=>
 (capI (s6.l++ [wr .i64 ((r7.l.length:Int) - 1)])).bind λl9=>
 some (.inl (wr .i64 (i5+1),(Sl.mk l9))))else
 (some (.inr s6))
theorem qb9(t_0:api_Topo)(r_1:Sl (Sl Int))(h_2:Int):∀s,OLe (q5j t_0 r_1 h_2 s) (q14 t_0 r_1 h_2 s):=by
 intro s
 unfold q5j q14
 repeat' first
  | with_reducible apply qdk
  | with_reducible refine OLe.cond ?_ ?_
  | with_reducible refine OLe.bind ?_ (λ_=> ?_)
  | (split <;> try dsimp only)
  | with_reducible exact OLe.refl _
noncomputable def q69(t_0:api_Topo)(r_1:Sl (Sl Int))(h_2:Int):Option (Sl Int):=
 (q3i t_0 r_1).bind λr1=>
 bif (((!r1) || (decide (h_2 < 0))) || (decide (h_2 >= (((api_Topo.Hosts t_0).l).length:Int))))then (some Sl.nil)else
 ((loopN 100000 (q5j t_0 r_1 h_2) (0,Sl.nil)).bind λs10=>
 some s10)
theorem q9x(t_0:api_Topo)(r_1:Sl (Sl Int))(h_2:Int):OLe (q69 t_0 r_1 h_2) (q3a t_0 r_1 h_2):=by
 unfold q69 q3a
 repeat' first
  | with_reducible apply q5e
  | with_reducible apply qb9
  | with_reducible refine OLe.loop (λ_=> ?_) _ _
  | with_reducible refine OLe.cond ?_ ?_
  | with_reducible refine OLe.bind ?_ (λ_=> ?_)
  | (split <;> try dsimp only)
  | with_reducible exact OLe.refl _
noncomputable def q4j(t_0:api_Topo)(r_1:Sl (Sl Int)):Int->Option (Int ⊕ (Bool ⊕ Unit)):=λi3=>
 bif decide (i3 < (((api_Topo.Hosts t_0).l).length:Int))then ((q69 t_0 r_1 i3).bind λr4=>
 (q0q r4 (-1)).bind λr5=>
 bif r5 then (some (.inr (.inl false)))else
 (some (.inl (wr .i64 (i3+1)))))else
 (some (.inr (.inr ())))
theorem qa4(t_0:api_Topo)(r_1:Sl (Sl Int)):∀s,OLe (q4j t_0 r_1 s) (q1b t_0 r_1 s):=by
 intro s
 unfold q4j q1b
 repeat' first
  | with_reducible apply q9x
  | with_reducible apply q1k
  | with_reducible refine OLe.cond ?_ ?_
  | with_reducible refine OLe.bind ?_ (λ_=> ?_)
  | (split <;> try dsimp only)
  | with_reducible exact OLe.refl _
noncomputable def q5a(t_0:api_Topo)(r_1:Sl (Sl Int)):Option Bool:=
 (q3i t_0 r_1).bind λr1=>
 bif (!r1)then (some false)else
 ((loopN 100000 (q4j t_0 r_1) 0).bind fun
 | .inl b6=>(some b6)
 | .inr _=>(some true))
theorem qdi(t_0:api_Topo)(r_1:Sl (Sl Int)):OLe (q5a t_0 r_1) (q29 t_0 r_1):=by
 unfold q5a q29
 repeat' first
  | with_reducible apply q5e
  | with_reducible apply qa4
  | with_reducible refine OLe.loop (λ_=> ?_) _ _
  | with_reducible refine OLe.cond ?_ ?_
  | with_reducible refine OLe.bind ?_ (λ_=> ?_)
  | (split <;> try dsimp only)
  | with_reducible exact OLe.refl _
noncomputable def q43(t_0:api_Topo)(old_1:Sl (Sl Int))(now_2:Sl (Sl Int)):(Int×Sl level_Move)->Option ((Int×Sl level_Move) ⊕ (Sl level_Move)):=λ(i7,s8)=>
 bif decide (i7 < (((api_Topo.Hosts t_0).l).length:Int))then ((q69 t_0 now_2 i7).bind λr9=>
 (loopN 100000 (q1q old_1 now_2 i7 r9) (0,s8)).bind λs23=>
 some (.inl (wr .i64 (i7+1),s23)))else
 (some (.inr s8))
theorem q91(t_0:api_Topo)(old_1:Sl (Sl Int))(now_2:Sl (Sl Int)):∀s,OLe (q43 t_0 old_1 now_2 s) (q28 t_0 old_1 now_2 s):=by
 intro s
 unfold q43 q28
 repeat' first
  | with_reducible apply q9x
  | with_reducible refine OLe.loop (λ_=> ?_) _ _
  | with_reducible refine OLe.cond ?_ ?_
  | with_reducible refine OLe.bind ?_ (λ_=> ?_)
  | (split <;> try dsimp only)
  | with_reducible exact OLe.refl _
noncomputable def q67(t_0:api_Topo)(old_1:Sl (Sl Int))(now_2:Sl (Sl Int)):Option (Sl level_Move×Int):=
 ((q5a t_0 old_1).bind λr1=>
 bif (!r1)then (some true)else
 ((q5a t_0 now_2).bind λr2=>
 some (!r2)):Option Bool).bind λb3=>
 bif b3 then (some (Sl.nil,2))else
 ((loopN 100000 (q43 t_0 old_1 now_2) (0,Sl.nil)).bind λs24=>
 (qa1 s24).bind λs25=>
 (lenS s25 s24).bind λ_=>
 some (s25,0))
theorem qc2(t_0:api_Topo)(old_1:Sl (Sl Int))(now_2:Sl (Sl Int)):OLe (q67 t_0 old_1 now_2) (q2j t_0 old_1 now_2):=by
 unfold q67 q2j
 repeat' first
  | with_reducible apply qdi
  | with_reducible apply q91
  | with_reducible apply qpw
  | with_reducible refine OLe.loop (λ_=> ?_) _ _
  | with_reducible refine OLe.cond ?_ ?_
  | with_reducible refine OLe.bind ?_ (λ_=> ?_)
  | (split <;> try dsimp only)
  | with_reducible exact OLe.refl _
noncomputable def q5f(l_0:Sl level_Move):Option (Sl Int):=
 (loopN 100000 (q2n l_0) (0,Sl.nil)).bind λs8=>
 (qa1 s8).bind λs9=>
 (lenS s9 s8).bind λ_=>
 (qa1 s9).bind λs10=>
 some s10
theorem qba(l_0:Sl level_Move):OLe (q5f l_0) (q2o l_0):=by
 unfold q5f q2o
 repeat' first
  | with_reducible apply qtp
  | with_reducible apply qun
  | with_reducible refine OLe.loop (λ_=> ?_) _ _
  | with_reducible refine OLe.bind ?_ (λ_=> ?_)
  | (split <;> try dsimp only)
  | with_reducible exact OLe.refl _
noncomputable def q5h(t_0:api_Topo):Option Int:=
 (loopN 100000 (q1y t_0) (0,0)).bind λi6=>
 some i6
theorem qbl(t_0:api_Topo):OLe (q5h t_0) (q36 t_0):=by
 unfold q5h q36
 repeat' first
  | with_reducible refine OLe.loop (λ_=> ?_) _ _
  | with_reducible refine OLe.bind ?_ (λ_=> ?_)
  | (split <;> try dsimp only)
  | with_reducible exact OLe.refl _
noncomputable def q6c(t_0:api_Topo):Option Int:=
 (q5h t_0).bind λr1=>
 some (wr .i64 ((api_Topo.Switches t_0) * r1))
theorem q9v(t_0:api_Topo):OLe (q6c t_0) (q4v t_0):=by
 unfold q6c q4v
 repeat' first
  | with_reducible apply qbl
  | with_reducible refine OLe.bind ?_ (λ_=> ?_)
  | (split <;> try dsimp only)
  | with_reducible exact OLe.refl _
noncomputable def q7q(t_0:api_Topo)(miss_1:Int):Option Int:=
 (q6c t_0).bind λr1=>
 some (wr .i64 ((wr .i64 ((wr .i64 (2 * miss_1))+r1))+1))
theorem qb7(t_0:api_Topo)(miss_1:Int):OLe (q7q t_0 miss_1) (q62 t_0 miss_1):=by
 unfold q7q q62
 repeat' first
  | with_reducible apply q9v
  | with_reducible refine OLe.bind ?_ (λ_=> ?_)
  | (split <;> try dsimp only)
  | with_reducible exact OLe.refl _
noncomputable def q0c(s_0:Sl diff_After)(f_1_c0:Int):Option Int:=
 (loopN 100000 (q02 s_0 f_1_c0) 0).bind fun
 | .inl i5=>(some i5)
 | .inr _=>(some (-1))
theorem q1a(s_0:Sl diff_After)(f_1_c0:Int):OLe (q0c s_0 f_1_c0) (q03 s_0 f_1_c0):=by
 unfold q0c q03
 repeat' first
  | with_reducible refine OLe.loop (λ_=> ?_) _ _
  | with_reducible refine OLe.bind ?_ (λ_=> ?_)
  | (split <;> try dsimp only)
  | with_reducible exact OLe.refl _
noncomputable def q09(s_0:Sl diff_After)(f_1_c0:Int):Option Bool:=
 (q0c s_0 f_1_c0).bind λr1=>
 some (decide (r1 >= 0))
theorem q15(s_0:Sl diff_After)(f_1_c0:Int):OLe (q09 s_0 f_1_c0) (q01 s_0 f_1_c0):=by
 unfold q09 q01
 repeat' first
  | with_reducible apply q1a
  | with_reducible refine OLe.bind ?_ (λ_=> ?_)
  | (split <;> try dsimp only)
  | with_reducible exact OLe.refl _
noncomputable def q6y(n_0:Int)(l_1:Sl diff_After):Option Bool:=
 bif (((decide (n_0 < 0)) || (decide (n_0 > 64))) || (decide ((l_1.l.length:Int) > 256)))then (some false)else
 ((q09 l_1 n_0).bind λr1=>
 some (!r1))
theorem qdm(n_0:Int)(l_1:Sl diff_After):OLe (q6y n_0 l_1) (q4f n_0 l_1):=by
 unfold q6y q4f
 repeat' first
  | with_reducible apply q15
  | with_reducible refine OLe.cond ?_ ?_
  | with_reducible refine OLe.bind ?_ (λ_=> ?_)
  | (split <;> try dsimp only)
  | with_reducible exact OLe.refl _
noncomputable def q5g(n_0:Int)(l_1:Sl diff_After):(Int×Int×Sl Int×Sl Int)->Option ((Int×Int×Sl Int×Sl Int) ⊕ (Int×Sl Int×Sl Int)):=λ(i9,i10,s11,s12)=>
 bif decide (i10 < (wr .i64 (n_0+1)))then ((loopN 100000 (q1c l_1) ((-1),0,s11,s12)).bind λ(i31,s32,s33)=>
 bif decide (i31 < 0)then (some (.inr (i31,s32,s33)))else
 (some (.inl (i31,wr .i64 (i10+1),s32,s33))))else
 (some (.inr (i9,s11,s12)))
theorem qbj(n_0:Int)(l_1:Sl diff_After):∀s,OLe (q5g n_0 l_1 s) (q2k n_0 l_1 s):=by
 intro s
 unfold q5g q2k
 repeat' first
  | with_reducible refine OLe.loop (λ_=> ?_) _ _
  | with_reducible refine OLe.cond ?_ ?_
  | with_reducible refine OLe.bind ?_ (λ_=> ?_)
  | (split <;> try dsimp only)
  | with_reducible exact OLe.refl _
noncomputable def q88(n_0:Int)(l_1:Sl diff_After):Option (Sl Int×Sl Int×Int):=
 (mkI 0 n_0 n_0).bind λl1=>
 (mkI 0 n_0 n_0).bind λl2=>
 (loopN 100000 (q5g n_0 l_1) ((-1),0,(Sl.mk l1),(Sl.mk l2))).bind λ(i34,s35,s36)=>
 some (s35,s36,i34)
theorem qf7(n_0:Int)(l_1:Sl diff_After):OLe (q88 n_0 l_1) (q5m n_0 l_1):=by
 unfold q88 q5m
 repeat' first
  | with_reducible apply qbj
  | with_reducible refine OLe.loop (λ_=> ?_) _ _
  | with_reducible refine OLe.bind ?_ (λ_=> ?_)
  | (split <;> try dsimp only)
  | with_reducible exact OLe.refl _
noncomputable def q50(n_0:Int)(l_1:Sl diff_After):Option (Sl Int×Bool):=
 (q6y n_0 l_1).bind λr1=>
 bif (!r1)then (some (Sl.nil,false))else
 ((q88 n_0 l_1).bind λ(r2,r3,r4)=>
 bif decide (r4 >= 0)then (some (Sl.nil,false))else
 (some (r2,true)))
theorem qa7(n_0:Int)(l_1:Sl diff_After):OLe (q50 n_0 l_1) (q3j n_0 l_1):=by
 unfold q50 q3j
 repeat' first
  | with_reducible apply qdm
  | with_reducible apply qf7
  | with_reducible refine OLe.cond ?_ ?_
  | with_reducible refine OLe.bind ?_ (λ_=> ?_)
  | (split <;> try dsimp only)
  | with_reducible exact OLe.refl _
noncomputable def q7a(n_0:Int)(gap_1:Int):Option (Sl Int):=
 (loopN 100000 (q2r n_0 gap_1) (1,Sl.nil)).bind λs7=>
 (q50 n_0 s7).bind λ(r8,r9)=>
 some r8
theorem qen(n_0:Int)(gap_1:Int):OLe (q7a n_0 gap_1) (q3q n_0 gap_1):=by
 unfold q7a q3q
 repeat' first
  | with_reducible apply qa7
  | with_reducible refine OLe.loop (λ_=> ?_) _ _
  | with_reducible refine OLe.bind ?_ (λ_=> ?_)
  | (split <;> try dsimp only)
  | with_reducible exact OLe.refl _
noncomputable def q61(l_0:Sl level_Move)(round_1:Int):(Int×Sl Int)->Option ((Int×Sl Int) ⊕ (Sl Int)):=λ(i4,s5)=>
 bif decide (i4 < (l_0.l.length:Int))then (((ixI i4 l_0.l.length).bind λn6=>
 (bif ((level_Move.Round (gt l_0.l n6)) == round_1)then ((q0q s5 (level_Move.Sw (gt l_0.l n6))).bind λr7=>
 some (!r7))else
 (some false):Option Bool).bind λb8=>
 bif b8 then ((capI (s5.l++ [level_Move.Sw (gt l_0.l n6)])).bind λl9=>
 some (Sl.mk l9))else
 (some s5):Option (Sl Int)).bind λs10=>
 some (.inl (wr .i64 (i4+1),s10)))else
 (some (.inr s5))
theorem qc0(l_0:Sl level_Move)(round_1:Int):∀s,OLe (q61 l_0 round_1 s) (q25 l_0 round_1 s):=by
 intro s
 unfold q61 q25
 repeat' first
  | with_reducible apply q1k
  | with_reducible refine OLe.cond ?_ ?_
  | with_reducible refine OLe.bind ?_ (λ_=> ?_)
  | (split <;> try dsimp only)
  | with_reducible exact OLe.refl _
noncomputable def q9e(l_0:Sl level_Move)(round_1:Int):Option (Sl Int):=
 (loopN 100000 (q61 l_0 round_1) (0,Sl.nil)).bind λs11=>
 some s11
theorem qgi(l_0:Sl level_Move)(round_1:Int):OLe (q9e l_0 round_1) (q7l l_0 round_1):=by
 unfold q9e q7l
 repeat' first
  | with_reducible apply qc0
  | with_reducible refine OLe.loop (λ_=> ?_) _ _
  | with_reducible refine OLe.bind ?_ (λ_=> ?_)
  | (split <;> try dsimp only)
  | with_reducible exact OLe.refl _
noncomputable def q5i(at_3:Int)(miss_4:Int)(lead_5:Int)(r5:Sl level_Move)(r7:Int)(r8:Sl Int)(r10:Sl Int):(Int×Sl level_Move×Int×Int×Int×Int×Sl plan_Round)->Option ((Int×Sl level_Move×Int×Int×Int×Int×Sl plan_Round) ⊕ (Sl level_Move×Int×Int×Int×Int×Sl plan_Round)):=λ(i19,s20,i21,i22,i23,i24,s25)=>
 bif decide (i19 < (r10.l.length:Int))then ((ixI i19 r10.l.length).bind λn26=>
 (ixI i19 r8.l.length).bind λn27=>
 (ixI i19 r8.l.length).bind λn28=>
 (q9e r5 (gt r8.l n28)).bind λr29=>
 (capI (s25.l++ [(⟨gt r8.l n27,wr .i64 ((wr .i64 ((wr .i64 ((wr .i64 ((wr .i64 (at_3+lead_5))+miss_4))+r7))+1))+(gt r10.l n26)),r29⟩:plan_Round)])).bind λl30=>
 some (.inl (wr .i64 (i19+1),s20,i21,i22,i23,i24,(Sl.mk l30))))else
 (some (.inr (s20,i21,i22,i23,i24,s25)))
theorem qb1(at_3:Int)(miss_4:Int)(lead_5:Int)(r5:Sl level_Move)(r7:Int)(r8:Sl Int)(r10:Sl Int):∀s,OLe (q5i at_3 miss_4 lead_5 r5 r7 r8 r10 s) (q2m at_3 miss_4 lead_5 r5 r7 r8 r10 s):=by
 intro s
 unfold q5i q2m
 repeat' first
  | with_reducible apply qgi
  | with_reducible refine OLe.cond ?_ ?_
  | with_reducible refine OLe.bind ?_ (λ_=> ?_)
  | (split <;> try dsimp only)
  | with_reducible exact OLe.refl _
noncomputable def q87(t_0:api_Topo)(old_1:Sl (Sl Int))(now_2:Sl (Sl Int))(at_3:Int)(miss_4:Int)(lead_5:Int):Option (plan_Plan×Int):=
 ((q4o at_3 1099511627776).bind λr1=>
 bif (!r1)then (some true)else
 ((q4o miss_4 1048576).bind λr2=>
 bif (!r2)then (some true)else
 ((q4o lead_5 1048576).bind λr3=>
 some (!r3))):Option Bool).bind λb4=>
 bif b4 then (some ((⟨Sl.nil,Sl.nil,0,0,0,0⟩:plan_Plan),2))else
 ((q67 t_0 old_1 now_2).bind λ(r5,r6)=>
 bif (r6 != 0)then (some ((⟨Sl.nil,Sl.nil,0,0,0,0⟩:plan_Plan),r6))else
 (bif ((r5.l.length:Int) == 0)then (some ((⟨Sl.nil,Sl.nil,0,0,0,0⟩:plan_Plan),7))else
 ((q6c t_0).bind λr7=>
 (q5f r5).bind λr8=>
 (q7q t_0 miss_4).bind λr9=>
 (q7a (r8.l.length:Int) r9).bind λr10=>
 (loopN 100000 (q5i at_3 miss_4 lead_5 r5 r7 r8 r10) (0,r5,miss_4,r7,0,0,Sl.nil)).bind λ(s31,i32,i33,i34,i35,s36)=>
 (ixI (wr .i64 ((s36.l.length:Int) - 1)) s36.l.length).bind λn37=>
 bif decide ((wr .i64 ((plan_Round.At (gt s36.l n37))+miss_4)) > 1099511627776)then (some ((⟨Sl.nil,Sl.nil,0,0,0,0⟩:plan_Plan),11))else
 (some ((⟨s31,s36,i32,i33,wr .i64 ((wr .i64 ((wr .i64 ((wr .i64 ((wr .i64 ((wr .i64 (at_3+lead_5))+miss_4))+r7))+1)) - miss_4)) - i33),wr .i64 ((plan_Round.At (gt s36.l n37))+miss_4)⟩:plan_Plan),0)))))
theorem qfe(t_0:api_Topo)(old_1:Sl (Sl Int))(now_2:Sl (Sl Int))(at_3:Int)(miss_4:Int)(lead_5:Int):OLe (q87 t_0 old_1 now_2 at_3 miss_4 lead_5) (q2q t_0 old_1 now_2 at_3 miss_4 lead_5):=by
 unfold q87 q2q
 repeat' first
  | with_reducible apply qc2
  | with_reducible apply q9v
  | with_reducible apply qba
  | with_reducible apply qb7
  | with_reducible apply qen
  | with_reducible apply qb1
  | with_reducible refine OLe.loop (λ_=> ?_) _ _
  | with_reducible refine OLe.cond ?_ ?_
  | with_reducible refine OLe.bind ?_ (λ_=> ?_)
  | (split <;> try dsimp only)
  | with_reducible exact OLe.refl _
noncomputable def q7c(l_0:Sl level_Move)(round_1:Int)(sw_2:Int):Option (Sl api_Mod):=
 (loopN 100000 (q24 l_0 round_1 sw_2) (0,Sl.nil)).bind λs10=>
 some s10
theorem qdj(l_0:Sl level_Move)(round_1:Int)(sw_2:Int):OLe (q7c l_0 round_1 sw_2) (q1w l_0 round_1 sw_2):=by
 unfold q7c q1w
 repeat' first
  | with_reducible refine OLe.loop (λ_=> ?_) _ _
  | with_reducible refine OLe.bind ?_ (λ_=> ?_)
  | (split <;> try dsimp only)
  | with_reducible exact OLe.refl _
noncomputable def q4m(p_0:plan_Plan)(k_1:Int)(n1:Nat):(Int×Sl plan_Part)->Option ((Int×Sl plan_Part) ⊕ (Sl plan_Part)):=λ(i5,s6)=>
 bif decide (i5 < (((plan_Round.Sws (gt ((plan_Plan.Rounds p_0).l) n1)).l).length:Int))then ((ixI i5 ((plan_Round.Sws (gt ((plan_Plan.Rounds p_0).l) n1)).l).length).bind λn7=>
 (ixI k_1 ((plan_Plan.Rounds p_0).l).length).bind λn8=>
 (q7c (plan_Plan.Moves p_0) (plan_Round.No (gt ((plan_Plan.Rounds p_0).l) n8)) (gt ((plan_Round.Sws (gt ((plan_Plan.Rounds p_0).l) n1)).l) n7)).bind λr9=>
 (capI (s6.l++ [(⟨gt ((plan_Round.Sws (gt ((plan_Plan.Rounds p_0).l) n1)).l) n7,r9⟩:plan_Part)])).bind λl10=>
 some (.inl (wr .i64 (i5+1),(Sl.mk l10))))else
 (some (.inr s6))
theorem qa8(p_0:plan_Plan)(k_1:Int)(n1:Nat):∀s,OLe (q4m p_0 k_1 n1 s) (q23 p_0 k_1 n1 s):=by
 intro s
 unfold q4m q23
 repeat' first
  | with_reducible apply qdj
  | with_reducible refine OLe.cond ?_ ?_
  | with_reducible refine OLe.bind ?_ (λ_=> ?_)
  | (split <;> try dsimp only)
  | with_reducible exact OLe.refl _
noncomputable def q6u(p_0:plan_Plan)(k_1:Int):Option (Sl plan_Part):=
 bif ((decide (k_1 < 0)) || (decide (k_1 >= (((plan_Plan.Rounds p_0).l).length:Int))))then (some Sl.nil)else
 ((ixI k_1 ((plan_Plan.Rounds p_0).l).length).bind λn1=>
 (loopN 100000 (q4m p_0 k_1 n1) (0,Sl.nil)).bind λs11=>
 some s11)
theorem qdn(p_0:plan_Plan)(k_1:Int):OLe (q6u p_0 k_1) (q1e p_0 k_1):=by
 unfold q6u q1e
 repeat' first
  | with_reducible apply qa8
  | with_reducible refine OLe.loop (λ_=> ?_) _ _
  | with_reducible refine OLe.cond ?_ ?_
  | with_reducible refine OLe.bind ?_ (λ_=> ?_)
  | (split <;> try dsimp only)
  | with_reducible exact OLe.refl _
noncomputable def q8k:Option Bool:=
 (q87 (⟨3,(Sl.mk [(⟨0,0,1,0,1,1⟩:api_Link),(⟨1,1,2,0,1,2⟩:api_Link),(⟨0,1,2,1,1,1⟩:api_Link)]),(Sl.mk [(⟨2,7⟩:api_Host)])⟩:api_Topo) (Sl.mk [(Sl.mk [0]),(Sl.mk [1]),(Sl.mk [7])]) (Sl.mk [(Sl.mk [1]),(Sl.mk [1]),(Sl.mk [7])]) 100 4 10).bind λ(r1,r2)=>
 ((q7q (⟨3,(Sl.mk [(⟨0,0,1,0,1,1⟩:api_Link),(⟨1,1,2,0,1,2⟩:api_Link),(⟨0,1,2,1,1,1⟩:api_Link)]),(Sl.mk [(⟨2,7⟩:api_Host)])⟩:api_Topo) 4).bind λr3=>
 bif (((r3 == 15) && (r2 == 0)) && ((((plan_Plan.Rounds r1).l).length:Int) == 1))then ((ixI 0 ((plan_Plan.Rounds r1).l).length).bind λn4=>
 bif ((((plan_Round.At (gt ((plan_Plan.Rounds r1).l) n4)) == 121) && ((plan_Plan.From r1) == 111)) && ((plan_Plan.To r1) == 125))then ((q72 r1 125).bind λr5=>
 bif r5 then ((q6u r1 0).bind λr6=>
 some ((r6.l.length:Int) == 1))else
 (some false))else
 (some false))else
 (some false):Option Bool).bind λb7=>
 some b7
theorem qby:OLe (q8k) (q22):=by
 unfold q8k q22
 repeat' first
  | with_reducible apply qfe
  | with_reducible apply qb7
  | with_reducible apply qdn
  | with_reducible refine OLe.cond ?_ ?_
  | with_reducible refine OLe.bind ?_ (λ_=> ?_)
  | (split <;> try dsimp only)
  | with_reducible exact OLe.refl _
theorem q17:q22=some true:=qby _ (by decide +kernel)
end Go.Proofs.Ythcplpfiidlinaa.L
