/- law33_awake answers true: by running its twin. Conditions: none. -/
import Derived.Test.YtjjajcecekocdaaGreatA
import Derived.Test.YtjjajcecekocdaaGreatTwin
open Go.Ev Go
noncomputable section
namespace Go.Proofs.YtjjajcecekocdaaGreat.A
def gE(s1_0:Sl bY)(s2_1:Sl bY):Option Bool:=
 bif((s1_0.l.length:Int) !=(s2_1.l.length:Int))then(some false)else
 ((iM 100000 (jz s1_0 s2_1) 0).bind fun
 |.inl b5=>(some b5)
 |.inr _=>(some true))
theorem nk(s1_0:Sl bY)(s2_1:Sl bY):bA (gE s1_0 s2_1) (fK s1_0 s2_1):=by
 unfold gE fK
 repeat' first
  |with_reducible refine bA.loop (fun _=>?_) _ _
  |with_reducible refine bA.cond ?_ ?_
  |with_reducible refine bA.bind ?_ (fun _=>?_)
  |(split<;>try dsimp only)
  |with_reducible exact bA.refl _
def uW(a_0:Sl bY)(b_1:Sl bY):Option Bool:=
 (gE a_0 b_1).bind fun r1=>
 some r1
theorem Dh(a_0:Sl bY)(b_1:Sl bY):bA (uW a_0 b_1) (vG a_0 b_1):=by
 unfold uW vG
 repeat' first
  |with_reducible apply nk
  |with_reducible refine bA.bind ?_ (fun _=>?_)
  |(split<;>try dsimp only)
  |with_reducible exact bA.refl _
def p7(a_0:ae)(b_1:ae):Option Bool:=
 ((ve a_0 b_1).bind fun r1=>
 bif r1 then((uW (ae.pd a_0) (ae.pd b_1)).bind fun r2=>
 some r2)else
 (some false):Option Bool).bind fun b3=>
 some b3
theorem vd(a_0:ae)(b_1:ae):bA (p7 a_0 b_1) (qS a_0 b_1):=by
 unfold p7 qS
 repeat' first
  |with_reducible apply Dh
  |with_reducible refine bA.cond ?_ ?_
  |with_reducible refine bA.bind ?_ (fun _=>?_)
  |(split<;>try dsimp only)
  |with_reducible exact bA.refl _
def nF(a_0:ai)(b_1:ai):Option Bool:=
 (bif(((ai.fx a_0)==(ai.fx b_1))&&((ai.ur a_0)==(ai.ur b_1)))then((p7 (ai.R a_0) (ai.R b_1)).bind fun r1=>
 some r1)else
 (some false):Option Bool).bind fun b2=>
 some b2
theorem vg(a_0:ai)(b_1:ai):bA (nF a_0 b_1) (mN a_0 b_1):=by
 unfold nF mN
 repeat' first
  |with_reducible apply vd
  |with_reducible refine bA.cond ?_ ?_
  |with_reducible refine bA.bind ?_ (fun _=>?_)
  |(split<;>try dsimp only)
  |with_reducible exact bA.refl _
def bW(s1_0:Sl ai)(s2_1:Sl ai):Int->Option (Int⊕(Bool⊕Unit)):=fun i2=>
 bif decide (i2<(s1_0.l.length:Int))then((fw i2 s1_0.l.length).bind fun n3=>
 (fw i2 s2_1.l.length).bind fun n4=>
 (nF (gt s1_0.l n3) (gt s2_1.l n4)).bind fun r5=>
 bif(!r5)then(some (.inr (.inl false)))else
 (some (.inl (wr .i64 (i2+1)))))else
 (some (.inr (.inr ())))
theorem fC(s1_0:Sl ai)(s2_1:Sl ai):∀s,bA (bW s1_0 s2_1 s) (ce s1_0 s2_1 s):=by
 intro s;unfold bW ce
 repeat' first
  |with_reducible apply vg
  |with_reducible refine bA.cond ?_ ?_
  |with_reducible refine bA.bind ?_ (fun _=>?_)
  |(split<;>try dsimp only)
  |with_reducible exact bA.refl _
def cg(s1_0:Sl ai)(s2_1:Sl ai):Option Bool:=
 bif((s1_0.l.length:Int) !=(s2_1.l.length:Int))then(some false)else
 ((iM 100000 (bW s1_0 s2_1) 0).bind fun
 |.inl b6=>(some b6)
 |.inr _=>(some true))
theorem fQ(s1_0:Sl ai)(s2_1:Sl ai):bA (cg s1_0 s2_1) (bE s1_0 s2_1):=by
 unfold cg bE
 repeat' first
  |with_reducible apply fC
  |with_reducible refine bA.loop (fun _=>?_) _ _
  |with_reducible refine bA.cond ?_ ?_
  |with_reducible refine bA.bind ?_ (fun _=>?_)
  |(split<;>try dsimp only)
  |with_reducible exact bA.refl _
def oY(a_0:af)(b_1:af):Option Bool:=
 (bif((((((((((af.fx a_0)==(af.fx b_1))&&((af.Sw a_0)==(af.Sw b_1)))&&((af.U a_0)==(af.U b_1)))&&((af.Rd a_0)==(af.Rd b_1)))&&((af.T1 a_0)==(af.T1 b_1)))&&((af.T2 a_0)==(af.T2 b_1)))&&((af.Hs a_0)==(af.Hs b_1)))&&((af.Of a_0)==(af.Of b_1)))&&((af.Code a_0)==(af.Code b_1)))then((cg (af.vJ a_0) (af.vJ b_1)).bind fun r1=>
 some r1)else
 (some false):Option Bool).bind fun b2=>
 some b2
theorem uh(a_0:af)(b_1:af):bA (oY a_0 b_1) (pu a_0 b_1):=by
 unfold oY pu
 repeat' first
  |with_reducible apply fQ
  |with_reducible refine bA.cond ?_ ?_
  |with_reducible refine bA.bind ?_ (fun _=>?_)
  |(split<;>try dsimp only)
  |with_reducible exact bA.refl _
def nI(m_0:aA):Int->Option (Int⊕(Bool⊕Unit)):=fun i2=>
 bif decide (i2<4)then((fw i2 4).bind fun n3=>
 (bif decide ((gt ((aA.tE m_0).1) n3)<0)then(some true)else
 ((nG i2).bind fun r4=>
 bif decide ((gt ((aA.tE m_0).1) n3)>r4)then(some true)else
 ((fw i2 4).bind fun n5=>
 bif decide ((gt ((aA.ES m_0).1) n5)<0)then(some true)else
 ((fw i2 4).bind fun n6=>
 some ((yX .i64 (gt ((aA.ES m_0).1) n6) (gt ((aA.tE m_0).1) n3)) !=0)))):Option Bool).bind fun b7=>
 bif b7 then(some (.inr (.inl false)))else
 (some (.inl (wr .i64 (i2+1)))))else
 (some (.inr (.inr ())))
theorem vv(m_0:aA):∀s,bA (nI m_0 s) (py m_0 s):=by
 intro s;unfold nI py;rw[yW]
 repeat' first
  |with_reducible refine bA.cond ?_ ?_
  |with_reducible refine bA.bind ?_ (fun _=>?_)
  |(split<;>try dsimp only)
  |with_reducible exact bA.refl _
def qy(m_0:aA):Option Bool:=
 bif((decide ((aA.o_ m_0)<(-1)))||(decide ((aA.o_ m_0)>=8)))then(some false)else
 ((iM 100000 (nI m_0) 0).bind fun
 |.inl b8=>(some b8)
 |.inr _=>(some true))
theorem yr(m_0:aA):bA (qy m_0) (qc m_0):=by
 unfold qy qc
 repeat' first
  |with_reducible apply vv
  |with_reducible refine bA.loop (fun _=>?_) _ _
  |with_reducible refine bA.cond ?_ ?_
  |with_reducible refine bA.bind ?_ (fun _=>?_)
  |(split<;>try dsimp only)
  |with_reducible exact bA.refl _
def dV(s_0:Sl bY)(f_1_c0:Int):Option Int:=
 (iM 100000 (fy s_0 f_1_c0) 0).bind fun
 |.inl i5=>(some i5)
 |.inr _=>(some (-1))
theorem jh(s_0:Sl bY)(f_1_c0:Int):bA (dV s_0 f_1_c0) (cP s_0 f_1_c0):=by
 unfold dV cP
 repeat' first
  |with_reducible refine bA.loop (fun _=>?_) _ _
  |with_reducible refine bA.bind ?_ (fun _=>?_)
  |(split<;>try dsimp only)
  |with_reducible exact bA.refl _
def dw(s_0:Sl bY)(f_1_c0:Int):Option Bool:=
 (dV s_0 f_1_c0).bind fun r1=>
 some (decide (r1>=0))
theorem iK(s_0:Sl bY)(f_1_c0:Int):bA (dw s_0 f_1_c0) (cB s_0 f_1_c0):=by
 unfold dw cB
 repeat' first
  |with_reducible apply jh
  |with_reducible refine bA.bind ?_ (fun _=>?_)
  |(split<;>try dsimp only)
  |with_reducible exact bA.refl _
def tC(l_0:Sl bY)(ports_1:Int):Option Bool:=
 (bif decide ((l_0.l.length:Int)<=16)then((dw l_0 ports_1).bind fun r1=>
 some (!r1))else
 (some false):Option Bool).bind fun b2=>
 some b2
theorem Br(l_0:Sl bY)(ports_1:Int):bA (tC l_0 ports_1) (t7 l_0 ports_1):=by
 unfold tC t7
 repeat' first
  |with_reducible apply iK
  |with_reducible refine bA.cond ?_ ?_
  |with_reducible refine bA.bind ?_ (fun _=>?_)
  |(split<;>try dsimp only)
  |with_reducible exact bA.refl _
def mM(x_0:ae)(ports_1:Int):Option Bool:=
 (bif((decide ((ae.uf x_0)>=0))&&(decide ((ae.uf x_0)<65536)))then((qy (ae.M x_0)).bind fun r1=>
 bif r1 then((tC (ae.pd x_0) ports_1).bind fun r2=>
 some r2)else
 (some false))else
 (some false):Option Bool).bind fun b3=>
 some b3
theorem qv(x_0:ae)(ports_1:Int):bA (mM x_0 ports_1) (nD x_0 ports_1):=by
 unfold mM nD
 repeat' first
  |with_reducible apply yr
  |with_reducible apply Br
  |with_reducible refine bA.cond ?_ ?_
  |with_reducible refine bA.bind ?_ (fun _=>?_)
  |(split<;>try dsimp only)
  |with_reducible exact bA.refl _
def pq(m_0:ai):Option Bool:=
 ((gb (ai.fx m_0) 1 5).bind fun r1=>
 bif r1 then((mM (ai.R m_0) 8).bind fun r2=>
 some r2)else
 (some false):Option Bool).bind fun b3=>
 some b3
theorem w9(m_0:ai):bA (pq m_0) (oX m_0):=by
 unfold pq oX
 repeat' first
  |with_reducible apply qv
  |with_reducible refine bA.cond ?_ ?_
  |with_reducible refine bA.bind ?_ (fun _=>?_)
  |(split<;>try dsimp only)
  |with_reducible exact bA.refl _
def oB(x_0:ai):Option Bool:=
 (pq x_0).bind fun r1=>
 some (!r1)
theorem v7(x_0:ai):bA (oB x_0) (nP x_0):=by
 unfold oB nP
 repeat' first
  |with_reducible apply w9
  |with_reducible refine bA.bind ?_ (fun _=>?_)
  |(split<;>try dsimp only)
  |with_reducible exact bA.refl _
def db(s_0:Sl ai):Int->Option (Int⊕(Int⊕Unit)):=fun i2=>
 bif decide (i2<(s_0.l.length:Int))then((fw i2 s_0.l.length).bind fun n3=>
 (oB (gt s_0.l n3)).bind fun r4=>
 bif r4 then(some (.inr (.inl i2)))else
 (some (.inl (wr .i64 (i2+1)))))else
 (some (.inr (.inr ())))
theorem iq(s_0:Sl ai):∀s,bA (db s_0 s) (dv s_0 s):=by
 intro s;unfold db dv
 repeat' first
  |with_reducible apply v7
  |with_reducible refine bA.cond ?_ ?_
  |with_reducible refine bA.bind ?_ (fun _=>?_)
  |(split<;>try dsimp only)
  |with_reducible exact bA.refl _
def dH(s_0:Sl ai):Option Int:=
 (iM 100000 (db s_0) 0).bind fun
 |.inl i5=>(some i5)
 |.inr _=>(some (-1))
theorem i_(s_0:Sl ai):bA (dH s_0) (cI s_0):=by
 unfold dH cI
 repeat' first
  |with_reducible apply iq
  |with_reducible refine bA.loop (fun _=>?_) _ _
  |with_reducible refine bA.bind ?_ (fun _=>?_)
  |(split<;>try dsimp only)
  |with_reducible exact bA.refl _
def dg(s_0:Sl ai):Option Bool:=
 (dH s_0).bind fun r1=>
 some (decide (r1>=0))
theorem iv(s_0:Sl ai):bA (dg s_0) (cu s_0):=by
 unfold dg cu
 repeat' first
  |with_reducible apply i_
  |with_reducible refine bA.bind ?_ (fun _=>?_)
  |(split<;>try dsimp only)
  |with_reducible exact bA.refl _
def nO(m_0:af):Option Bool:=
 (v6 (af.fx m_0)).bind fun r1=>
 (bif(r1==0)then(some true)else
 ((gb (af.Sw m_0) 0 7).bind fun r2=>
 bif(!r2)then(some true)else
 ((me m_0).bind fun r3=>
 (oY r3 m_0).bind fun r4=>
 some (!r4))):Option Bool).bind fun b5=>
 bif b5 then(some false)else
 ((bif((((af.fx m_0)==5)||((af.fx m_0)==7))||((af.fx m_0)==8))then(some (-1))else
 (some 0):Option Int).bind fun i6=>
 ((gb (af.T1 m_0) 0 1125899906842624).bind fun r7=>
 bif(!r7)then(some true)else
 ((gb (af.T2 m_0) (-1125899906842624) 1125899906842624).bind fun r8=>
 bif(!r8)then(some true)else
 ((gb (af.Hs m_0) 0 65535).bind fun r9=>
 some (!r9))):Option Bool).bind fun b10=>
 bif b10 then(some false)else
 (((bif((qj .i64 r1 8) !=0)then((gb (af.U m_0) 1 65535).bind fun r11=>
 some (!r11))else
 (some false):Option Bool).bind fun b12=>
 bif b12 then(some b12)else
 ((bif((qj .i64 r1 16) !=0)then((gb (af.Rd m_0) i6 7).bind fun r13=>
 some (!r13))else
 (some false):Option Bool).bind fun b14=>
 bif b14 then(some b14)else
 ((bif((qj .i64 r1 32) !=0)then((gb (af.Of m_0) 3 6).bind fun r15=>
 some (!r15))else
 (some false):Option Bool).bind fun b16=>
 some b16)):Option Bool).bind fun b17=>
 bif b17 then(some false)else
 ((gb (af.Code m_0) 0 255).bind fun r18=>
 bif((!r18)||(decide ((((af.vJ m_0).l).length:Int)>16)))then(some false)else
 ((dg (af.vJ m_0)).bind fun r19=>
 some (!r19)))))
theorem sN(m_0:af):bA (nO m_0) (nU m_0):=by
 unfold nO nU;rw[vD]
 repeat' first
  |with_reducible apply uh
  |with_reducible apply iv
  |with_reducible refine bA.cond ?_ ?_
  |with_reducible refine bA.bind ?_ (fun _=>?_)
  |(split<;>try dsimp only)
  |with_reducible exact bA.refl _
def iw(now_1:Int)(m_2:af):Option (af×Bool×Sl bF):=
 ((fS).bind fun r1=>
 bif(!r1)then(some true)else
 ((nO m_2).bind fun r2=>
 bif(!r2)then(some true)else
 (none)):Option Bool).bind fun b3=>
 bif b3 then(some ((⟨0,0,0,0,0,0,0,0,0,Sl.nil⟩:af),false,Sl.nil))else
 ((ed now_1).bind fun s4=>
 bif((af.fx m_2)==1)then(none)else
 (none))
theorem rp(now_1:Int)(m_2:af):bA (iw now_1 m_2) (fW now_1 m_2):=by
 unfold iw fW
 repeat' first
  |with_reducible apply sN
  |with_reducible refine bA.cond ?_ ?_
  |with_reducible refine bA.bind ?_ (fun _=>?_)
  |(split<;>try dsimp only)
  |with_reducible exact bA.refl _
def dD(s_0:Sl ae)(f_1_c0:ae):Option Int:=
 (iM 100000 (fh s_0 f_1_c0) 0).bind fun
 |.inl i5=>(some i5)
 |.inr _=>(some (-1))
theorem iX(s_0:Sl ae)(f_1_c0:ae):bA (dD s_0 f_1_c0) (cF s_0 f_1_c0):=by
 unfold dD cF
 repeat' first
  |with_reducible refine bA.loop (fun _=>?_) _ _
  |with_reducible refine bA.bind ?_ (fun _=>?_)
  |(split<;>try dsimp only)
  |with_reducible exact bA.refl _
def nT(t_0:Sl ae)(x_1:ae):Option Int:=
 (dD t_0 x_1).bind fun r1=>
 some r1
theorem rC(t_0:Sl ae)(x_1:ae):bA (nT t_0 x_1) (pf t_0 x_1):=by
 unfold nT pf
 repeat' first
  |with_reducible apply iX
  |with_reducible refine bA.bind ?_ (fun _=>?_)
  |(split<;>try dsimp only)
  |with_reducible exact bA.refl _
def nB(t_0:Sl ae)(ports_1:Int):Int->Option (Int⊕(Bool⊕Unit)):=fun i2=>
 bif decide (i2<(t_0.l.length:Int))then((fw i2 t_0.l.length).bind fun n3=>
 ((mM (gt t_0.l n3) ports_1).bind fun r4=>
 bif(!r4)then(some true)else
 (bif decide (i2>0)then((fw (wr .i64 (i2-1)) t_0.l.length).bind fun n5=>
 (rF (gt t_0.l n3) (gt t_0.l n5)).bind fun r6=>
 some r6)else
 (some false)):Option Bool).bind fun b7=>
 bif b7 then(some (.inr (.inl false)))else
 ((pO t_0.l 0 i2).bind fun l8=>
 (nT (t_0.to l8) (gt t_0.l n3)).bind fun r9=>
 bif decide (r9>=0)then(some (.inr (.inl false)))else
 (some (.inl (wr .i64 (i2+1))))))else
 (some (.inr (.inr ())))
theorem u5(t_0:Sl ae)(ports_1:Int):∀s,bA (nB t_0 ports_1 s) (pp t_0 ports_1 s):=by
 intro s;unfold nB pp
 repeat' first
  |with_reducible apply qv
  |with_reducible apply rC
  |with_reducible refine bA.cond ?_ ?_
  |with_reducible refine bA.bind ?_ (fun _=>?_)
  |(split<;>try dsimp only)
  |with_reducible exact bA.refl _
def qq(t_0:Sl ae)(ports_1:Int)(room_2:Int):Option Bool:=
 bif decide ((t_0.l.length:Int)>room_2)then(some false)else
 ((iM 100000 (nB t_0 ports_1) 0).bind fun
 |.inl b10=>(some b10)
 |.inr _=>(some true))
theorem xM(t_0:Sl ae)(ports_1:Int)(room_2:Int):bA (qq t_0 ports_1 room_2) (pY t_0 ports_1 room_2):=by
 unfold qq pY
 repeat' first
  |with_reducible apply u5
  |with_reducible refine bA.loop (fun _=>?_) _ _
  |with_reducible refine bA.cond ?_ ?_
  |with_reducible refine bA.bind ?_ (fun _=>?_)
  |(split<;>try dsimp only)
  |with_reducible exact bA.refl _
def tq(sw_0:Int)(t_1:Sl ae)(room_2:Int):Option (Int⊕(Int×Int×Bool×Int×Int×Sl ae×Mp Int (Sl ai)×Mp Int Int×Sl Int×Sl av×Mp Int Int×Int)):=
 (bif((((decide (sw_0<0))||(decide (sw_0>=8)))||(decide (room_2<0)))||(decide (room_2>64)))then(some true)else
 ((qq t_1 8 room_2).bind fun r1=>
 some (!r1)):Option Bool).bind fun b2=>
 bif b2 then(some (.inl 2))else
 ((fm t_1).bind fun r3=>
 (mm sw_0 room_2 true 0 0 r3 Sl.nil).bind fun(q4,q5,q6,q7,q8,q9,q10,q11,s12,s13)=>
 some (.inr (q4,q5,q6,q7,q8,q9,q10,q11,s12,s13,(Mp.none:Mp Int Int),0)))
theorem Bq(sw_0:Int)(t_1:Sl ae)(room_2:Int):bA (tq sw_0 t_1 room_2) (t6 sw_0 t_1 room_2):=by
 unfold tq t6
 repeat' first
  |with_reducible apply xM
  |with_reducible refine bA.cond ?_ ?_
  |with_reducible refine bA.bind ?_ (fun _=>?_)
  |(split<;>try dsimp only)
  |with_reducible exact bA.refl _
def qE(a_0:ai)(b_1:ai):Option Bool:=
 (bif(((ai.fx a_0)==(ai.fx b_1))&&((ai.ur a_0)==(ai.ur b_1)))then((p7 (ai.R a_0) (ai.R b_1)).bind fun r1=>
 some r1)else
 (some false):Option Bool).bind fun b2=>
 some b2
theorem yT(a_0:ai)(b_1:ai):bA (qE a_0 b_1) (qi a_0 b_1):=by
 unfold qE qi
 repeat' first
  |with_reducible apply vd
  |with_reducible refine bA.cond ?_ ?_
  |with_reducible refine bA.bind ?_ (fun _=>?_)
  |(split<;>try dsimp only)
  |with_reducible exact bA.refl _
def lJ(b_0:aw)(i_1:Int)(m_2:ai):Option (Int×aw):=
 (d_ b_0).bind fun r1=>
 bif(r1 !=0)then(some (16,b_0))else
 (bif((decide (i_1<0))||(decide (i_1>=16)))then(some (2,b_0))else
 (((fw i_1 16).bind fun n2=>
 bif gt ((aw.Ej b_0).1) n2 then((fw i_1 16).bind fun n3=>
 (qE (gt ((aw.l b_0).1) n3) m_2).bind fun r4=>
 some (!r4))else
 (some false):Option Bool).bind fun b5=>
 bif b5 then(some (8,b_0))else
 ((fw i_1 16).bind fun n6=>
 (fw i_1 16).bind fun n7=>
 some (0,(⟨aw.xP b_0,Arr.set (aw.Ej b_0) n6 true,Arr.set (aw.l b_0) n7 m_2,aw.n b_0⟩:aw)))))
theorem te(b_0:aw)(i_1:Int)(m_2:ai):bA (lJ b_0 i_1 m_2) (kJ b_0 i_1 m_2):=by
 unfold lJ kJ
 repeat' first
  |with_reducible apply yT
  |with_reducible refine bA.cond ?_ ?_
  |with_reducible refine bA.bind ?_ (fun _=>?_)
  |(split<;>try dsimp only)
  |with_reducible exact bA.refl _
def kC(b_0:aw)(n_1:Int):Option (Int×aw):=
 (d_ b_0).bind fun r1=>
 bif(r1==2)then(some (16,b_0))else
 (bif(((aw.xP b_0)==1)&&(n_1==(aw.n b_0)))then(some (0,b_0))else
 (bif((((aw.xP b_0)==1)||(decide (n_1<0)))||(decide (n_1>16)))then(some (2,b_0))else
 ((iM 100000 (mY b_0) n_1).bind fun
 |.inl i5=>(some (i5,b_0))
 |.inr _=>((iM 100000 (mX b_0 n_1) 0).bind fun
 |.inl i9=>(some (i9,b_0))
 |.inr _=>(some (0,(⟨1,aw.Ej b_0,aw.l b_0,n_1⟩:aw)))))))
theorem rX(b_0:aw)(n_1:Int):bA (kC b_0 n_1) (jH b_0 n_1):=by
 unfold kC jH
 repeat' first
  |with_reducible refine bA.loop (fun _=>?_) _ _
  |with_reducible refine bA.cond ?_ ?_
  |with_reducible refine bA.bind ?_ (fun _=>?_)
  |(split<;>try dsimp only)
  |with_reducible exact bA.refl _
def qF(l_0:Sl ai):(Int×aw)->Option ((Int×aw)⊕aw):=fun(i5,x6)=>
 bif decide (i5<(l_0.l.length:Int))then((fw i5 l_0.l.length).bind fun n7=>
 (lJ x6 i5 (gt l_0.l n7)).bind fun(r8,q9)=>
 some (.inl (wr .i64 (i5+1),q9)))else
 (some (.inr x6))
theorem zb(l_0:Sl ai):∀s,bA (qF l_0 s) (tj l_0 s):=by
 intro s;unfold qF tj
 repeat' first
  |with_reducible apply te
  |with_reducible refine bA.cond ?_ ?_
  |with_reducible refine bA.bind ?_ (fun _=>?_)
  |(split<;>try dsimp only)
  |with_reducible exact bA.refl _
def sd(l_0:Sl ai):Option (Unit⊕aw):=
 (uR).bind fun r1=>
 (iM 100000 (qF l_0) (0,r1)).bind fun x10=>
 (kC x10 (l_0.l.length:Int)).bind fun(r11,q12)=>
 bif(r11 !=0)then(some (.inl ()))else
 (some (.inr q12))
theorem wW(l_0:Sl ai):bA (sd l_0) (tn l_0):=by
 unfold sd tn
 repeat' first
  |with_reducible apply zb
  |with_reducible apply rX
  |with_reducible refine bA.loop (fun _=>?_) _ _
  |with_reducible refine bA.cond ?_ ?_
  |with_reducible refine bA.bind ?_ (fun _=>?_)
  |(split<;>try dsimp only)
  |with_reducible exact bA.refl _
def oC(a_0:aA)(b_1:aA):(Int×aA×aA)->Option ((Int×aA×aA)⊕((Bool×aA)⊕(aA×aA))):=fun(i5,x6,x7)=>
 bif decide (i5<4)then((fw i5 4).bind fun n8=>
 (fw i5 4).bind fun n9=>
 (fw i5 4).bind fun n10=>
 (fw i5 4).bind fun n11=>
 bif((qj .i64 (qj .i64 (JJ .i64 (gt ((aA.ES a_0).1) n8) (gt ((aA.ES b_1).1) n9)) (gt ((aA.tE a_0).1) n10)) (gt ((aA.tE b_1).1) n11)) !=0)then(some (.inr (.inl (false,(⟨0,(mE (.ar 4 (.i .i64))),(mE (.ar 4 (.i .i64)))⟩:aA)))))else
 ((fw i5 4).bind fun n12=>
 (fw i5 4).bind fun n13=>
 (fw i5 4).bind fun n14=>
 (fw i5 4).bind fun n15=>
 (fw i5 4).bind fun n16=>
 (fw i5 4).bind fun n17=>
 some (.inl (wr .i64 (i5+1),x6,(⟨aA.o_ x7,Arr.set (aA.ES x7) n16 (LM .i64 (gt ((aA.ES a_0).1) n12) (gt ((aA.ES b_1).1) n13)),Arr.set (aA.tE x7) n17 (LM .i64 (gt ((aA.tE a_0).1) n14) (gt ((aA.tE b_1).1) n15))⟩:aA)))))else
 (some (.inr (.inr (x6,x7))))
theorem v_(a_0:aA)(b_1:aA):∀s,bA (oC a_0 b_1 s) (qz a_0 b_1 s):=by
 intro s;unfold oC qz;rw[vD,JK,FM]
 repeat' first
  |with_reducible refine bA.cond ?_ ?_
  |with_reducible refine bA.bind ?_ (fun _=>?_)
  |(split<;>try dsimp only)
  |with_reducible exact bA.refl _
def o4(a_0:aA)(b_1:aA):Option (aA×Bool):=
 bif((((aA.o_ a_0) !=(aA.o_ b_1))&&((aA.o_ a_0) !=(-1)))&&((aA.o_ b_1) !=(-1)))then(some ((⟨0,(mE (.ar 4 (.i .i64))),(mE (.ar 4 (.i .i64)))⟩:aA),false))else
 ((iM 100000 (oC a_0 b_1) (0,(⟨0,(mE (.ar 4 (.i .i64))),(mE (.ar 4 (.i .i64)))⟩:aA),(⟨(if(aA.o_ b_1)>(aA.o_ a_0)then(aA.o_ b_1)else(aA.o_ a_0)),(mE (.ar 4 (.i .i64))),(mE (.ar 4 (.i .i64)))⟩:aA))).bind fun
 |.inl (b18,x19)=>(some (x19,b18))
 |.inr (x20,x21)=>(some (x21,true)))
theorem ui(a_0:aA)(b_1:aA):bA (o4 a_0 b_1) (pz a_0 b_1):=by
 unfold o4 pz
 repeat' first
  |with_reducible apply v_
  |with_reducible refine bA.loop (fun _=>?_) _ _
  |with_reducible refine bA.cond ?_ ?_
  |with_reducible refine bA.bind ?_ (fun _=>?_)
  |(split<;>try dsimp only)
  |with_reducible exact bA.refl _
def oA(a_0:ae)(b_1:ae):Option Bool:=
 (o4 (ae.M a_0) (ae.M b_1)).bind fun(r1,r2)=>
 some ((((ae.uf a_0)==(ae.uf b_1))&&(!(decide ((ae.M a_0)=(ae.M b_1)))))&&r2)
theorem v5(a_0:ae)(b_1:ae):bA (oA a_0 b_1) (nN a_0 b_1):=by
 unfold oA nN
 repeat' first
  |with_reducible apply ui
  |with_reducible refine bA.bind ?_ (fun _=>?_)
  |(split<;>try dsimp only)
  |with_reducible exact bA.refl _
def qp(y_0:ae)(c_1:ae):Option Bool:=
 (oA c_1 y_0).bind fun r1=>
 some r1
theorem xL(y_0:ae)(c_1:ae):bA (qp y_0 c_1) (pX y_0 c_1):=by
 unfold qp pX
 repeat' first
  |with_reducible apply v5
  |with_reducible refine bA.bind ?_ (fun _=>?_)
  |(split<;>try dsimp only)
  |with_reducible exact bA.refl _
def c_(s_0:Sl ae)(f_1_c0:ae):Int->Option (Int⊕(Int⊕Unit)):=fun i2=>
 bif decide (i2<(s_0.l.length:Int))then((fw i2 s_0.l.length).bind fun n3=>
 (qp (gt s_0.l n3) f_1_c0).bind fun r4=>
 bif r4 then(some (.inr (.inl i2)))else
 (some (.inl (wr .i64 (i2+1)))))else
 (some (.inr (.inr ())))
theorem ip(s_0:Sl ae)(f_1_c0:ae):∀s,bA (c_ s_0 f_1_c0 s) (du s_0 f_1_c0 s):=by
 intro s;unfold c_ du
 repeat' first
  |with_reducible apply xL
  |with_reducible refine bA.cond ?_ ?_
  |with_reducible refine bA.bind ?_ (fun _=>?_)
  |(split<;>try dsimp only)
  |with_reducible exact bA.refl _
def dF(s_0:Sl ae)(f_1_c0:ae):Option Int:=
 (iM 100000 (c_ s_0 f_1_c0) 0).bind fun
 |.inl i5=>(some i5)
 |.inr _=>(some (-1))
theorem iZ(s_0:Sl ae)(f_1_c0:ae):bA (dF s_0 f_1_c0) (cH s_0 f_1_c0):=by
 unfold dF cH
 repeat' first
  |with_reducible apply ip
  |with_reducible refine bA.loop (fun _=>?_) _ _
  |with_reducible refine bA.bind ?_ (fun _=>?_)
  |(split<;>try dsimp only)
  |with_reducible exact bA.refl _
def df(s_0:Sl ae)(f_1_c0:ae):Option Bool:=
 (dF s_0 f_1_c0).bind fun r1=>
 some (decide (r1>=0))
theorem iu(s_0:Sl ae)(f_1_c0:ae):bA (df s_0 f_1_c0) (ct s_0 f_1_c0):=by
 unfold df ct
 repeat' first
  |with_reducible apply iZ
  |with_reducible refine bA.bind ?_ (fun _=>?_)
  |(split<;>try dsimp only)
  |with_reducible exact bA.refl _
def dE(s_0:Sl ae)(f_1_c0:ae):Option Int:=
 (iM 100000 (fk s_0 f_1_c0) 0).bind fun
 |.inl i5=>(some i5)
 |.inr _=>(some (-1))
theorem iY(s_0:Sl ae)(f_1_c0:ae):bA (dE s_0 f_1_c0) (cG s_0 f_1_c0):=by
 unfold dE cG
 repeat' first
  |with_reducible refine bA.loop (fun _=>?_) _ _
  |with_reducible refine bA.bind ?_ (fun _=>?_)
  |(split<;>try dsimp only)
  |with_reducible exact bA.refl _
def sG(t_0:Sl ae)(m_1:ai)(room_2:Int):Option (Sl ae×Int):=
 (bif ai.ur m_1 then((df t_0 (ai.R m_1)).bind fun r1=>
 some r1)else
 (some false):Option Bool).bind fun b2=>
 bif b2 then(some (t_0,14))else
 ((nT t_0 (ai.R m_1)).bind fun r3=>
 bif decide (r3>=0)then((kS t_0 r3 (ae.pd (ai.R m_1))).bind fun r4=>
 some (r4,0))else
 (bif decide ((t_0.l.length:Int)>=room_2)then(some (t_0,6))else
 ((dE t_0 (ai.R m_1)).bind fun r5=>
 (bif decide (r5<0)then(some (t_0.l.length:Int))else
 (some r5):Option Int).bind fun i6=>
 (bt t_0).bind fun s7=>
 (Ei s7 i6 (Sl.mk [ai.R m_1])).bind fun s8=>
 some (s8,0))))
theorem AH(t_0:Sl ae)(m_1:ai)(room_2:Int):bA (sG t_0 m_1 room_2) (tG t_0 m_1 room_2):=by
 unfold sG tG
 repeat' first
  |with_reducible apply iu
  |with_reducible apply rC
  |with_reducible apply iY
  |with_reducible refine bA.cond ?_ ?_
  |with_reducible refine bA.bind ?_ (fun _=>?_)
  |(split<;>try dsimp only)
  |with_reducible exact bA.refl _
def mP(a_0:aA)(b_1:aA):Option Bool:=
 (o4 a_0 b_1).bind fun(r1,r2)=>
 some (r2&&(decide (r1=a_0)))
theorem sj(a_0:aA)(b_1:aA):bA (mP a_0 b_1) (mQ a_0 b_1):=by
 unfold mP mQ
 repeat' first
  |with_reducible apply ui
  |with_reducible refine bA.bind ?_ (fun _=>?_)
  |(split<;>try dsimp only)
  |with_reducible exact bA.refl _
def mK(x_1:ae)(s1:Sl ae):(Int×Sl ae)->Option ((Int×Sl ae)⊕(Sl ae)):=fun(i5,s6)=>
 bif decide (i5<(s1.l.length:Int))then(((fw i5 s6.l.length).bind fun n7=>
 (mP (ae.M (gt s6.l n7)) (ae.M x_1)).bind fun r8=>
 bif r8 then((fw i5 s6.l.length).bind fun n9=>
 some (Sl.mk (s6.l.set n9 (⟨ae.uf (gt s6.l n9),ae.M (gt s6.l n9),ae.pd x_1⟩:ae))))else
 (some s6):Option (Sl ae)).bind fun s10=>
 some (.inl (wr .i64 (i5+1),s10)))else
 (some (.inr s6))
theorem uB(x_1:ae)(s1:Sl ae):∀s,bA (mK x_1 s1 s) (ov x_1 s1 s):=by
 intro s;unfold mK ov
 repeat' first
  |with_reducible apply sj
  |with_reducible refine bA.cond ?_ ?_
  |with_reducible refine bA.bind ?_ (fun _=>?_)
  |(split<;>try dsimp only)
  |with_reducible exact bA.refl _
def po(t_0:Sl ae)(x_1:ae):Option (Sl ae):=
 (bt t_0).bind fun s1=>
 (iM 100000 (mK x_1 s1) (0,s1)).bind fun s11=>
 some s11
theorem w7(t_0:Sl ae)(x_1:ae):bA (po t_0 x_1) (oU t_0 x_1):=by
 unfold po oU
 repeat' first
  |with_reducible apply uB
  |with_reducible refine bA.loop (fun _=>?_) _ _
  |with_reducible refine bA.bind ?_ (fun _=>?_)
  |(split<;>try dsimp only)
  |with_reducible exact bA.refl _
def lX(y_0:ae)(c_1:ai):Option Bool:=
 (mP (ae.M y_0) (ae.M (ai.R c_1))).bind fun r1=>
 some r1
theorem qQ(y_0:ae)(c_1:ai):bA (lX y_0 c_1) (lQ y_0 c_1):=by
 unfold lX lQ
 repeat' first
  |with_reducible apply sj
  |with_reducible refine bA.bind ?_ (fun _=>?_)
  |(split<;>try dsimp only)
  |with_reducible exact bA.refl _
def cV(s_0:Sl ae)(f_1_c0:ai):Int->Option (Int⊕(Int⊕Unit)):=fun i2=>
 bif decide (i2<(s_0.l.length:Int))then((fw i2 s_0.l.length).bind fun n3=>
 (lX (gt s_0.l n3) f_1_c0).bind fun r4=>
 bif r4 then(some (.inr (.inl i2)))else
 (some (.inl (wr .i64 (i2+1)))))else
 (some (.inr (.inr ())))
theorem hN(s_0:Sl ae)(f_1_c0:ai):∀s,bA (cV s_0 f_1_c0 s) (da s_0 f_1_c0 s):=by
 intro s;unfold cV da
 repeat' first
  |with_reducible apply qQ
  |with_reducible refine bA.cond ?_ ?_
  |with_reducible refine bA.bind ?_ (fun _=>?_)
  |(split<;>try dsimp only)
  |with_reducible exact bA.refl _
def dk(s_0:Sl ae)(f_1_c0:ai):Option Int:=
 (iM 100000 (cV s_0 f_1_c0) 0).bind fun
 |.inl i5=>(some i5)
 |.inr _=>(some (-1))
theorem iD(s_0:Sl ae)(f_1_c0:ai):bA (dk s_0 f_1_c0) (cA s_0 f_1_c0):=by
 unfold dk cA
 repeat' first
  |with_reducible apply hN
  |with_reducible refine bA.loop (fun _=>?_) _ _
  |with_reducible refine bA.bind ?_ (fun _=>?_)
  |(split<;>try dsimp only)
  |with_reducible exact bA.refl _
def cT(del_1_c0:ai):(Int×Int×Sl ae)->Option ((Int×Int×Sl ae)⊕(Int×Sl ae)):=fun(i7,i8,s9)=>
 bif decide (i8<(s9.l.length:Int))then(((fw i8 s9.l.length).bind fun n10=>
 (lX (gt s9.l n10) del_1_c0).bind fun r11=>
 bif(!r11)then((fw i7 s9.l.length).bind fun n12=>
 some (wr .i64 (i7+1),(Sl.mk (s9.l.set n12 (gt s9.l n10)))))else
 (some (i7,s9)):Option (Int×Sl ae)).bind fun(i13,s14)=>
 some (.inl (i13,wr .i64 (i8+1),s14)))else
 (some (.inr (i7,s9)))
theorem gV(del_1_c0:ai):∀s,bA (cT del_1_c0 s) (cW del_1_c0 s):=by
 intro s;unfold cT cW
 repeat' first
  |with_reducible apply qQ
  |with_reducible refine bA.cond ?_ ?_
  |with_reducible refine bA.bind ?_ (fun _=>?_)
  |(split<;>try dsimp only)
  |with_reducible exact bA.refl _
def de(s_0:Sl ae)(del_1_c0:ai):Option (Sl ae):=
 (dk s_0 del_1_c0).bind fun r1=>
 bif(r1==(-1))then(some s_0)else
 ((iM 100000 (cT del_1_c0) (r1,wr .i64 (r1+1),s_0)).bind fun(i15,s16)=>
 (pO s16.l i15 s16.l.length).bind fun l17=>
 (Hc s16 i15.toNat ((s16.to l17).l).length (⟨0,(⟨0,(mE (.ar 4 (.i .i64))),(mE (.ar 4 (.i .i64)))⟩:aA),Sl.nil⟩:ae)).bind fun s18=>
 (pO s18.l 0 i15).bind fun l19=>
 some (s18.to l19))
theorem ir(s_0:Sl ae)(del_1_c0:ai):bA (de s_0 del_1_c0) (cq s_0 del_1_c0):=by
 unfold de cq
 repeat' first
  |with_reducible apply iD
  |with_reducible apply gV
  |with_reducible refine bA.loop (fun _=>?_) _ _
  |with_reducible refine bA.cond ?_ ?_
  |with_reducible refine bA.bind ?_ (fun _=>?_)
  |(split<;>try dsimp only)
  |with_reducible exact bA.refl _
def pn(t_0:Sl ae)(x_1:ae):Option (Int×Int):=
 (nT t_0 x_1).bind fun r1=>
 bif decide (r1<0)then(some (r1,7))else
 (some (r1,0))
theorem w6(t_0:Sl ae)(x_1:ae):bA (pn t_0 x_1) (oT t_0 x_1):=by
 unfold pn oT
 repeat' first
  |with_reducible apply rC
  |with_reducible refine bA.cond ?_ ?_
  |with_reducible refine bA.bind ?_ (fun _=>?_)
  |(split<;>try dsimp only)
  |with_reducible exact bA.refl _
def qs(t_0:Sl ae)(m_1:ai)(ports_2:Int)(room_3:Int):Option (Sl ae×Int):=
 (mM (ai.R m_1) ports_2).bind fun r1=>
 bif(!r1)then(some (t_0,2))else
 (bif((ai.fx m_1)==1)then((sG t_0 m_1 room_3).bind fun(r2,r3)=>
 some (r2,r3))else
 (bif((ai.fx m_1)==2)then((po t_0 (ai.R m_1)).bind fun r4=>
 some (r4,0))else
 (bif((ai.fx m_1)==4)then((bt t_0).bind fun s5=>
 (de s5 m_1).bind fun r6=>
 some (r6,0))else
 ((bif((ai.fx m_1)==3)then(some ((ai.fx m_1)==3))else
 (some ((ai.fx m_1)==5)):Option Bool).bind fun b7=>
 bif b7 then((pn t_0 (ai.R m_1)).bind fun(r8,r9)=>
 bif(r9 !=0)then(some (t_0,r9))else
 (bif((ai.fx m_1)==3)then((kS t_0 r8 (ae.pd (ai.R m_1))).bind fun r10=>
 some (r10,0))else
 ((bt t_0).bind fun s11=>
 (G5 s11 r8 (wr .i64 (r8+1))).bind fun s12=>
 some (s12,0))))else
 (some (t_0,2))))))
theorem xN(t_0:Sl ae)(m_1:ai)(ports_2:Int)(room_3:Int):bA (qs t_0 m_1 ports_2 room_3) (pZ t_0 m_1 ports_2 room_3):=by
 unfold qs pZ
 repeat' first
  |with_reducible apply qv
  |with_reducible apply AH
  |with_reducible apply w7
  |with_reducible apply ir
  |with_reducible apply w6
  |with_reducible refine bA.cond ?_ ?_
  |with_reducible refine bA.bind ?_ (fun _=>?_)
  |(split<;>try dsimp only)
  |with_reducible exact bA.refl _
def ow(t_0:Sl ae)(l_1:Sl ai)(ports_2:Int)(room_3:Int):(Sl ae×Int)->Option ((Sl ae×Int)⊕((Sl ae×Int×Int)⊕(Sl ae))):=fun(s3,i4)=>
 bif decide (i4<(l_1.l.length:Int))then((fw i4 l_1.l.length).bind fun n5=>
 (qs s3 (gt l_1.l n5) ports_2 room_3).bind fun(r6,r7)=>
 bif(r7 !=0)then(some (.inr (.inl (t_0,i4,r7))))else
 (some (.inl (r6,wr .i64 (i4+1)))))else
 (some (.inr (.inr s3)))
theorem vS(t_0:Sl ae)(l_1:Sl ai)(ports_2:Int)(room_3:Int):∀s,bA (ow t_0 l_1 ports_2 room_3 s) (qr t_0 l_1 ports_2 room_3 s):=by
 intro s;unfold ow qr
 repeat' first
  |with_reducible apply xN
  |with_reducible refine bA.cond ?_ ?_
  |with_reducible refine bA.bind ?_ (fun _=>?_)
  |(split<;>try dsimp only)
  |with_reducible exact bA.refl _
def lj(t_0:Sl ae)(l_1:Sl ai)(ports_2:Int)(room_3:Int):Option (Sl ae×Int×Int):=
 (iM 100000 (ow t_0 l_1 ports_2 room_3) (t_0,0)).bind fun
 |.inl (s8,i9,i10)=>(some (s8,i9,i10))
 |.inr s11=>(some (s11,(-1),0))
theorem nM(t_0:Sl ae)(l_1:Sl ai)(ports_2:Int)(room_3:Int):bA (lj t_0 l_1 ports_2 room_3) (l_ t_0 l_1 ports_2 room_3):=by
 unfold lj l_
 repeat' first
  |with_reducible apply vS
  |with_reducible refine bA.loop (fun _=>?_) _ _
  |with_reducible refine bA.bind ?_ (fun _=>?_)
  |(split<;>try dsimp only)
  |with_reducible exact bA.refl _
def gx(t_1:Sl ae)(ports_2:Int)(room_3:Int):Option Int:=
 (gY).bind fun r1=>
 bif(r1 !=1)then(some 16)else
 ((gg).bind fun r2=>
 (lj t_1 r2 ports_2 room_3).bind fun(r3,r4,r5)=>
 some r5)
theorem k7(t_1:Sl ae)(ports_2:Int)(room_3:Int):bA (gx t_1 ports_2 room_3) (fV t_1 ports_2 room_3):=by
 unfold gx fV
 repeat' first
  |with_reducible apply nM
  |with_reducible refine bA.cond ?_ ?_
  |with_reducible refine bA.bind ?_ (fun _=>?_)
  |(split<;>try dsimp only)
  |with_reducible exact bA.refl _
def iP(t_1:Sl ae)(ports_2:Int)(room_3:Int):Option (Sl ae×Int):=
 (gx t_1 ports_2 room_3).bind fun r1=>
 bif(r1 !=0)then(some (t_1,r1))else
 ((gg).bind fun r2=>
 (lj t_1 r2 ports_2 room_3).bind fun(r3,r4,r5)=>
 (jc).bind fun _=>
 some (r3,0))
theorem o9(t_1:Sl ae)(ports_2:Int)(room_3:Int):bA (iP t_1 ports_2 room_3) (gO t_1 ports_2 room_3):=by
 unfold iP gO
 repeat' first
  |with_reducible apply k7
  |with_reducible apply nM
  |with_reducible refine bA.cond ?_ ?_
  |with_reducible refine bA.bind ?_ (fun _=>?_)
  |(split<;>try dsimp only)
  |with_reducible exact bA.refl _
def jl(b_0:aw):Option (Sl ai×aw):=
 (d_ b_0).bind fun r1=>
 bif(r1 !=1)then(some (Sl.nil,b_0))else
 ((iM 100000 (nu b_0) (0,Sl.nil)).bind fun s9=>
 some (s9,b_0))
theorem nq(b_0:aw):bA (jl b_0) (iO b_0):=by
 unfold jl iO
 repeat' first
  |with_reducible refine bA.loop (fun _=>?_) _ _
  |with_reducible refine bA.cond ?_ ?_
  |with_reducible refine bA.bind ?_ (fun _=>?_)
  |(split<;>try dsimp only)
  |with_reducible exact bA.refl _
def iU(b_0:aw)(t_1:Sl ae)(ports_2:Int)(room_3:Int):Option (Int×aw):=
 (d_ b_0).bind fun r1=>
 bif(r1 !=1)then(some (16,b_0))else
 ((jl b_0).bind fun(r2,q3)=>
 (lj t_1 r2 ports_2 room_3).bind fun(r4,r5,r6)=>
 some (r6,q3))
theorem mZ(b_0:aw)(t_1:Sl ae)(ports_2:Int)(room_3:Int):bA (iU b_0 t_1 ports_2 room_3) (ie b_0 t_1 ports_2 room_3):=by
 unfold iU ie
 repeat' first
  |with_reducible apply nq
  |with_reducible apply nM
  |with_reducible refine bA.cond ?_ ?_
  |with_reducible refine bA.bind ?_ (fun _=>?_)
  |(split<;>try dsimp only)
  |with_reducible exact bA.refl _
def j8(b_0:aw)(t_1:Sl ae)(ports_2:Int)(room_3:Int):Option (Sl ae×Int×aw):=
 (iU b_0 t_1 ports_2 room_3).bind fun(r1,q2)=>
 bif(r1 !=0)then(some (t_1,r1,q2))else
 ((jl q2).bind fun(r3,q4)=>
 (lj t_1 r3 ports_2 room_3).bind fun(r5,r6,r7)=>
 (kA q4).bind fun q8=>
 some (r5,0,q8))
theorem rl(b_0:aw)(t_1:Sl ae)(ports_2:Int)(room_3:Int):bA (j8 b_0 t_1 ports_2 room_3) (jm b_0 t_1 ports_2 room_3):=by
 unfold j8 jm
 repeat' first
  |with_reducible apply mZ
  |with_reducible apply nq
  |with_reducible apply nM
  |with_reducible refine bA.cond ?_ ?_
  |with_reducible refine bA.bind ?_ (fun _=>?_)
  |(split<;>try dsimp only)
  |with_reducible exact bA.refl _
def j3(s_0:Sl Int)(v_1:Int):Option Int:=
 (iM 100000 (mw s_0 v_1) 0).bind fun
 |.inl i4=>(some i4)
 |.inr _=>(some (-1))
theorem qR(s_0:Sl Int)(v_1:Int):bA (j3 s_0 v_1) (jg s_0 v_1):=by
 unfold j3 jg
 repeat' first
  |with_reducible refine bA.loop (fun _=>?_) _ _
  |with_reducible refine bA.bind ?_ (fun _=>?_)
  |(split<;>try dsimp only)
  |with_reducible exact bA.refl _
def jC(q_0_l:Sl Int)(i_1:Int):Option (Sl Int):=
 (iM 100000 (oc) (i_1,q_0_l)).bind fun s14=>
 some s14
theorem n_(q_0_l:Sl Int)(i_1:Int):bA (jC q_0_l i_1) (ji q_0_l i_1):=by
 unfold jC ji
 repeat' first
  |with_reducible refine bA.loop (fun _=>?_) _ _
  |with_reducible refine bA.bind ?_ (fun _=>?_)
  |(split<;>try dsimp only)
  |with_reducible exact bA.refl _
def ju:(Int×Sl Int)->Option ((Int×Sl Int)⊕(Sl Int)):=fun(i4,s5)=>
 (iM 100000 (mS i4 s5) (i4,wr .i64 ((wr .i64 (2*i4))+1))).bind fun i14=>
 bif(i14==i4)then(some (.inr s5))else
 ((fw i14 s5.l.length).bind fun n15=>
 (fw i4 s5.l.length).bind fun n16=>
 (fw i4 s5.l.length).bind fun n17=>
 (fw i14 (s5.l.set n17 (gt s5.l n15)).length).bind fun n18=>
 some (.inl (i14,(Sl.mk ((s5.l.set n17 (gt s5.l n15)).set n18 (gt s5.l n16))))))
theorem pN:∀s,bA (ju s) (j5 s):=by
 intro s;unfold ju j5
 repeat' first
  |with_reducible refine bA.loop (fun _=>?_) _ _
  |with_reducible refine bA.cond ?_ ?_
  |with_reducible refine bA.bind ?_ (fun _=>?_)
  |(split<;>try dsimp only)
  |with_reducible exact bA.refl _
def kx(q_0_l:Sl Int)(i_1:Int):Option (Sl Int):=
 (iM 100000 (ju) (i_1,q_0_l)).bind fun s19=>
 some s19
theorem rN(q_0_l:Sl Int)(i_1:Int):bA (kx q_0_l i_1) (jE q_0_l i_1):=by
 unfold kx jE
 repeat' first
  |with_reducible apply pN
  |with_reducible refine bA.loop (fun _=>?_) _ _
  |with_reducible refine bA.bind ?_ (fun _=>?_)
  |(split<;>try dsimp only)
  |with_reducible exact bA.refl _
def kw(q_0_l:Sl Int)(i_1:Int):Option (Sl Int):=
 (fw (wr .i64 ((q_0_l.l.length:Int)-1)) q_0_l.l.length).bind fun n1=>
 (fw i_1 q_0_l.l.length).bind fun n2=>
 (pO (q_0_l.l.set n2 (gt q_0_l.l n1)) 0 (wr .i64 ((q_0_l.l.length:Int)-1))).bind fun l3=>
 bif decide (i_1<(wr .i64 ((q_0_l.l.length:Int)-1)))then((jC (Sl.mk l3) i_1).bind fun s4=>
 (kx s4 i_1).bind fun s5=>
 some s5)else
 (some (Sl.mk l3))
theorem rM(q_0_l:Sl Int)(i_1:Int):bA (kw q_0_l i_1) (jD q_0_l i_1):=by
 unfold kw jD
 repeat' first
  |with_reducible apply n_
  |with_reducible apply rN
  |with_reducible refine bA.cond ?_ ?_
  |with_reducible refine bA.bind ?_ (fun _=>?_)
  |(split<;>try dsimp only)
  |with_reducible exact bA.refl _
def kz(q_0_l:Sl Int)(x_1:Int):Option (Bool×Sl Int):=
 (j3 q_0_l x_1).bind fun r1=>
 bif decide (r1<0)then(some (false,q_0_l))else
 ((kw q_0_l r1).bind fun s2=>
 some (true,s2))
theorem rP(q_0_l:Sl Int)(x_1:Int):bA (kz q_0_l x_1) (jG q_0_l x_1):=by
 unfold kz jG
 repeat' first
  |with_reducible apply qR
  |with_reducible apply rM
  |with_reducible refine bA.cond ?_ ?_
  |with_reducible refine bA.bind ?_ (fun _=>?_)
  |(split<;>try dsimp only)
  |with_reducible exact bA.refl _
def j_(a_0_sw:Int)(a_0_room:Int)(a_0_up:Bool)(a_0_life:Int)(a_0_u:Int)(a_0_table:Sl ae)(a_0_staged:Mp Int (Sl ai))(a_0_armed:Mp Int Int)(a_0_wait_l:Sl Int)(a_0_done:Sl av)(a_0_dead:Mp Int Int)(rd_1:Int):Option (Int×Int×Bool×Int×Int×Sl ae×Mp Int (Sl ai)×Mp Int Int×Sl Int×Sl av×Mp Int Int):=
 (bif px a_0_armed rd_1 then((kz a_0_wait_l (wr .i64 ((wr .i64 ((oM a_0_armed 0 rd_1)*8))+rd_1))).bind fun(r1,s2)=>
 some (a_0_sw,a_0_room,a_0_up,a_0_life,a_0_u,a_0_table,a_0_staged,a_0_armed,a_0_done,a_0_dead,s2))else
 (some (a_0_sw,a_0_room,a_0_up,a_0_life,a_0_u,a_0_table,a_0_staged,a_0_armed,a_0_done,a_0_dead,a_0_wait_l)):Option (Int×Int×Bool×Int×Int×Sl ae×Mp Int (Sl ai)×Mp Int Int×Sl av×Mp Int Int×Sl Int)).bind fun(i3,i4,b5,i6,i7,s8,m9,m10,s11,m12,s13)=>
 some (i3,i4,b5,i6,i7,s8,(vr m9 rd_1),(vr m10 rd_1),s13,s11,m12)
theorem oQ(a_0_sw:Int)(a_0_room:Int)(a_0_up:Bool)(a_0_life:Int)(a_0_u:Int)(a_0_table:Sl ae)(a_0_staged:Mp Int (Sl ai))(a_0_armed:Mp Int Int)(a_0_wait_l:Sl Int)(a_0_done:Sl av)(a_0_dead:Mp Int Int)(rd_1:Int):bA (j_ a_0_sw a_0_room a_0_up a_0_life a_0_u a_0_table a_0_staged a_0_armed a_0_wait_l a_0_done a_0_dead rd_1) (jQ a_0_sw a_0_room a_0_up a_0_life a_0_u a_0_table a_0_staged a_0_armed a_0_wait_l a_0_done a_0_dead rd_1):=by
 unfold j_ jQ
 repeat' first
  |with_reducible apply rP
  |with_reducible refine bA.cond ?_ ?_
  |with_reducible refine bA.bind ?_ (fun _=>?_)
  |(split<;>try dsimp only)
  |with_reducible exact bA.refl _
def lc(now_1:Int):(Int×Int×Bool×Int×Int×Sl ae×Sl bF×Mp Int (Sl ai)×Mp Int Int×Sl av×Mp Int Int×Sl Int)->Option ((Int×Int×Bool×Int×Int×Sl ae×Sl bF×Mp Int (Sl ai)×Mp Int Int×Sl av×Mp Int Int×Sl Int)⊕(Sl bF×Int×Int×Bool×Int×Int×Sl ae×Mp Int (Sl ai)×Mp Int Int×Sl av×Mp Int Int×Sl Int)):=fun(i25,i26,b27,i28,i29,s30,s31,m32,m33,s34,m35,s36)=>
 (lI s36).bind fun(r37,r38)=>
 bif((!r38)||(decide ((oM m33 0 (qj .i64 r37 7))>now_1)))then(some (.inr (s31,i25,i26,b27,i28,i29,s30,m32,m33,s34,m35,s36)))else
 (((sd (oM m32 Sl.nil (qj .i64 r37 7))).bind fun
 |.inl _=>((iP s30 8 i26).bind fun(r39,r40)=>
 some (r39,r40))
 |.inr r41=>((j8 r41 s30 8 i26).bind fun(r42,r43,q44)=>
 some (r42,r43)):Option (Sl ae×Int)).bind fun(s45,i46)=>
 (j_ i25 i26 b27 i28 i29 s30 m32 m33 s36 s34 m35 (qj .i64 r37 7)).bind fun(q47,q48,q49,q50,q51,q52,q53,q54,s55,s56,q57)=>
 bif(i46 !=0)then((mi (s31.l++[(⟨3,qj .i64 r37 7⟩:bF)])).bind fun l58=>
 some (.inl (q47,q48,q49,q50,q51,q52,(Sl.mk l58),q53,q54,s56,q57,s55)))else
 ((mi (s56.l++[(⟨qj .i64 r37 7,q52⟩:av)])).bind fun l59=>
 (mi (s31.l++[(⟨1,qj .i64 r37 7⟩:bF)])).bind fun l60=>
 some (.inl (q47,q48,q49,q50,q51,s45,(Sl.mk l60),q53,q54,(Sl.mk l59),q57,s55))))
theorem sA(now_1:Int):∀s,bA (lc now_1 s) (mo now_1 s):=by
 intro s;unfold lc mo;rw[vD]
 repeat' first
  |with_reducible apply wW
  |with_reducible apply o9
  |with_reducible apply rl
  |with_reducible apply oQ
  |with_reducible refine bA.cond ?_ ?_
  |with_reducible refine bA.bind ?_ (fun _=>?_)
  |(split<;>try dsimp only)
  |with_reducible exact bA.refl _
def jp(a_0_sw:Int)(a_0_room:Int)(a_0_up:Bool)(a_0_life:Int)(a_0_u:Int)(a_0_table:Sl ae)(a_0_staged:Mp Int (Sl ai))(a_0_armed:Mp Int Int)(a_0_wait_l:Sl Int)(a_0_done:Sl av)(a_0_dead:Mp Int Int)(now_1:Int):Option (Sl bF×Int×Int×Bool×Int×Int×Sl ae×Mp Int (Sl ai)×Mp Int Int×Sl Int×Sl av×Mp Int Int):=
 (k_ a_0_sw a_0_room a_0_up a_0_life a_0_u a_0_table a_0_staged a_0_armed a_0_wait_l a_0_done a_0_dead).bind fun(r1,q2,q3,q4,q5,q6,q7,q8,q9,s10,s11,q12)=>
 bif(!r1)then(some (Sl.nil,q2,q3,q4,q5,q6,q7,q8,q9,s10,s11,q12))else
 ((iM 100000 (lc now_1) (q2,q3,q4,q5,q6,q7,Sl.nil,q8,q9,s11,q12,s10)).bind fun(s61,i62,i63,b64,i65,i66,s67,m68,m69,s70,m71,s72)=>
 some (s61,i62,i63,b64,i65,i66,s67,m68,m69,s72,s70,m71))
theorem pL(a_0_sw:Int)(a_0_room:Int)(a_0_up:Bool)(a_0_life:Int)(a_0_u:Int)(a_0_table:Sl ae)(a_0_staged:Mp Int (Sl ai))(a_0_armed:Mp Int Int)(a_0_wait_l:Sl Int)(a_0_done:Sl av)(a_0_dead:Mp Int Int)(now_1:Int):bA (jp a_0_sw a_0_room a_0_up a_0_life a_0_u a_0_table a_0_staged a_0_armed a_0_wait_l a_0_done a_0_dead now_1) (je a_0_sw a_0_room a_0_up a_0_life a_0_u a_0_table a_0_staged a_0_armed a_0_wait_l a_0_done a_0_dead now_1):=by
 unfold jp je
 repeat' first
  |with_reducible apply sA
  |with_reducible refine bA.loop (fun _=>?_) _ _
  |with_reducible refine bA.cond ?_ ?_
  |with_reducible refine bA.bind ?_ (fun _=>?_)
  |(split<;>try dsimp only)
  |with_reducible exact bA.refl _
def cJ(s_0:Sl av)(f_1_c0:Int):Option Int:=
 (iM 100000 (ew s_0 f_1_c0) 0).bind fun
 |.inl i5=>(some i5)
 |.inr _=>(some (-1))
theorem gD(s_0:Sl av)(f_1_c0:Int):bA (cJ s_0 f_1_c0) (bV s_0 f_1_c0):=by
 unfold cJ bV
 repeat' first
  |with_reducible refine bA.loop (fun _=>?_) _ _
  |with_reducible refine bA.bind ?_ (fun _=>?_)
  |(split<;>try dsimp only)
  |with_reducible exact bA.refl _
def cz(s_0:Sl av)(f_1_c0:Int):Option Bool:=
 (cJ s_0 f_1_c0).bind fun r1=>
 some (decide (r1>=0))
theorem gp(s_0:Sl av)(f_1_c0:Int):bA (cz s_0 f_1_c0) (bO s_0 f_1_c0):=by
 unfold cz bO
 repeat' first
  |with_reducible apply gD
  |with_reducible refine bA.bind ?_ (fun _=>?_)
  |(split<;>try dsimp only)
  |with_reducible exact bA.refl _
def jO(a_0_sw:Int)(a_0_room:Int)(a_0_up:Bool)(a_0_life:Int)(a_0_u:Int)(a_0_table:Sl ae)(a_0_staged:Mp Int (Sl ai))(a_0_armed:Mp Int Int)(a_0_wait_l:Sl Int)(a_0_done:Sl av)(a_0_dead:Mp Int Int)(rd_1:Int):Option (Bool×Int×Int×Bool×Int×Int×Sl ae×Mp Int (Sl ai)×Mp Int Int×Sl Int×Sl av×Mp Int Int):=
 (cz a_0_done rd_1).bind fun r1=>
 some (r1,a_0_sw,a_0_room,a_0_up,a_0_life,a_0_u,a_0_table,a_0_staged,a_0_armed,a_0_wait_l,a_0_done,a_0_dead)
theorem m8(a_0_sw:Int)(a_0_room:Int)(a_0_up:Bool)(a_0_life:Int)(a_0_u:Int)(a_0_table:Sl ae)(a_0_staged:Mp Int (Sl ai))(a_0_armed:Mp Int Int)(a_0_wait_l:Sl Int)(a_0_done:Sl av)(a_0_dead:Mp Int Int)(rd_1:Int):bA (jO a_0_sw a_0_room a_0_up a_0_life a_0_u a_0_table a_0_staged a_0_armed a_0_wait_l a_0_done a_0_dead rd_1) (jP a_0_sw a_0_room a_0_up a_0_life a_0_u a_0_table a_0_staged a_0_armed a_0_wait_l a_0_done a_0_dead rd_1):=by
 unfold jO jP
 repeat' first
  |with_reducible apply gp
  |with_reducible refine bA.bind ?_ (fun _=>?_)
  |(split<;>try dsimp only)
  |with_reducible exact bA.refl _
def jI(a_0_sw:Int)(a_0_room:Int)(a_0_up:Bool)(a_0_life:Int)(a_0_u:Int)(a_0_table:Sl ae)(a_0_staged:Mp Int (Sl ai))(a_0_armed:Mp Int Int)(a_0_wait_l:Sl Int)(a_0_done:Sl av)(a_0_dead:Mp Int Int)(rd_1:Int):Option (Int×Bool×Int×Int×Bool×Int×Int×Sl ae×Mp Int (Sl ai)×Mp Int Int×Sl Int×Sl av×Mp Int Int):=
 bif px a_0_dead rd_1 then(some (16,true,a_0_sw,a_0_room,a_0_up,a_0_life,a_0_u,a_0_table,a_0_staged,a_0_armed,a_0_wait_l,a_0_done,a_0_dead))else
 ((jO a_0_sw a_0_room a_0_up a_0_life a_0_u a_0_table a_0_staged a_0_armed a_0_wait_l a_0_done a_0_dead rd_1).bind fun(r1,q2,q3,q4,q5,q6,q7,q8,q9,s10,s11,q12)=>
 some (0,r1,q2,q3,q4,q5,q6,q7,q8,q9,s10,s11,q12))
theorem oh(a_0_sw:Int)(a_0_room:Int)(a_0_up:Bool)(a_0_life:Int)(a_0_u:Int)(a_0_table:Sl ae)(a_0_staged:Mp Int (Sl ai))(a_0_armed:Mp Int Int)(a_0_wait_l:Sl Int)(a_0_done:Sl av)(a_0_dead:Mp Int Int)(rd_1:Int):bA (jI a_0_sw a_0_room a_0_up a_0_life a_0_u a_0_table a_0_staged a_0_armed a_0_wait_l a_0_done a_0_dead rd_1) (jo a_0_sw a_0_room a_0_up a_0_life a_0_u a_0_table a_0_staged a_0_armed a_0_wait_l a_0_done a_0_dead rd_1):=by
 unfold jI jo
 repeat' first
  |with_reducible apply m8
  |with_reducible refine bA.cond ?_ ?_
  |with_reducible refine bA.bind ?_ (fun _=>?_)
  |(split<;>try dsimp only)
  |with_reducible exact bA.refl _
def rZ(a_0:Sl ai)(b_1:Sl ai):Option Bool:=
 (oY (⟨0,0,0,0,0,0,0,0,0,a_0⟩:af) (⟨0,0,0,0,0,0,0,0,0,b_1⟩:af)).bind fun r1=>
 some r1
theorem zF(a_0:Sl ai)(b_1:Sl ai):bA (rZ a_0 b_1) (r_ a_0 b_1):=by
 unfold rZ r_
 repeat' first
  |with_reducible apply uh
  |with_reducible refine bA.bind ?_ (fun _=>?_)
  |(split<;>try dsimp only)
  |with_reducible exact bA.refl _
def lK(a_0_sw:Int)(a_0_room:Int)(a_0_up:Bool)(a_0_life:Int)(a_0_u:Int)(a_0_table:Sl ae)(a_0_staged:Mp Int (Sl ai))(a_0_armed:Mp Int Int)(a_0_wait_l:Sl Int)(a_0_done:Sl av)(a_0_dead:Mp Int Int)(m_1:af):Option (Int×Int×Int×Bool×Int×Int×Sl ae×Mp Int (Sl ai)×Mp Int Int×Sl Int×Sl av×Mp Int Int):=
 (jI a_0_sw a_0_room a_0_up a_0_life a_0_u a_0_table a_0_staged a_0_armed a_0_wait_l a_0_done a_0_dead (af.Rd m_1)).bind fun(r1,r2,q3,q4,q5,q6,q7,q8,q9,q10,s11,s12,q13)=>
 bif r2 then(some (r1,q3,q4,q5,q6,q7,q8,q9,q10,s11,s12,q13))else
 (bif px q9 (af.Rd m_1)then((rZ (oM q9 Sl.nil (af.Rd m_1)) (af.vJ m_1)).bind fun r14=>
 bif(!r14)then(some (8,q3,q4,q5,q6,q7,q8,q9,q10,s11,s12,q13))else
 (some (0,q3,q4,q5,q6,q7,q8,q9,q10,s11,s12,q13)))else
 (((sd (af.vJ m_1)).bind fun
 |.inl _=>((gx q8 8 q4).bind fun r15=>
 some r15)
 |.inr r16=>((iU r16 q8 8 q4).bind fun(r17,q18)=>
 some r17):Option Int).bind fun i19=>
 bif(i19 !=0)then(some (i19,q3,q4,q5,q6,q7,q8,q9,q10,s11,s12,q13))else
 ((hO (af.vJ m_1)).bind fun r20=>
 some (0,q3,q4,q5,q6,q7,q8,(si q9 (af.Rd m_1) r20),q10,s11,s12,q13))))
theorem tt(a_0_sw:Int)(a_0_room:Int)(a_0_up:Bool)(a_0_life:Int)(a_0_u:Int)(a_0_table:Sl ae)(a_0_staged:Mp Int (Sl ai))(a_0_armed:Mp Int Int)(a_0_wait_l:Sl Int)(a_0_done:Sl av)(a_0_dead:Mp Int Int)(m_1:af):bA (lK a_0_sw a_0_room a_0_up a_0_life a_0_u a_0_table a_0_staged a_0_armed a_0_wait_l a_0_done a_0_dead m_1) (kK a_0_sw a_0_room a_0_up a_0_life a_0_u a_0_table a_0_staged a_0_armed a_0_wait_l a_0_done a_0_dead m_1):=by
 unfold lK kK
 repeat' first
  |with_reducible apply oh
  |with_reducible apply zF
  |with_reducible apply wW
  |with_reducible apply k7
  |with_reducible apply mZ
  |with_reducible refine bA.cond ?_ ?_
  |with_reducible refine bA.bind ?_ (fun _=>?_)
  |(split<;>try dsimp only)
  |with_reducible exact bA.refl _
def ky(q_0_l:Sl Int)(x_1:Int):Option (Sl Int):=
 (mi (q_0_l.l++[x_1])).bind fun l1=>
 (jC (Sl.mk l1) (wr .i64 ((l1.length:Int)-1))).bind fun s2=>
 some s2
theorem rO(q_0_l:Sl Int)(x_1:Int):bA (ky q_0_l x_1) (jF q_0_l x_1):=by
 unfold ky jF
 repeat' first
  |with_reducible apply n_
  |with_reducible refine bA.bind ?_ (fun _=>?_)
  |(split<;>try dsimp only)
  |with_reducible exact bA.refl _
def m_(a_0_sw:Int)(a_0_room:Int)(a_0_up:Bool)(a_0_life:Int)(a_0_u:Int)(a_0_table:Sl ae)(a_0_staged:Mp Int (Sl ai))(a_0_armed:Mp Int Int)(a_0_wait_l:Sl Int)(a_0_done:Sl av)(a_0_dead:Mp Int Int)(now_1:Int)(m_2:af):Option (Int×Int×Int×Bool×Int×Int×Sl ae×Mp Int (Sl ai)×Mp Int Int×Sl Int×Sl av×Mp Int Int):=
 (jI a_0_sw a_0_room a_0_up a_0_life a_0_u a_0_table a_0_staged a_0_armed a_0_wait_l a_0_done a_0_dead (af.Rd m_2)).bind fun(r1,r2,q3,q4,q5,q6,q7,q8,q9,q10,s11,s12,q13)=>
 bif r2 then(some (r1,q3,q4,q5,q6,q7,q8,q9,q10,s11,s12,q13))else
 (bif(!(px q9 (af.Rd m_2)))then(some (7,q3,q4,q5,q6,q7,q8,q9,q10,s11,s12,q13))else
 (bif((px q10 (af.Rd m_2))&&((oM q10 0 (af.Rd m_2)) !=(af.T2 m_2)))then(some (8,q3,q4,q5,q6,q7,q8,q9,q10,s11,s12,q13))else
 (bif px q10 (af.Rd m_2)then(some (0,q3,q4,q5,q6,q7,q8,q9,q10,s11,s12,q13))else
 (bif decide (now_1>=(af.T2 m_2))then(some (15,q3,q4,q5,q6,q7,q8,q9,q10,s11,s12,q13))else
 ((ky s11 (wr .i64 ((wr .i64 ((af.T2 m_2)*8))+(af.Rd m_2)))).bind fun s14=>
 some (0,q3,q4,q5,q6,q7,q8,q9,(si q10 (af.Rd m_2) (af.T2 m_2)),s14,s12,q13))))))
theorem uU(a_0_sw:Int)(a_0_room:Int)(a_0_up:Bool)(a_0_life:Int)(a_0_u:Int)(a_0_table:Sl ae)(a_0_staged:Mp Int (Sl ai))(a_0_armed:Mp Int Int)(a_0_wait_l:Sl Int)(a_0_done:Sl av)(a_0_dead:Mp Int Int)(now_1:Int)(m_2:af):bA (m_ a_0_sw a_0_room a_0_up a_0_life a_0_u a_0_table a_0_staged a_0_armed a_0_wait_l a_0_done a_0_dead now_1 m_2) (l5 a_0_sw a_0_room a_0_up a_0_life a_0_u a_0_table a_0_staged a_0_armed a_0_wait_l a_0_done a_0_dead now_1 m_2):=by
 unfold m_ l5
 repeat' first
  |with_reducible apply oh
  |with_reducible apply rO
  |with_reducible refine bA.cond ?_ ?_
  |with_reducible refine bA.bind ?_ (fun _=>?_)
  |(split<;>try dsimp only)
  |with_reducible exact bA.refl _
def ml(a_0_sw:Int)(a_0_room:Int)(a_0_up:Bool)(a_0_life:Int)(a_0_u:Int)(a_0_table:Sl ae)(a_0_staged:Mp Int (Sl ai))(a_0_armed:Mp Int Int)(a_0_wait_l:Sl Int)(a_0_done:Sl av)(a_0_dead:Mp Int Int)(rd_1:Int):Option (Sl bF×Int×Int×Int×Bool×Int×Int×Sl ae×Mp Int (Sl ai)×Mp Int Int×Sl Int×Sl av×Mp Int Int):=
 bif decide (rd_1<0)then((iM 100000 (oP) (a_0_sw,a_0_room,a_0_up,a_0_life,a_0_u,a_0_table,Sl.nil,a_0_staged,a_0_armed,a_0_done,a_0_dead,a_0_wait_l)).bind fun(i38,i39,b40,i41,i42,s43,s44,m45,m46,s47,m48,s49)=>
 (gA i38 i39 b40 i41 i42 s43 m45 m46 s49 s47 m48).bind fun(q50,q51,q52,q53,q54,q55,q56,q57,s58,s59,q60)=>
 (iM 100000 (oO) (0,q50,q51,q52,q53,q54,q55,q56,q57,s59,q60,s58)).bind fun(i86,i87,b88,i89,i90,s91,m92,m93,s94,m95,s96)=>
 some (s44,0,i86,i87,b88,i89,i90,s91,m92,m93,s96,s94,m95))else
 (((jO a_0_sw a_0_room a_0_up a_0_life a_0_u a_0_table a_0_staged a_0_armed a_0_wait_l a_0_done a_0_dead rd_1).bind fun(r97,q98,q99,q100,q101,q102,q103,q104,q105,s106,s107,q108)=>
 bif r97 then((fw (wr .i64 ((s107.l.length:Int)-1)) s107.l.length).bind fun n109=>
 bif((av.rd (gt s107.l n109)) !=rd_1)then(some (.inr (16,q98,q99,q100,q101,q102,q103,q104,q105,s107,q108,s106)))else
 ((ly q98 q99 q100 q101 q102 q103 q104 q105 s106 s107 q108).bind fun(r110,q111,q112,q113,q114,q115,q116,q117,q118,s119,s120,q121)=>
 (mi ([]++[r110])).bind fun l122=>
 some (.inl (q111,q112,q113,q114,q115,q116,(Sl.mk l122),q117,q118,s120,q121,s119))))else
 (some (.inl (q98,q99,q100,q101,q102,q103,Sl.nil,q104,q105,s107,q108,s106))):Option ((Int×Int×Bool×Int×Int×Sl ae×Sl bF×Mp Int (Sl ai)×Mp Int Int×Sl av×Mp Int Int×Sl Int)⊕(Int×Int×Int×Bool×Int×Int×Sl ae×Mp Int (Sl ai)×Mp Int Int×Sl av×Mp Int Int×Sl Int))).bind fun
 |.inl (i123,i124,b125,i126,i127,s128,s129,m130,m131,s132,m133,s134)=>((j_ i123 i124 b125 i126 i127 s128 m130 m131 s134 s132 m133 rd_1).bind fun(q135,q136,q137,q138,q139,q140,q141,q142,s143,s144,q145)=>
 some (s129,0,q135,q136,q137,q138,q139,q140,q141,q142,s143,s144,(si q145 rd_1 q139)))
 |.inr (i146,i147,i148,b149,i150,i151,s152,m153,m154,s155,m156,s157)=>(some (Sl.nil,i146,i147,i148,b149,i150,i151,s152,m153,m154,s157,s155,m156)))
theorem uc(a_0_sw:Int)(a_0_room:Int)(a_0_up:Bool)(a_0_life:Int)(a_0_u:Int)(a_0_table:Sl ae)(a_0_staged:Mp Int (Sl ai))(a_0_armed:Mp Int Int)(a_0_wait_l:Sl Int)(a_0_done:Sl av)(a_0_dead:Mp Int Int)(rd_1:Int):bA (ml a_0_sw a_0_room a_0_up a_0_life a_0_u a_0_table a_0_staged a_0_armed a_0_wait_l a_0_done a_0_dead rd_1) (lw a_0_sw a_0_room a_0_up a_0_life a_0_u a_0_table a_0_staged a_0_armed a_0_wait_l a_0_done a_0_dead rd_1):=by
 unfold ml lw
 repeat' first
  |with_reducible apply m8
  |with_reducible apply oQ
  |with_reducible refine bA.loop (fun _=>?_) _ _
  |with_reducible refine bA.cond ?_ ?_
  |with_reducible refine bA.bind ?_ (fun _=>?_)
  |(split<;>try dsimp only)
  |with_reducible exact bA.refl _
def kc(bits_1:Int):(Int×Int×Int×Bool×Int×Int×Sl ae×Mp Int (Sl ai)×Mp Int Int×Sl av×Mp Int Int×Sl Int)->Option ((Int×Int×Int×Bool×Int×Int×Sl ae×Mp Int (Sl ai)×Mp Int Int×Sl av×Mp Int Int×Sl Int)⊕((Int×Int×Int×Bool×Int×Int×Sl ae×Mp Int (Sl ai)×Mp Int Int×Sl av×Mp Int Int×Sl Int)⊕(Int×Int×Bool×Int×Int×Sl ae×Mp Int (Sl ai)×Mp Int Int×Sl av×Mp Int Int×Sl Int))):=fun(i14,i15,i16,b17,i18,i19,s20,m21,m22,s23,m24,s25)=>
 bif decide (i14<8)then(((HQ .i64 bits_1 i14).bind fun i26=>
 bif((qj .i64 i26 1)==1)then((jO i15 i16 b17 i18 i19 s20 m21 m22 s25 s23 m24 i14).bind fun(r27,q28,q29,q30,q31,q32,q33,q34,q35,s36,s37,q38)=>
 some ((!r27),q28,q29,q30,q31,q32,q33,q34,q35,s37,q38,s36))else
 (some (false,i15,i16,b17,i18,i19,s20,m21,m22,s23,m24,s25)):Option (Bool×Int×Int×Bool×Int×Int×Sl ae×Mp Int (Sl ai)×Mp Int Int×Sl av×Mp Int Int×Sl Int)).bind fun(b39,i40,i41,b42,i43,i44,s45,m46,m47,s48,m49,s50)=>
 bif b39 then(some (.inr (.inl (7,i40,i41,b42,i43,i44,s45,m46,m47,s48,m49,s50))))else
 (some (.inl (wr .i64 (i14+1),i40,i41,b42,i43,i44,s45,m46,m47,s48,m49,s50))))else
 (some (.inr (.inr (i15,i16,b17,i18,i19,s20,m21,m22,s23,m24,s25))))
theorem rn(bits_1:Int):∀s,bA (kc bits_1 s) (k9 bits_1 s):=by
 intro s;unfold kc k9;rw[vD]
 repeat' first
  |with_reducible apply m8
  |with_reducible refine bA.cond ?_ ?_
  |with_reducible refine bA.bind ?_ (fun _=>?_)
  |(split<;>try dsimp only)
  |with_reducible exact bA.refl _
def lL(a_0_sw:Int)(a_0_room:Int)(a_0_up:Bool)(a_0_life:Int)(a_0_u:Int)(a_0_table:Sl ae)(a_0_staged:Mp Int (Sl ai))(a_0_armed:Mp Int Int)(a_0_wait_l:Sl Int)(a_0_done:Sl av)(a_0_dead:Mp Int Int)(bits_1:Int):Option (Int×Int×Int×Bool×Int×Int×Sl ae×Mp Int (Sl ai)×Mp Int Int×Sl Int×Sl av×Mp Int Int):=
 (iM 100000 (kc bits_1) (0,a_0_sw,a_0_room,a_0_up,a_0_life,a_0_u,a_0_table,a_0_staged,a_0_armed,a_0_done,a_0_dead,a_0_wait_l)).bind fun
 |.inl (i51,i52,i53,b54,i55,i56,s57,m58,m59,s60,m61,s62)=>(some (i51,i52,i53,b54,i55,i56,s57,m58,m59,s62,s60,m61))
 |.inr (i63,i64,b65,i66,i67,s68,m69,m70,s71,m72,s73)=>(some (0,i63,i64,b65,i66,i67,s68,m69,m70,s73,s71,m72))
theorem tu(a_0_sw:Int)(a_0_room:Int)(a_0_up:Bool)(a_0_life:Int)(a_0_u:Int)(a_0_table:Sl ae)(a_0_staged:Mp Int (Sl ai))(a_0_armed:Mp Int Int)(a_0_wait_l:Sl Int)(a_0_done:Sl av)(a_0_dead:Mp Int Int)(bits_1:Int):bA (lL a_0_sw a_0_room a_0_up a_0_life a_0_u a_0_table a_0_staged a_0_armed a_0_wait_l a_0_done a_0_dead bits_1) (kL a_0_sw a_0_room a_0_up a_0_life a_0_u a_0_table a_0_staged a_0_armed a_0_wait_l a_0_done a_0_dead bits_1):=by
 unfold lL kL
 repeat' first
  |with_reducible apply rn
  |with_reducible refine bA.loop (fun _=>?_) _ _
  |with_reducible refine bA.bind ?_ (fun _=>?_)
  |(split<;>try dsimp only)
  |with_reducible exact bA.refl _
def mn(a_0_sw:Int)(a_0_room:Int)(a_0_up:Bool)(a_0_life:Int)(a_0_u:Int)(a_0_table:Sl ae)(a_0_staged:Mp Int (Sl ai))(a_0_armed:Mp Int Int)(a_0_wait_l:Sl Int)(a_0_done:Sl av)(a_0_dead:Mp Int Int)(now_1:Int)(m_2:af):Option (Sl bF×Int×Int×Int×Bool×Int×Int×Sl ae×Mp Int (Sl ai)×Mp Int Int×Sl Int×Sl av×Mp Int Int):=
 bif decide ((af.U m_2)<a_0_u)then(some (Sl.nil,16,a_0_sw,a_0_room,a_0_up,a_0_life,a_0_u,a_0_table,a_0_staged,a_0_armed,a_0_wait_l,a_0_done,a_0_dead))else
 ((bif decide ((af.U m_2)>a_0_u)then((gA a_0_sw a_0_room a_0_up a_0_life (af.U m_2) a_0_table a_0_staged a_0_armed a_0_wait_l Sl.nil (Mp.none:Mp Int Int)).bind fun(q1,q2,q3,q4,q5,q6,q7,q8,s9,s10,q11)=>
 some (q1,q2,q3,q4,q5,q6,q7,q8,s10,q11,s9))else
 (some (a_0_sw,a_0_room,a_0_up,a_0_life,a_0_u,a_0_table,a_0_staged,a_0_armed,a_0_done,a_0_dead,a_0_wait_l)):Option (Int×Int×Bool×Int×Int×Sl ae×Mp Int (Sl ai)×Mp Int Int×Sl av×Mp Int Int×Sl Int)).bind fun(i12,i13,b14,i15,i16,s17,m18,m19,s20,m21,s22)=>
 bif((af.fx m_2)==3)then((lK i12 i13 b14 i15 i16 s17 m18 m19 s22 s20 m21 m_2).bind fun(r23,q24,q25,q26,q27,q28,q29,q30,q31,s32,s33,q34)=>
 some (Sl.nil,r23,q24,q25,q26,q27,q28,q29,q30,q31,s32,s33,q34))else
 (bif((af.fx m_2)==4)then((m_ i12 i13 b14 i15 i16 s17 m18 m19 s22 s20 m21 now_1 m_2).bind fun(r35,q36,q37,q38,q39,q40,q41,q42,q43,s44,s45,q46)=>
 some (Sl.nil,r35,q36,q37,q38,q39,q40,q41,q42,q43,s44,s45,q46))else
 (bif((af.fx m_2)==5)then((ml i12 i13 b14 i15 i16 s17 m18 m19 s22 s20 m21 (af.Rd m_2)).bind fun(r47,r48,q49,q50,q51,q52,q53,q54,q55,q56,s57,s58,q59)=>
 some (r47,r48,q49,q50,q51,q52,q53,q54,q55,q56,s57,s58,q59))else
 ((lL i12 i13 b14 i15 i16 s17 m18 m19 s22 s20 m21 (af.Code m_2)).bind fun(r60,q61,q62,q63,q64,q65,q66,q67,q68,s69,s70,q71)=>
 some (Sl.nil,r60,q61,q62,q63,q64,q65,q66,q67,q68,s69,s70,q71)))))
theorem ud(a_0_sw:Int)(a_0_room:Int)(a_0_up:Bool)(a_0_life:Int)(a_0_u:Int)(a_0_table:Sl ae)(a_0_staged:Mp Int (Sl ai))(a_0_armed:Mp Int Int)(a_0_wait_l:Sl Int)(a_0_done:Sl av)(a_0_dead:Mp Int Int)(now_1:Int)(m_2:af):bA (mn a_0_sw a_0_room a_0_up a_0_life a_0_u a_0_table a_0_staged a_0_armed a_0_wait_l a_0_done a_0_dead now_1 m_2) (lx a_0_sw a_0_room a_0_up a_0_life a_0_u a_0_table a_0_staged a_0_armed a_0_wait_l a_0_done a_0_dead now_1 m_2):=by
 unfold mn lx
 repeat' first
  |with_reducible apply tt
  |with_reducible apply uU
  |with_reducible apply uc
  |with_reducible apply tu
  |with_reducible refine bA.cond ?_ ?_
  |with_reducible refine bA.bind ?_ (fun _=>?_)
  |(split<;>try dsimp only)
  |with_reducible exact bA.refl _
def ke(a_0_sw:Int)(a_0_room:Int)(a_0_up:Bool)(a_0_life:Int)(a_0_u:Int)(a_0_table:Sl ae)(a_0_staged:Mp Int (Sl ai))(a_0_armed:Mp Int Int)(a_0_wait_l:Sl Int)(a_0_done:Sl av)(a_0_dead:Mp Int Int)(now_1:Int)(m_2:af):Option (af×Bool×Sl bF×Int×Int×Bool×Int×Int×Sl ae×Mp Int (Sl ai)×Mp Int Int×Sl Int×Sl av×Mp Int Int):=
 ((k_ a_0_sw a_0_room a_0_up a_0_life a_0_u a_0_table a_0_staged a_0_armed a_0_wait_l a_0_done a_0_dead).bind fun(r1,q2,q3,q4,q5,q6,q7,q8,q9,s10,s11,q12)=>
 bif(!r1)then(some (true,q2,q3,q4,q5,q6,q7,q8,q9,s11,q12,s10))else
 ((nO m_2).bind fun r13=>
 some (((((!r13)||((af.Sw m_2) !=q2))||((af.fx m_2)==2))||(decide ((af.fx m_2)>=7))),q2,q3,q4,q5,q6,q7,q8,q9,s11,q12,s10)):Option (Bool×Int×Int×Bool×Int×Int×Sl ae×Mp Int (Sl ai)×Mp Int Int×Sl av×Mp Int Int×Sl Int)).bind fun(b14,i15,i16,b17,i18,i19,s20,m21,m22,s23,m24,s25)=>
 bif b14 then(some ((⟨0,0,0,0,0,0,0,0,0,Sl.nil⟩:af),false,Sl.nil,i15,i16,b17,i18,i19,s20,m21,m22,s25,s23,m24))else
 ((jp i15 i16 b17 i18 i19 s20 m21 m22 s25 s23 m24 now_1).bind fun(s26,q27,q28,q29,q30,q31,q32,q33,q34,s35,s36,q37)=>
 bif((af.fx m_2)==1)then(some ((⟨2,q27,0,0,af.T1 m_2,now_1,q30,0,0,Sl.nil⟩:af),true,s26,q27,q28,q29,q30,q31,q32,q33,q34,s35,s36,q37))else
 ((mn q27 q28 q29 q30 q31 q32 q33 q34 s35 s36 q37 now_1 m_2).bind fun(r38,r39,q40,q41,q42,q43,q44,q45,q46,q47,s48,s49,q50)=>
 (bif(r39 !=0)then(some (⟨8,q40,af.U m_2,af.Rd m_2,0,0,q43,af.fx m_2,r39,Sl.nil⟩:af))else
 (some (⟨7,q40,af.U m_2,af.Rd m_2,0,0,q43,af.fx m_2,0,Sl.nil⟩:af)):Option af).bind fun x51=>
 (mi (s26.l++r38.l)).bind fun l52=>
 some (x51,true,(tg s26 r38.l l52),q40,q41,q42,q43,q44,q45,q46,q47,s48,s49,q50)))
theorem ue(a_0_sw:Int)(a_0_room:Int)(a_0_up:Bool)(a_0_life:Int)(a_0_u:Int)(a_0_table:Sl ae)(a_0_staged:Mp Int (Sl ai))(a_0_armed:Mp Int Int)(a_0_wait_l:Sl Int)(a_0_done:Sl av)(a_0_dead:Mp Int Int)(now_1:Int)(m_2:af):bA (ke a_0_sw a_0_room a_0_up a_0_life a_0_u a_0_table a_0_staged a_0_armed a_0_wait_l a_0_done a_0_dead now_1 m_2) (jR a_0_sw a_0_room a_0_up a_0_life a_0_u a_0_table a_0_staged a_0_armed a_0_wait_l a_0_done a_0_dead now_1 m_2):=by
 unfold ke jR
 repeat' first
  |with_reducible apply sN
  |with_reducible apply pL
  |with_reducible apply ud
  |with_reducible refine bA.cond ?_ ?_
  |with_reducible refine bA.bind ?_ (fun _=>?_)
  |(split<;>try dsimp only)
  |with_reducible exact bA.refl _
def uk:Option Bool:=
 (mb 1 1 10 2).bind fun r1=>
 (tq 0 (Sl.mk [r1]) 4).bind fun
 |.inl r2=>((mb 1 1 10 5).bind fun r3=>
 (iw 3 (⟨3,0,1,2,0,0,0,0,0,(Sl.mk [(⟨3,r3,false⟩:ai)])⟩:af)).bind fun(r4,r5,r6)=>
 (iw 3 (⟨4,0,1,2,0,10,0,0,0,Sl.nil⟩:af)).bind fun(r7,r8,r9)=>
 (ed 9).bind fun s10=>
 (ed 10).bind fun s11=>
 (iW).bind fun r12=>
 (bif(((((((r2==0)&&r5)&&r8)&&((af.fx r4)==7))&&((af.fx r7)==7))&&((s10.l.length:Int)==0))&&((s11.l.length:Int)==1))then((fw 0 s11.l.length).bind fun n13=>
 bif((decide ((gt s11.l n13)=(⟨1,2⟩:bF)))&&((r12.l.length:Int)==1))then((fw 0 r12.l.length).bind fun n14=>
 bif((((ae.pd (gt r12.l n14)).l).length:Int)==1)then((fw 0 r12.l.length).bind fun n15=>
 (fw 0 ((ae.pd (gt r12.l n15)).l).length).bind fun n16=>
 some ((bY.V (gt ((ae.pd (gt r12.l n15)).l) n16))==5))else
 (some false))else
 (some false))else
 (some false):Option Bool).bind fun b17=>
 some b17)
 |.inr (r18,r19,r20,r21,r22,r23,r24,r25,s26,s27,r28,r29)=>((mb 1 1 10 5).bind fun r30=>
 (ke r18 r19 r20 r21 r22 r23 r24 r25 s26 s27 r28 3 (⟨3,0,1,2,0,0,0,0,0,(Sl.mk [(⟨3,r30,false⟩:ai)])⟩:af)).bind fun(r31,r32,r33,q34,q35,q36,q37,q38,q39,q40,q41,s42,s43,q44)=>
 (ke q34 q35 q36 q37 q38 q39 q40 q41 s42 s43 q44 3 (⟨4,0,1,2,0,10,0,0,0,Sl.nil⟩:af)).bind fun(r45,r46,r47,q48,q49,q50,q51,q52,q53,q54,q55,s56,s57,q58)=>
 (jp q48 q49 q50 q51 q52 q53 q54 q55 s56 s57 q58 9).bind fun(s59,q60,q61,q62,q63,q64,q65,q66,q67,s68,s69,q70)=>
 (jp q60 q61 q62 q63 q64 q65 q66 q67 s68 s69 q70 10).bind fun(s71,q72,q73,q74,q75,q76,q77,q78,q79,s80,s81,q82)=>
 (nc q72 q73 q74 q75 q76 q77 q78 q79 s80 s81 q82).bind fun(r83,q84,q85,q86,q87,q88,q89,q90,q91,s92,s93,q94)=>
 (bif(((((((r29==0)&&r32)&&r46)&&((af.fx r31)==7))&&((af.fx r45)==7))&&((s59.l.length:Int)==0))&&((s71.l.length:Int)==1))then((fw 0 s71.l.length).bind fun n95=>
 bif((decide ((gt s71.l n95)=(⟨1,2⟩:bF)))&&((r83.l.length:Int)==1))then((fw 0 r83.l.length).bind fun n96=>
 bif((((ae.pd (gt r83.l n96)).l).length:Int)==1)then((fw 0 r83.l.length).bind fun n97=>
 (fw 0 ((ae.pd (gt r83.l n97)).l).length).bind fun n98=>
 some ((bY.V (gt ((ae.pd (gt r83.l n97)).l) n98))==5))else
 (some false))else
 (some false))else
 (some false):Option Bool).bind fun b99=>
 some b99)
theorem yz:bA (uk) (kV):=by
 unfold uk kV
 repeat' first
  |with_reducible apply Bq
  |with_reducible apply rp
  |with_reducible apply ue
  |with_reducible apply pL
  |with_reducible refine bA.cond ?_ ?_
  |with_reducible refine bA.bind ?_ (fun _=>?_)
  |(split<;>try dsimp only)
  |with_reducible exact bA.refl _
theorem wh:kV=some true:=yz _ (by decide+kernel)
end Go.Proofs.YtjjajcecekocdaaGreat.A
