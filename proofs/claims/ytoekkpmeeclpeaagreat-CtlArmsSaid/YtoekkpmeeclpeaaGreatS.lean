/- What functions of the program compute, and that the model's run computes it. Conditions: as stated. -/
import Derived.Test.YtoekkpmeeclpeaaGreatSa
open Go.Ev Go
noncomputable section
namespace Go.Proofs.YtoekkpmeeclpeaaGreat.S
def qP(x_0_c:ai)(x_0_routes:Sl (Sl (Sl Int)))(x_0_l:Sl aj)(x_0_at:af)(x_0_volatile_phase:Int)(x_0_volatile_plan:am)(x_0_volatile_cur:Int)(x_0_volatile_want:Mp Int aa)(x_0_volatile_sent:Int)(x_0_volatile_rest:Int)(x_0_volatile_skip:Int)(x_0_volatile_healed:Int)(x_0_volatile_est:Arr 8 ak)(x_0_volatile_asked:Arr 8 Int)(x_0_volatile_out:Sl aa)(x_0_volatile_events:Sl ax)(now_1:Int)(up_2:Int):Option (ai×Sl (Sl (Sl Int))×Sl aj×af×Int×am×Int×Mp Int aa×Int×Int×Int×Int×Arr 8 ak×Arr 8 Int×Sl aa×Sl ax):=
 bif(x_0_volatile_phase !=6)then(some (x_0_c,x_0_routes,x_0_l,x_0_at,x_0_volatile_phase,x_0_volatile_plan,x_0_volatile_cur,x_0_volatile_want,x_0_volatile_sent,x_0_volatile_rest,x_0_volatile_skip,x_0_volatile_healed,x_0_volatile_est,x_0_volatile_asked,x_0_volatile_out,x_0_volatile_events))else
 (bif(!(af.jg x_0_at))then(some (x_0_c,x_0_routes,x_0_l,x_0_at,0,x_0_volatile_plan,x_0_volatile_cur,x_0_volatile_want,x_0_volatile_sent,x_0_volatile_rest,x_0_volatile_skip,x_0_volatile_healed,x_0_volatile_est,x_0_volatile_asked,x_0_volatile_out,x_0_volatile_events))else
 ((lq x_0_c x_0_routes x_0_l x_0_at 0 x_0_volatile_plan x_0_volatile_cur x_0_volatile_want x_0_volatile_sent x_0_volatile_rest x_0_volatile_skip x_0_volatile_healed x_0_volatile_est x_0_volatile_asked x_0_volatile_out x_0_volatile_events (af.eL x_0_at) (af.At x_0_at)).bind fun(r1,_,q3,q4,s5,q6,q7,_,q9,q10,q11,q12,q13,q14,q15,q16,s17,s18)=>
 bif((af.oe q6)&&(!(af.bH q6)))then(some (q3,q4,s5,q6,3,r1,q9,q10,q11,q12,q13,q14,q15,q16,s17,s18))else
 ((iL q3 q4 s5 q6 q7 r1 q9 q10 q11 q12 q13 q14 q15 q16 s17 s18 now_1 up_2).bind fun(q19,q20,s21,q22,q23,q24,q25,q26,q27,q28,q29,q30,q31,q32,s33,s34)=>
 some (q19,q20,s21,q22,q23,q24,q25,q26,q27,q28,q29,q30,q31,q32,s33,s34))))
def Yr:dC:=⟨[(true,h0),(false,.x (.i .i64)),(false,.x (.i .i64))],[([],[h0])],false,[true,false,false],fun p=>match p with|(x_0_c,x_0_routes,x_0_l,x_0_at,x_0_volatile_phase,x_0_volatile_plan,x_0_volatile_cur,x_0_volatile_want,x_0_volatile_sent,x_0_volatile_rest,x_0_volatile_skip,x_0_volatile_healed,x_0_volatile_est,x_0_volatile_asked,x_0_volatile_out,x_0_volatile_events,now_1,up_2)=>qP x_0_c x_0_routes x_0_l x_0_at x_0_volatile_phase x_0_volatile_plan x_0_volatile_cur x_0_volatile_want x_0_volatile_sent x_0_volatile_rest x_0_volatile_skip x_0_volatile_healed x_0_volatile_est x_0_volatile_asked x_0_volatile_out x_0_volatile_events now_1 up_2⟩
theorem aab:aN prog 26 Yr:=aH mixed (lp:=eg) (aR:=aR) (np:=3) (an:=[]) (.cons Vx (.cons Ts .nil)) (by kernel_rfl) (by kernel_rfl)
def vK(x_0_c:ai)(x_0_routes:Sl (Sl (Sl Int)))(x_0_l:Sl aj)(x_0_at:af)(x_0_volatile_phase:Int)(x_0_volatile_plan:am)(x_0_volatile_cur:Int)(x_0_volatile_want:Mp Int aa)(x_0_volatile_sent:Int)(x_0_volatile_rest:Int)(x_0_volatile_skip:Int)(x_0_volatile_healed:Int)(x_0_volatile_est:Arr 8 ak)(x_0_volatile_asked:Arr 8 Int)(x_0_volatile_out:Sl aa)(x_0_volatile_events:Sl ax)(d_1:ba)(sent_2:Sl aa):Option (Int×ai×Sl (Sl (Sl Int))×Sl aj×af×Int×am×Int×Mp Int aa×Int×Int×Int×Int×Arr 8 ak×Arr 8 Int×Sl aa×Sl ax×Sl aa):=
 (bif((ba.cN d_1)==0)then((ia x_0_c x_0_routes x_0_l x_0_at x_0_volatile_phase x_0_volatile_plan x_0_volatile_cur x_0_volatile_want x_0_volatile_sent x_0_volatile_rest x_0_volatile_skip x_0_volatile_healed x_0_volatile_est x_0_volatile_asked x_0_volatile_out x_0_volatile_events (ba.pk d_1) (ba.N d_1) (ba.Up d_1)).bind fun(r1,q2,q3,s4,q5,q6,q7,q8,q9,q10,q11,q12,q13,q14,q15,s16,s17)=>
 some (.inr (r1,q2,q3,q5,q6,q7,q8,q10,q11,q12,q13,q14,q15,s4,q9,s16,s17)))else
 ((bif((ba.cN d_1)==1)then(some ((ba.cN d_1)==1))else
 (some ((ba.cN d_1)==2)):Option Bool).bind fun b18=>
 bif b18 then((iV x_0_c x_0_routes x_0_l x_0_at x_0_volatile_phase x_0_volatile_plan x_0_volatile_cur x_0_volatile_want x_0_volatile_sent x_0_volatile_rest x_0_volatile_skip x_0_volatile_healed x_0_volatile_est x_0_volatile_asked x_0_volatile_out x_0_volatile_events (ba.pk d_1) (ba.Up d_1)).bind fun(q19,q20,s21,q22,q23,q24,q25,q26,q27,q28,q29,q30,q31,q32,s33,s34)=>
 some (.inl (q19,q20,q22,q23,q24,q25,q27,q28,q29,q30,q31,q32,sent_2,s21,q26,s33,s34)))else
 (bif((ba.cN d_1)==3)then((jQ x_0_c x_0_routes x_0_l x_0_at x_0_volatile_phase x_0_volatile_plan x_0_volatile_cur x_0_volatile_want x_0_volatile_sent x_0_volatile_rest x_0_volatile_skip x_0_volatile_healed x_0_volatile_est x_0_volatile_asked x_0_volatile_out x_0_volatile_events (ba.pk d_1) (ba.M d_1) (ba.Up d_1)).bind fun(q35,q36,s37,q38,q39,q40,q41,q42,q43,q44,q45,q46,q47,q48,s49,s50)=>
 some (.inl (q35,q36,q38,q39,q40,q41,q43,q44,q45,q46,q47,q48,sent_2,s37,q42,s49,s50)))else
 (bif((ba.cN d_1)==4)then((sP sent_2 (ba.N d_1)).bind fun(r51,r52,s53)=>
 (my s53 sent_2).bind fun _=>
 bif r52 then((rU r51).bind fun r54=>
 (jQ x_0_c x_0_routes x_0_l x_0_at x_0_volatile_phase x_0_volatile_plan x_0_volatile_cur x_0_volatile_want x_0_volatile_sent x_0_volatile_rest x_0_volatile_skip x_0_volatile_healed x_0_volatile_est x_0_volatile_asked x_0_volatile_out x_0_volatile_events (ba.pk d_1) r54 (ba.Up d_1)).bind fun(q55,q56,s57,q58,q59,q60,q61,q62,q63,q64,q65,q66,q67,q68,s69,s70)=>
 some (.inl (q55,q56,q58,q59,q60,q61,q63,q64,q65,q66,q67,q68,s53,s57,q62,s69,s70)))else
 (some (.inl (x_0_c,x_0_routes,x_0_at,x_0_volatile_phase,x_0_volatile_plan,x_0_volatile_cur,x_0_volatile_sent,x_0_volatile_rest,x_0_volatile_skip,x_0_volatile_healed,x_0_volatile_est,x_0_volatile_asked,s53,x_0_l,x_0_volatile_want,x_0_volatile_out,x_0_volatile_events))))else
 (bif((ba.cN d_1)==5)then((qQ x_0_c x_0_routes x_0_l x_0_at x_0_volatile_phase x_0_volatile_plan x_0_volatile_cur x_0_volatile_want x_0_volatile_sent x_0_volatile_rest x_0_volatile_skip x_0_volatile_healed x_0_volatile_est x_0_volatile_asked x_0_volatile_out x_0_volatile_events).bind fun(q71,q72,s73,q74,q75,q76,q77,q78,q79,q80,q81,q82,q83,q84,s85,s86)=>
 some (.inl (q71,q72,q74,q75,q76,q77,q79,q80,q81,q82,q83,q84,sent_2,s73,q78,s85,s86)))else
 (bif((ba.cN d_1)==6)then((qP x_0_c x_0_routes x_0_l x_0_at x_0_volatile_phase x_0_volatile_plan x_0_volatile_cur x_0_volatile_want x_0_volatile_sent x_0_volatile_rest x_0_volatile_skip x_0_volatile_healed x_0_volatile_est x_0_volatile_asked x_0_volatile_out x_0_volatile_events (ba.pk d_1) (ba.Up d_1)).bind fun(q87,q88,s89,q90,q91,q92,q93,q94,q95,q96,q97,q98,q99,q100,s101,s102)=>
 some (.inl (q87,q88,q90,q91,q92,q93,q95,q96,q97,q98,q99,q100,sent_2,s89,q94,s101,s102)))else
 (some (.inl (x_0_c,x_0_routes,x_0_at,x_0_volatile_phase,x_0_volatile_plan,x_0_volatile_cur,x_0_volatile_sent,x_0_volatile_rest,x_0_volatile_skip,x_0_volatile_healed,x_0_volatile_est,x_0_volatile_asked,sent_2,x_0_l,x_0_volatile_want,x_0_volatile_out,x_0_volatile_events)))))))):Option ((ai×Sl (Sl (Sl Int))×af×Int×am×Int×Int×Int×Int×Int×Arr 8 ak×Arr 8 Int×Sl aa×Sl aj×Mp Int aa×Sl aa×Sl ax)⊕(Int×ai×Sl (Sl (Sl Int))×af×Int×am×Int×Int×Int×Int×Int×Arr 8 ak×Arr 8 Int×Sl aj×Mp Int aa×Sl aa×Sl ax))).bind fun
 |.inl (x103,s104,x105,i106,x107,i108,i109,i110,i111,i112,v113,v114,s115,s116,m117,s118,s119)=>(some (0,x103,s104,s116,x105,i106,x107,i108,m117,i109,i110,i111,i112,v113,v114,s118,s119,s115))
 |.inr (i120,x121,s122,x123,i124,x125,i126,i127,i128,i129,i130,v131,v132,s133,m134,s135,s136)=>(some (i120,x121,s122,s133,x123,i124,x125,i126,m134,i127,i128,i129,i130,v131,v132,s135,s136,sent_2))
def Yq:dC:=⟨[(true,h0),(false,.x y16),(true,.os i_)],[([.x (.i .i64)],[h0,.os i_])],false,[true,false,true],fun p=>match p with|(x_0_c,x_0_routes,x_0_l,x_0_at,x_0_volatile_phase,x_0_volatile_plan,x_0_volatile_cur,x_0_volatile_want,x_0_volatile_sent,x_0_volatile_rest,x_0_volatile_skip,x_0_volatile_healed,x_0_volatile_est,x_0_volatile_asked,x_0_volatile_out,x_0_volatile_events,d_1,sent_2)=>vK x_0_c x_0_routes x_0_l x_0_at x_0_volatile_phase x_0_volatile_plan x_0_volatile_cur x_0_volatile_want x_0_volatile_sent x_0_volatile_rest x_0_volatile_skip x_0_volatile_healed x_0_volatile_est x_0_volatile_asked x_0_volatile_out x_0_volatile_events d_1 sent_2⟩
theorem aaa:aN prog 10 Yq:=aH mixed (lp:=eg) (aR:=aR) (np:=3) (an:=[(2,{e:=[(.normal,{gs:=(.co (.op 0 mw []) (.co (.so 1) .ni)),os:=[.bx mw (.rc (.co (.x y4) (.co (.x (.sl (.sl (.sl (.i .i64))))) (.co (.so 2) (.co (.x tm) (.co (.rc (.co (.x (.i .i64)) (.co (.x y7) (.co (.x (.i .i64)) (.co (.om 3) (.co (.x (.i .i64)) (.co (.x (.i .i64)) (.co (.x (.i .i64)) (.co (.x (.i .i64)) (.co (.x (.ar 8 y5)) (.co (.x (.ar 8 (.i .i64))) (.co (.so 4) (.co (.so 5) .ni))))))))))))) .ni)))))),.ar i_,.ar y8,.mp (.i .i64) i_,.ar i_,.ar y2],kl:=[0,13,31,76,77,78]}),(.ret,{vs:=[(6,.x (.i .i64))],gs:=(.co (.op 0 mw []) (.co (.sm) .ni)),os:=[.bx mw (.rc (.co (.x y4) (.co (.x (.sl (.sl (.sl (.i .i64))))) (.co (.so 1) (.co (.x tm) (.co (.rc (.co (.x (.i .i64)) (.co (.x y7) (.co (.x (.i .i64)) (.co (.om 2) (.co (.x (.i .i64)) (.co (.x (.i .i64)) (.co (.x (.i .i64)) (.co (.x (.i .i64)) (.co (.x (.ar 8 y5)) (.co (.x (.ar 8 (.i .i64))) (.co (.so 3) (.co (.so 4) .ni))))))))))))) .ni)))))),.ar y8,.mp (.i .i64) i_,.ar i_,.ar y2],kl:=[0,13,31,76,77]})]}),(9,{e:=[(.normal,{vs:=[(21,.x .b)]})]})]) (.cons Vw (.cons VF (.cons VC (.cons aae (.cons aad (.cons aac (.cons aab .nil))))))) (by kernel_rfl) (by kernel_rfl)
def uA(x_0_c:ai)(x_0_routes:Sl (Sl (Sl Int)))(x_0_l:Sl aj)(x_0_at:af)(x_0_volatile_phase:Int)(x_0_volatile_plan:am)(x_0_volatile_cur:Int)(x_0_volatile_want:Mp Int aa)(x_0_volatile_sent:Int)(x_0_volatile_rest:Int)(x_0_volatile_skip:Int)(x_0_volatile_healed:Int)(x_0_volatile_est:Arr 8 ak)(x_0_volatile_asked:Arr 8 Int)(x_0_volatile_out:Sl aa)(x_0_volatile_events:Sl ax):Option (af×ai×Sl (Sl (Sl Int))×Sl aj×af×Int×am×Int×Mp Int aa×Int×Int×Int×Int×Arr 8 ak×Arr 8 Int×Sl aa×Sl ax):=some (x_0_at,x_0_c,x_0_routes,x_0_l,x_0_at,x_0_volatile_phase,x_0_volatile_plan,x_0_volatile_cur,x_0_volatile_want,x_0_volatile_sent,x_0_volatile_rest,x_0_volatile_skip,x_0_volatile_healed,x_0_volatile_est,x_0_volatile_asked,x_0_volatile_out,x_0_volatile_events)
def Yp:dC:=⟨[(true,h0)],[([.x tm],[h0])],false,[true],fun p=>match p with|(x_0_c,x_0_routes,x_0_l,x_0_at,x_0_volatile_phase,x_0_volatile_plan,x_0_volatile_cur,x_0_volatile_want,x_0_volatile_sent,x_0_volatile_rest,x_0_volatile_skip,x_0_volatile_healed,x_0_volatile_est,x_0_volatile_asked,x_0_volatile_out,x_0_volatile_events)=>uA x_0_c x_0_routes x_0_l x_0_at x_0_volatile_phase x_0_volatile_plan x_0_volatile_cur x_0_volatile_want x_0_volatile_sent x_0_volatile_rest x_0_volatile_skip x_0_volatile_healed x_0_volatile_est x_0_volatile_asked x_0_volatile_out x_0_volatile_events⟩
theorem Z_:aN prog 12 Yp:=aH mixed (lp:=eg) (aR:=aR) (np:=1) (an:=[]) .nil (by kernel_rfl) (by kernel_rfl)
def nc(r81:Sl aa)(i118:Int)(s119:Sl bR):Int->Option (Int⊕(Bool⊕Unit)):=fun i125=>
 bif decide (i125<(s119.l.length:Int))then(((cD i125 s119.l.length).bind fun n126=>
 (cD i118 r81.l.length).bind fun n127=>
 bif((bR.u (gt s119.l n126))==(aa.U (gt r81.l n127)))then((cD i125 s119.l.length).bind fun n128=>
 (cD i118 r81.l.length).bind fun n129=>
 bif((bR.rd (gt s119.l n128))==(aa.Rd (gt r81.l n129)))then((cD i125 s119.l.length).bind fun n130=>
 (cD i118 r81.l.length).bind fun n131=>
 bif((bR.sw (gt s119.l n130))==(aa.Sw (gt r81.l n131)))then((cD i125 s119.l.length).bind fun n132=>
 (cD i118 r81.l.length).bind fun n133=>
 some ((bR.cw (gt s119.l n132)) !=(aa.T2 (gt r81.l n133))))else
 (some false))else
 (some false))else
 (some false):Option Bool).bind fun b134=>
 bif b134 then(some (.inr (.inl false)))else
 (some (.inl (wr .i64 (i125+1)))))else
 (some (.inr (.inr ())))
def qy(r81:Sl aa)(r99:af):(Int×Sl bR)->Option ((Int×Sl bR)⊕(Bool⊕(Sl bR))):=fun(i118,s119)=>
 bif decide (i118<(r81.l.length:Int))then(((cD i118 r81.l.length).bind fun n120=>
 bif((aa.cN (gt r81.l n120)) !=4)then(some (.inl s119))else
 (((cD i118 r81.l.length).bind fun n121=>
 bif((((aa.U (gt r81.l n121)) !=(af.U r99))||(!(af.jg r99)))||(af.bH r99))then(some true)else
 ((cD i118 r81.l.length).bind fun n122=>
 some (decide ((aa.Rd (gt r81.l n122))>=(af.fC r99)))):Option Bool).bind fun b123=>
 bif b123 then(some (.inr false))else
 ((aU (nc r81 i118 s119) 0).bind fun
 |.inl b135=>(some (.inr b135))
 |.inr _=>((cD i118 r81.l.length).bind fun n136=>
 (cD i118 r81.l.length).bind fun n137=>
 (cD i118 r81.l.length).bind fun n138=>
 (cD i118 r81.l.length).bind fun n139=>
 (ic (s119.l++[(⟨aa.U (gt r81.l n136),aa.Rd (gt r81.l n137),aa.Sw (gt r81.l n138),aa.T2 (gt r81.l n139)⟩:bR)])).bind fun l140=>
 some (.inl (Sl.mk l140))))):Option ((Sl bR)⊕Bool)).bind fun
 |.inl s141=>(some (.inl (wr .i64 (i118+1),s141)))
 |.inr b142=>(some (.inr (.inl b142))))else
 (some (.inr (.inr s119)))
def qx(l_1:Sl ba):(Int×ai×Sl (Sl (Sl Int))×af×Int×am×Int×Int×Int×Int×Int×Arr 8 ak×Arr 8 Int×Sl bR×Sl aa×Sl aj×Mp Int aa×Sl aa×Sl ax)->Option ((Int×ai×Sl (Sl (Sl Int))×af×Int×am×Int×Int×Int×Int×Int×Arr 8 ak×Arr 8 Int×Sl bR×Sl aa×Sl aj×Mp Int aa×Sl aa×Sl ax)⊕(Bool⊕Unit)):=fun(i43,x44,s45,x46,i47,x48,i49,i50,i51,i52,i53,v54,v55,s56,s57,s58,m59,s60,s61)=>
 bif decide (i43<(l_1.l.length:Int))then((cD i43 l_1.l.length).bind fun n62=>
 (vK x44 s45 s58 x46 i47 x48 i49 m59 i50 i51 i52 i53 v54 v55 s60 s61 (gt l_1.l n62) s57).bind fun(_,q64,q65,s66,q67,q68,q69,q70,q71,q72,q73,q74,q75,q76,q77,s78,s79,s80)=>
 (my s80 s57).bind fun _=>
 (kh q64 q65 s66 q67 q68 q69 q70 q71 q72 q73 q74 q75 q76 q77 s78 s79).bind fun(r81,_,q83,q84,s85,q86,q87,q88,q89,q90,q91,q92,q93,q94,q95,q96,s97,s98)=>
 (uA q83 q84 s85 q86 q87 q88 q89 q90 q91 q92 q93 q94 q95 q96 s97 s98).bind fun(r99,q100,q101,s102,q103,q104,q105,q106,q107,q108,q109,q110,q111,q112,q113,s114,s115)=>
 (aU (qy r81 r99) (0,s56)).bind fun
 |.inl b143=>(some (.inr (.inl b143)))
 |.inr s144=>((ic (s80.l++r81.l)).bind fun l145=>
 some (.inl (wr .i64 (i43+1),q100,q101,q103,q104,q105,q106,q108,q109,q110,q111,q112,q113,s144,(Bi s80 r81.l l145),s102,q107,s114,s115))))else
 (some (.inr (.inr ())))
def qL(c_0:ai)(l_1:Sl ba):Option Bool:=
 (rX c_0).bind fun
 |.inl r1=>((qZ c_0 l_1).bind fun r2=>
 bif((!r2)||(r1 !=0))then((jL).bind fun r3=>
 some r3)else
 (none))
 |.inr (r4,r5,s6,r7,r8,r9,r10,r11,r12,r13,r14,r15,r16,r17,s18,s19,r20)=>((qZ c_0 l_1).bind fun r21=>
 bif((!r21)||(r20 !=0))then((jL).bind fun r22=>
 some r22)else
 ((aU (qx l_1) (0,r4,r5,r7,r8,r9,r10,r12,r13,r14,r15,r16,r17,Sl.nil,Sl.nil,s6,r11,s18,s19)).bind fun
 |.inl b146=>(some b146)
 |.inr _=>((jL).bind fun r147=>
 some r147)))
def Yo:dC:=⟨[(false,.x y4),(false,.x (.sl y16))],[([.x .b],[])],true,[],fun p=>match p with|(c_0,l_1)=>qL c_0 l_1⟩
theorem Z9:aN prog 3 Yo:=aH mixed (lp:=eg) (aR:=aR) (np:=2) (an:=[(16,{j:=some {vs:=[(5,.op 0 mw []),(7,.so 1),(8,.so 2),(9,.x (.i .i64))],os:=[.bx mw (.rc (.co (.x y4) (.co (.x (.sl (.sl (.sl (.i .i64))))) (.co (.so 3) (.co (.x tm) (.co (.rc (.co (.x (.i .i64)) (.co (.x y7) (.co (.x (.i .i64)) (.co (.om 4) (.co (.x (.i .i64)) (.co (.x (.i .i64)) (.co (.x (.i .i64)) (.co (.x (.i .i64)) (.co (.x (.ar 8 y5)) (.co (.x (.ar 8 (.i .i64))) (.co (.so 5) (.co (.so 6) .ni))))))))))))) .ni)))))),.ar y8,.ar i_,.ar y8,.mp (.i .i64) i_,.ar i_,.ar y2],kl:=[1,14,32,77,78]},e:=[(.ret,{vs:=[(4,.x .b)],kl:=[1,14,32,77,78]}),(.exit 0,{kl:=[1,14,32,77,78]})]}),(30,{j:=some {vs:=[(7,.so 0),(13,.x (.i .i64))],os:=[.ar y8],kl:=[82]},e:=[(.ret,{vs:=[(4,.x .b)],kl:=[82]}),(.exit 2,{vs:=[(7,.so 0)],os:=[.ar y8],kl:=[82]})]}),(34,{e:=[(.normal,{vs:=[(7,.so 0)],os:=[.ar y8],kl:=[332]}),(.ret,{vs:=[(4,.x .b)]})]}),(40,{j:=some {vs:=[(87,.x .b)]}}),(46,{j:=some {vs:=[(14,.x (.i .i64))]},e:=[(.ret,{vs:=[(4,.x .b)]}),(.exit 4,{})]}),(52,{j:=some {vs:=[(143,.x .b)]}})]) (.cons Z0 (.cons ad9 (.cons aaf (.cons aaa (.cons VB (.cons Z_ .nil)))))) (by kernel_rfl) (by kernel_rfl)
end Go.Proofs.YtoekkpmeeclpeaaGreat.S
