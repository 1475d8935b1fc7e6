/- What functions of the program compute, and that the model's run computes it. Conditions: as stated. -/
import Derived.Test.YtoekkpmeeclpeaaGreatSa
open Go.Ev Go
noncomputable section
namespace Go.Proofs.YtoekkpmeeclpeaaGreat.S
def rN(x_0_c:aj)(x_0_routes:Sl (Sl (Sl Int)))(x_0_l:Sl ai)(x_0_at:ad)(x_0_volatile_phase:Int)(x_0_volatile_plan:am)(x_0_volatile_cur:Int)(x_0_volatile_want:Mp Int aa)(x_0_volatile_sent:Int)(x_0_volatile_rest:Int)(x_0_volatile_skip:Int)(x_0_volatile_healed:Int)(x_0_volatile_est:Arr 8 ak)(x_0_volatile_asked:Arr 8 Int)(x_0_volatile_out:Sl aa)(x_0_volatile_events:Sl aw)(now_1:Int)(up_2:Int):Option (aj×Sl (Sl (Sl Int))×Sl ai×ad×Int×am×Int×Mp Int aa×Int×Int×Int×Int×Arr 8 ak×Arr 8 Int×Sl aa×Sl aw):=
 bif(x_0_volatile_phase !=6)then(some (x_0_c,x_0_routes,x_0_l,x_0_at,x_0_volatile_phase,x_0_volatile_plan,x_0_volatile_cur,x_0_volatile_want,x_0_volatile_sent,x_0_volatile_rest,x_0_volatile_skip,x_0_volatile_healed,x_0_volatile_est,x_0_volatile_asked,x_0_volatile_out,x_0_volatile_events))else
 (bif(!(ad.jz x_0_at))then(some (x_0_c,x_0_routes,x_0_l,x_0_at,0,x_0_volatile_plan,x_0_volatile_cur,x_0_volatile_want,x_0_volatile_sent,x_0_volatile_rest,x_0_volatile_skip,x_0_volatile_healed,x_0_volatile_est,x_0_volatile_asked,x_0_volatile_out,x_0_volatile_events))else
 ((lM x_0_c x_0_routes x_0_l x_0_at 0 x_0_volatile_plan x_0_volatile_cur x_0_volatile_want x_0_volatile_sent x_0_volatile_rest x_0_volatile_skip x_0_volatile_healed x_0_volatile_est x_0_volatile_asked x_0_volatile_out x_0_volatile_events (ad.eQ x_0_at) (ad.At x_0_at)).bind fun(r1,_,q3,q4,s5,q6,q7,_,q9,q10,q11,q12,q13,q14,q15,q16,s17,s18)=>
 bif((ad.oU q6)&&(!(ad.bH q6)))then(some (q3,q4,s5,q6,3,r1,q9,q10,q11,q12,q13,q14,q15,q16,s17,s18))else
 ((ik q3 q4 s5 q6 q7 r1 q9 q10 q11 q12 q13 q14 q15 q16 s17 s18 now_1 up_2).bind fun(q19,q20,s21,q22,q23,q24,q25,q26,q27,q28,q29,q30,q31,q32,s33,s34)=>
 some (q19,q20,s21,q22,q23,q24,q25,q26,q27,q28,q29,q30,q31,q32,s33,s34))))
def YZ:dG:=⟨[(true,h0),(false,.x (.i .i64)),(false,.x (.i .i64))],[([],[h0])],false,[true,false,false],fun p=>match p with|(x_0_c,x_0_routes,x_0_l,x_0_at,x_0_volatile_phase,x_0_volatile_plan,x_0_volatile_cur,x_0_volatile_want,x_0_volatile_sent,x_0_volatile_rest,x_0_volatile_skip,x_0_volatile_healed,x_0_volatile_est,x_0_volatile_asked,x_0_volatile_out,x_0_volatile_events,now_1,up_2)=>rN x_0_c x_0_routes x_0_l x_0_at x_0_volatile_phase x_0_volatile_plan x_0_volatile_cur x_0_volatile_want x_0_volatile_sent x_0_volatile_rest x_0_volatile_skip x_0_volatile_healed x_0_volatile_est x_0_volatile_asked x_0_volatile_out x_0_volatile_events now_1 up_2⟩
theorem aaL:aL prog 26 YZ:=aH mixed (lp:=ek) (aS:=aS) (np:=3) (an:=[]) (.cons V8 (.cons Ua .nil)) (by kernel_rfl) (by kernel_rfl)
def wB(x_0_c:aj)(x_0_routes:Sl (Sl (Sl Int)))(x_0_l:Sl ai)(x_0_at:ad)(x_0_volatile_phase:Int)(x_0_volatile_plan:am)(x_0_volatile_cur:Int)(x_0_volatile_want:Mp Int aa)(x_0_volatile_sent:Int)(x_0_volatile_rest:Int)(x_0_volatile_skip:Int)(x_0_volatile_healed:Int)(x_0_volatile_est:Arr 8 ak)(x_0_volatile_asked:Arr 8 Int)(x_0_volatile_out:Sl aa)(x_0_volatile_events:Sl aw)(d_1:bg)(sent_2:Sl aa):Option (Int×aj×Sl (Sl (Sl Int))×Sl ai×ad×Int×am×Int×Mp Int aa×Int×Int×Int×Int×Arr 8 ak×Arr 8 Int×Sl aa×Sl aw×Sl aa):=
 (bif((bg.cY d_1)==0)then((iv x_0_c x_0_routes x_0_l x_0_at x_0_volatile_phase x_0_volatile_plan x_0_volatile_cur x_0_volatile_want x_0_volatile_sent x_0_volatile_rest x_0_volatile_skip x_0_volatile_healed x_0_volatile_est x_0_volatile_asked x_0_volatile_out x_0_volatile_events (bg.pU d_1) (bg.N d_1) (bg.Up d_1)).bind fun(r1,q2,q3,s4,q5,q6,q7,q8,q9,q10,q11,q12,q13,q14,q15,s16,s17)=>
 some (.inr (r1,q2,q3,q5,q6,q7,q8,q10,q11,q12,q13,q14,q15,s4,q9,s16,s17)))else
 ((bif((bg.cY d_1)==1)then(some ((bg.cY d_1)==1))else
 (some ((bg.cY d_1)==2)):Option Bool).bind fun b18=>
 bif b18 then((jc x_0_c x_0_routes x_0_l x_0_at x_0_volatile_phase x_0_volatile_plan x_0_volatile_cur x_0_volatile_want x_0_volatile_sent x_0_volatile_rest x_0_volatile_skip x_0_volatile_healed x_0_volatile_est x_0_volatile_asked x_0_volatile_out x_0_volatile_events (bg.pU d_1) (bg.Up d_1)).bind fun(q19,q20,s21,q22,q23,q24,q25,q26,q27,q28,q29,q30,q31,q32,s33,s34)=>
 some (.inl (q19,q20,q22,q23,q24,q25,q27,q28,q29,q30,q31,q32,sent_2,s21,q26,s33,s34)))else
 (bif((bg.cY d_1)==3)then((j5 x_0_c x_0_routes x_0_l x_0_at x_0_volatile_phase x_0_volatile_plan x_0_volatile_cur x_0_volatile_want x_0_volatile_sent x_0_volatile_rest x_0_volatile_skip x_0_volatile_healed x_0_volatile_est x_0_volatile_asked x_0_volatile_out x_0_volatile_events (bg.pU d_1) (bg.M d_1) (bg.Up d_1)).bind fun(q35,q36,s37,q38,q39,q40,q41,q42,q43,q44,q45,q46,q47,q48,s49,s50)=>
 some (.inl (q35,q36,q38,q39,q40,q41,q43,q44,q45,q46,q47,q48,sent_2,s37,q42,s49,s50)))else
 (bif((bg.cY d_1)==4)then((tS sent_2 (bg.N d_1)).bind fun(r51,r52,s53)=>
 (m8 s53 sent_2).bind fun _=>
 bif r52 then((sU r51).bind fun r54=>
 (j5 x_0_c x_0_routes x_0_l x_0_at x_0_volatile_phase x_0_volatile_plan x_0_volatile_cur x_0_volatile_want x_0_volatile_sent x_0_volatile_rest x_0_volatile_skip x_0_volatile_healed x_0_volatile_est x_0_volatile_asked x_0_volatile_out x_0_volatile_events (bg.pU d_1) r54 (bg.Up d_1)).bind fun(q55,q56,s57,q58,q59,q60,q61,q62,q63,q64,q65,q66,q67,q68,s69,s70)=>
 some (.inl (q55,q56,q58,q59,q60,q61,q63,q64,q65,q66,q67,q68,s53,s57,q62,s69,s70)))else
 (some (.inl (x_0_c,x_0_routes,x_0_at,x_0_volatile_phase,x_0_volatile_plan,x_0_volatile_cur,x_0_volatile_sent,x_0_volatile_rest,x_0_volatile_skip,x_0_volatile_healed,x_0_volatile_est,x_0_volatile_asked,s53,x_0_l,x_0_volatile_want,x_0_volatile_out,x_0_volatile_events))))else
 (bif((bg.cY d_1)==5)then((rO x_0_c x_0_routes x_0_l x_0_at x_0_volatile_phase x_0_volatile_plan x_0_volatile_cur x_0_volatile_want x_0_volatile_sent x_0_volatile_rest x_0_volatile_skip x_0_volatile_healed x_0_volatile_est x_0_volatile_asked x_0_volatile_out x_0_volatile_events).bind fun(q71,q72,s73,q74,q75,q76,q77,q78,q79,q80,q81,q82,q83,q84,s85,s86)=>
 some (.inl (q71,q72,q74,q75,q76,q77,q79,q80,q81,q82,q83,q84,sent_2,s73,q78,s85,s86)))else
 (bif((bg.cY d_1)==6)then((rN x_0_c x_0_routes x_0_l x_0_at x_0_volatile_phase x_0_volatile_plan x_0_volatile_cur x_0_volatile_want x_0_volatile_sent x_0_volatile_rest x_0_volatile_skip x_0_volatile_healed x_0_volatile_est x_0_volatile_asked x_0_volatile_out x_0_volatile_events (bg.pU d_1) (bg.Up d_1)).bind fun(q87,q88,s89,q90,q91,q92,q93,q94,q95,q96,q97,q98,q99,q100,s101,s102)=>
 some (.inl (q87,q88,q90,q91,q92,q93,q95,q96,q97,q98,q99,q100,sent_2,s89,q94,s101,s102)))else
 (some (.inl (x_0_c,x_0_routes,x_0_at,x_0_volatile_phase,x_0_volatile_plan,x_0_volatile_cur,x_0_volatile_sent,x_0_volatile_rest,x_0_volatile_skip,x_0_volatile_healed,x_0_volatile_est,x_0_volatile_asked,sent_2,x_0_l,x_0_volatile_want,x_0_volatile_out,x_0_volatile_events)))))))):Option ((aj×Sl (Sl (Sl Int))×ad×Int×am×Int×Int×Int×Int×Int×Arr 8 ak×Arr 8 Int×Sl aa×Sl ai×Mp Int aa×Sl aa×Sl aw)⊕(Int×aj×Sl (Sl (Sl Int))×ad×Int×am×Int×Int×Int×Int×Int×Arr 8 ak×Arr 8 Int×Sl ai×Mp Int aa×Sl aa×Sl aw))).bind fun
 |.inl (x103,s104,x105,i106,x107,i108,i109,i110,i111,i112,v113,v114,s115,s116,m117,s118,s119)=>(some (0,x103,s104,s116,x105,i106,x107,i108,m117,i109,i110,i111,i112,v113,v114,s118,s119,s115))
 |.inr (i120,x121,s122,x123,i124,x125,i126,i127,i128,i129,i130,v131,v132,s133,m134,s135,s136)=>(some (i120,x121,s122,s133,x123,i124,x125,i126,m134,i127,i128,i129,i130,v131,v132,s135,s136,sent_2))
def YY:dG:=⟨[(true,h0),(false,.x y16),(true,.os iX)],[([.x (.i .i64)],[h0,.os iX])],false,[true,false,true],fun p=>match p with|(x_0_c,x_0_routes,x_0_l,x_0_at,x_0_volatile_phase,x_0_volatile_plan,x_0_volatile_cur,x_0_volatile_want,x_0_volatile_sent,x_0_volatile_rest,x_0_volatile_skip,x_0_volatile_healed,x_0_volatile_est,x_0_volatile_asked,x_0_volatile_out,x_0_volatile_events,d_1,sent_2)=>wB x_0_c x_0_routes x_0_l x_0_at x_0_volatile_phase x_0_volatile_plan x_0_volatile_cur x_0_volatile_want x_0_volatile_sent x_0_volatile_rest x_0_volatile_skip x_0_volatile_healed x_0_volatile_est x_0_volatile_asked x_0_volatile_out x_0_volatile_events d_1 sent_2⟩
theorem aaK:aL prog 10 YY:=aH mixed (lp:=ek) (aS:=aS) (np:=3) (an:=[(2,{e:=[(.normal,{gs:=(.co (.op 0 mH []) (.co (.so 1) .ni)),os:=[.bx mH (.rc (.co (.x y4) (.co (.x (.sl (.sl (.sl (.i .i64))))) (.co (.so 2) (.co (.x pg) (.co (.rc (.co (.x (.i .i64)) (.co (.x y7) (.co (.x (.i .i64)) (.co (.om 3) (.co (.x (.i .i64)) (.co (.x (.i .i64)) (.co (.x (.i .i64)) (.co (.x (.i .i64)) (.co (.x (.ar 8 y5)) (.co (.x (.ar 8 (.i .i64))) (.co (.so 4) (.co (.so 5) .ni))))))))))))) .ni)))))),.ar iX,.ar y8,.mp (.i .i64) iX,.ar iX,.ar y2],kl:=[0,13,31,76,77,78]}),(.ret,{vs:=[(6,.x (.i .i64))],gs:=(.co (.op 0 mH []) (.co (.sm) .ni)),os:=[.bx mH (.rc (.co (.x y4) (.co (.x (.sl (.sl (.sl (.i .i64))))) (.co (.so 1) (.co (.x pg) (.co (.rc (.co (.x (.i .i64)) (.co (.x y7) (.co (.x (.i .i64)) (.co (.om 2) (.co (.x (.i .i64)) (.co (.x (.i .i64)) (.co (.x (.i .i64)) (.co (.x (.i .i64)) (.co (.x (.ar 8 y5)) (.co (.x (.ar 8 (.i .i64))) (.co (.so 3) (.co (.so 4) .ni))))))))))))) .ni)))))),.ar y8,.mp (.i .i64) iX,.ar iX,.ar y2],kl:=[0,13,31,76,77]})]}),(9,{e:=[(.normal,{vs:=[(21,.x .b)]})]})]) (.cons V7 (.cons Wg (.cons Wd (.cons aaO (.cons aaN (.cons aaM (.cons aaL .nil))))))) (by kernel_rfl) (by kernel_rfl)
def qp(l_0:Sl ai):(Int×ad×ad)->Option ((Int×ad×ad)⊕((Int×Int×ad)⊕(ad×ad))):=fun(i5,x6,x7)=>
 bif decide (i5<(l_0.l.length:Int))then((cH i5 l_0.l.length).bind fun n8=>
 (fP x7 (gt l_0.l n8)).bind fun(r9,r10)=>
 bif(r10 !=0)then(some (.inr (.inl (i5,r10,x7))))else
 (some (.inl (wr .i64 (i5+1),x6,r9))))else
 (some (.inr (.inr (x6,x7))))
def qr(l_0:Sl ai):Option (ad×Int×Int):=
 (aU (qp l_0) (0,(⟨0,0,false,0,0,0,false,false,0⟩:ad),(⟨0,0,false,0,0,0,false,false,0⟩:ad))).bind fun
 |.inl (i11,i12,x13)=>(some (x13,i11,i12))
 |.inr (_,x15)=>(some (x15,(l_0.l.length:Int),0))
def YX:dG:=⟨[(false,.x (.sl y8))],[([.x pg,.x (.i .i64),.x (.i .i64)],[])],true,[],fun p=>match p with|l_0=>qr l_0⟩
theorem aaJ:aL prog 14 YX:=aH mixed (lp:=ek) (aS:=aS) (np:=1) (an:=[(7,{j:=some {vs:=[(2,.op 0 pg []),(5,.op 1 pg []),(12,.x (.i .i64))],os:=[.bx pg (.x pg),.bx pg (.x pg)],kl:=[0,1]},e:=[(.ret,{vs:=[(2,.op 0 pg []),(3,.x (.i .i64)),(4,.x (.i .i64))],os:=[.bx pg (.x pg)],kl:=[0,1]}),(.exit 0,{vs:=[(2,.op 0 pg []),(5,.op 1 pg [])],os:=[.bx pg (.x pg),.bx pg (.x pg)],kl:=[0,1]})]})]) (.cons aar .nil) (by kernel_rfl) (by kernel_rfl)
def vf(x_0_c:aj)(x_0_routes:Sl (Sl (Sl Int)))(x_0_l:Sl ai)(x_0_at:ad)(x_0_volatile_phase:Int)(x_0_volatile_plan:am)(x_0_volatile_cur:Int)(x_0_volatile_want:Mp Int aa)(x_0_volatile_sent:Int)(x_0_volatile_rest:Int)(x_0_volatile_skip:Int)(x_0_volatile_healed:Int)(x_0_volatile_est:Arr 8 ak)(x_0_volatile_asked:Arr 8 Int)(x_0_volatile_out:Sl aa)(x_0_volatile_events:Sl aw):Option (ad×aj×Sl (Sl (Sl Int))×Sl ai×ad×Int×am×Int×Mp Int aa×Int×Int×Int×Int×Arr 8 ak×Arr 8 Int×Sl aa×Sl aw):=some (x_0_at,x_0_c,x_0_routes,x_0_l,x_0_at,x_0_volatile_phase,x_0_volatile_plan,x_0_volatile_cur,x_0_volatile_want,x_0_volatile_sent,x_0_volatile_rest,x_0_volatile_skip,x_0_volatile_healed,x_0_volatile_est,x_0_volatile_asked,x_0_volatile_out,x_0_volatile_events)
def YW:dG:=⟨[(true,h0)],[([.x pg],[h0])],false,[true],fun p=>match p with|(x_0_c,x_0_routes,x_0_l,x_0_at,x_0_volatile_phase,x_0_volatile_plan,x_0_volatile_cur,x_0_volatile_want,x_0_volatile_sent,x_0_volatile_rest,x_0_volatile_skip,x_0_volatile_healed,x_0_volatile_est,x_0_volatile_asked,x_0_volatile_out,x_0_volatile_events)=>vf x_0_c x_0_routes x_0_l x_0_at x_0_volatile_phase x_0_volatile_plan x_0_volatile_cur x_0_volatile_want x_0_volatile_sent x_0_volatile_rest x_0_volatile_skip x_0_volatile_healed x_0_volatile_est x_0_volatile_asked x_0_volatile_out x_0_volatile_events⟩
theorem aaI:aL prog 12 YW:=aH mixed (lp:=ek) (aS:=aS) (np:=1) (an:=[]) .nil (by kernel_rfl) (by kernel_rfl)
def kK(s56:Sl ai)(s100:Sl ai):Int->Option (Int⊕(Bool⊕Unit)):=fun i155=>
 bif decide (i155<(s56.l.length:Int))then((cH i155 s100.l.length).bind fun n156=>
 (cH i155 s56.l.length).bind fun n157=>
 bif(!(decide ((gt s100.l n156)=(gt s56.l n157))))then(some (.inr (.inl false)))else
 (some (.inl (wr .i64 (i155+1)))))else
 (some (.inr (.inr ())))
set_option synthInstance.maxSize 1000 in
def oq(l_1:Sl bg):(Int×aj×Sl (Sl (Sl Int))×ad×Int×am×Int×Int×Int×Int×Int×Arr 8 ak×Arr 8 Int×Sl ai×Sl aa×Sl ai×Mp Int aa×Sl aa×Sl aw)->Option ((Int×aj×Sl (Sl (Sl Int))×ad×Int×am×Int×Int×Int×Int×Int×Arr 8 ak×Arr 8 Int×Sl ai×Sl aa×Sl ai×Mp Int aa×Sl aa×Sl aw)⊕(Bool⊕Unit)):=fun(i43,x44,s45,x46,i47,x48,i49,i50,i51,i52,i53,v54,v55,s56,s57,s58,m59,s60,s61)=>
 bif decide (i43<(l_1.l.length:Int))then((cH i43 l_1.l.length).bind fun n62=>
 (wB x44 s45 s58 x46 i47 x48 i49 m59 i50 i51 i52 i53 v54 v55 s60 s61 (gt l_1.l n62) s57).bind fun(_,q64,q65,s66,q67,q68,q69,q70,q71,q72,q73,q74,q75,q76,q77,s78,s79,s80)=>
 (m8 s80 s57).bind fun _=>
 (kA q64 q65 s66 q67 q68 q69 q70 q71 q72 q73 q74 q75 q76 q77 s78 s79).bind fun(r81,_,q83,q84,s85,q86,q87,q88,q89,q90,q91,q92,q93,q94,q95,q96,s97,s98)=>
 (g_ (s80.l++r81.l)).bind fun l99=>
 (mj q83 q84 s85 q86 q87 q88 q89 q90 q91 q92 q93 q94 q95 q96 s97 s98).bind fun(s100,q101,q102,s103,q104,q105,q106,q107,q108,q109,q110,q111,q112,q113,q114,s115,s116)=>
 (qr s100).bind fun(r117,_,r119)=>
 (bif(r119 !=0)then(some (true,q101,q102,q104,q105,q106,q107,q109,q110,q111,q112,q113,q114,s103,q108,s115,s116))else
 ((vf q101 q102 s103 q104 q105 q106 q107 q108 q109 q110 q111 q112 q113 q114 s115 s116).bind fun(r120,q121,q122,s123,q124,q125,q126,q127,q128,q129,q130,q131,q132,q133,q134,s135,s136)=>
 some (((!(decide (r117=r120)))||(decide ((s100.l.length:Int)<(s56.l.length:Int)))),q121,q122,q124,q125,q126,q127,q129,q130,q131,q132,q133,q134,s123,q128,s135,s136)):Option (Bool×aj×Sl (Sl (Sl Int))×ad×Int×am×Int×Int×Int×Int×Int×Arr 8 ak×Arr 8 Int×Sl ai×Mp Int aa×Sl aa×Sl aw)).bind fun(b137,x138,s139,x140,i141,x142,i143,i144,i145,i146,i147,v148,v149,s150,m151,s152,s153)=>
 bif b137 then(some (.inr (.inl false)))else
 ((aU (kK s56 s100) 0).bind fun
 |.inl b158=>(some (.inr (.inl b158)))
 |.inr _=>((eJ x138 s139 s150 x140 i141 x142 i143 m151 i144 i145 i146 i147 v148 v149 s152 s153).bind fun(r159,q160,q161,s162,q163,q164,q165,q166,q167,q168,q169,q170,q171,q172,q173,s174,s175)=>
 bif((r159 !=6)&&((r159==0)==(ad.jz r117)))then(some (.inr (.inl false)))else
 (some (.inl (wr .i64 (i43+1),q160,q161,q163,q164,q165,q166,q168,q169,q170,q171,q172,q173,s100,(BT s80 r81.l l99),s162,q167,s174,s175))))))else
 (some (.inr (.inr ())))
def nO(c_0:aj)(l_1:Sl bg):Option Bool:=
 (sY c_0).bind fun
 |.inl r1=>((rX c_0 l_1).bind fun r2=>
 bif((!r2)||(r1 !=0))then((jV).bind fun r3=>
 some r3)else
 (none))
 |.inr (r4,r5,s6,r7,r8,r9,r10,r11,r12,r13,r14,r15,r16,r17,s18,s19,r20)=>((rX c_0 l_1).bind fun r21=>
 bif((!r21)||(r20 !=0))then((jV).bind fun r22=>
 some r22)else
 ((aU (oq l_1) (0,r4,r5,r7,r8,r9,r10,r12,r13,r14,r15,r16,r17,Sl.nil,Sl.nil,s6,r11,s18,s19)).bind fun
 |.inl b176=>(some b176)
 |.inr _=>((jV).bind fun r177=>
 some r177)))
def YV:dG:=⟨[(false,.x y4),(false,.x (.sl y16))],[([.x .b],[])],true,[],fun p=>match p with|(c_0,l_1)=>nO c_0 l_1⟩
theorem aaH:aL prog 4 YV:=aH mixed (lp:=ek) (aS:=aS) (np:=2) (an:=[(16,{j:=some {vs:=[(5,.op 0 mH []),(7,.so 1),(8,.so 2),(9,.x (.i .i64))],os:=[.bx mH (.rc (.co (.x y4) (.co (.x (.sl (.sl (.sl (.i .i64))))) (.co (.so 3) (.co (.x pg) (.co (.rc (.co (.x (.i .i64)) (.co (.x y7) (.co (.x (.i .i64)) (.co (.om 4) (.co (.x (.i .i64)) (.co (.x (.i .i64)) (.co (.x (.i .i64)) (.co (.x (.i .i64)) (.co (.x (.ar 8 y5)) (.co (.x (.ar 8 (.i .i64))) (.co (.so 5) (.co (.so 6) .ni))))))))))))) .ni)))))),.ar y8,.ar iX,.ar y8,.mp (.i .i64) iX,.ar iX,.ar y2],kl:=[1,14,32,77,78]},e:=[(.ret,{vs:=[(4,.x .b)],kl:=[1,14,32,77,78]}),(.exit 0,{kl:=[1,14,32,77,78]})]}),(33,{j:=some {vs:=[(5,.op 0 mH []),(75,.x .b)],os:=[.bx mH (.rc (.co (.x y4) (.co (.x (.sl (.sl (.sl (.i .i64))))) (.co (.so 1) (.co (.x pg) (.co (.rc (.co (.x (.i .i64)) (.co (.x y7) (.co (.x (.i .i64)) (.co (.om 2) (.co (.x (.i .i64)) (.co (.x (.i .i64)) (.co (.x (.i .i64)) (.co (.x (.i .i64)) (.co (.x (.ar 8 y5)) (.co (.x (.ar 8 (.i .i64))) (.co (.so 3) (.co (.so 4) .ni))))))))))))) .ni)))))),.ar y8,.mp (.i .i64) iX,.ar iX,.ar y2],kl:=[81,258,276,321,322]}}),(39,{j:=some {vs:=[(16,.x (.i .i64))]},e:=[(.ret,{vs:=[(4,.x .b)]}),(.exit 2,{})]})]) (.cons aay (.cons aeH (.cons aaP (.cons aaK (.cons Wb (.cons V6 (.cons aaJ (.cons aaI (.cons QU .nil))))))))) (by kernel_rfl) (by kernel_rfl)
end Go.Proofs.YtoekkpmeeclpeaaGreat.S
