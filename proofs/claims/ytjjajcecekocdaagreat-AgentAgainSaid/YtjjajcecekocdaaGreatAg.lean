/- The law AgentAgain: what it computes. Conditions: as stated. -/
import Derived.Test.YtjjajcecekocdaaGreatA
import Derived.KernelRfl
open Go.Ev Go
noncomputable section
namespace Go.Proofs.YtjjajcecekocdaaGreat.A
def k7(l_3:Sl aE):(Int×Int×Int×Bool×Int×Int×Sl ae×Mp Int (Sl ai)×Mp Int Int×Sl aB×Mp Int Int×Sl Int)->Option ((Int×Int×Int×Bool×Int×Int×Sl ae×Mp Int (Sl ai)×Mp Int Int×Sl aB×Mp Int Int×Sl Int)⊕(Int×Int×Bool×Int×Int×Sl ae×Mp Int (Sl ai)×Mp Int Int×Sl aB×Mp Int Int×Sl Int)):=fun(i31,i32,i33,b34,i35,i36,s37,m38,m39,s40,m41,s42)=>
 bif((decide (i31<(l_3.l.length:Int)))&&(decide (i31<40)))then((eX i31 l_3.l.length).bind fun n43=>
 (sE i32 i33 b34 i35 i36 s37 m38 m39 s42 s40 m41 (gt l_3.l n43)).bind fun(r44,r45,r46,q47,q48,q49,q50,q51,q52,q53,q54,s55,s56,q57)=>
 some (.inl (wr .i64 (i31+1),q47,q48,q49,q50,q51,q52,q53,q54,s56,q57,s55)))else
 (some (.inr (i32,i33,b34,i35,i36,s37,m38,m39,s40,m41,s42)))
def k9(sw_0:Int)(t_1:Sl ae)(room_2:Int)(l_3:Sl aE)(now_4:Int)(m_5:ad):Option Bool:=
 (rV sw_0 t_1 room_2).bind fun
 |.inl r1=>((oT t_1 l_3).bind fun r2=>
 bif(((!r2)||(r1 !=0))||(decide ((((ad.gi m_5).l).length:Int)>20)))then((qM).bind fun r3=>
 some r3)else
 (none))
 |.inr (r4,r5,r6,r7,r8,r9,r10,r11,s12,s13,r14,r15)=>((oT t_1 l_3).bind fun r16=>
 bif(((!r16)||(r15 !=0))||(decide ((((ad.gi m_5).l).length:Int)>20)))then((qM).bind fun r17=>
 some r17)else
 ((bw (k7 l_3) (0,r4,r5,r6,r7,r8,r9,r10,r11,s13,r14,s12)).bind fun(i58,i59,b60,i61,i62,s63,m64,m65,s66,m67,s68)=>
 (me i58 i59 b60 i61 i62 s63 m64 m65 s68 s66 m67 now_4 m_5).bind fun(r69,r70,r71,q72,q73,q74,q75,q76,q77,q78,q79,s80,s81,q82)=>
 (gf q72 q73 q74 q75 q76 q77 q78 q79 s80 s81 q82).bind fun(r83,q84,q85,q86,q87,q88,q89,q90,q91,s92,s93,q94)=>
 (aaz q84 q85 q86 q87 q88 q89 q90 q91 s92 s93 q94).bind fun(r95,q96,q97,q98,q99,q100,q101,q102,q103,s104,s105,q106)=>
 (ZR q96 q97 q98 q99 q100 q101 q102 q103 s104 s105 q106).bind fun(r107,q108,q109,q110,q111,q112,q113,q114,q115,s116,s117,q118)=>
 (kD q108 q109 q110 q111 q112 q113 q114 q115 s116 s117 q118).bind fun(r119,q120,q121,q122,q123,q124,q125,q126,q127,s128,s129,q130)=>
 (me q120 q121 q122 q123 q124 q125 q126 q127 s128 s129 q130 now_4 m_5).bind fun(r131,r132,r133,q134,q135,q136,q137,q138,q139,q140,q141,s142,s143,q144)=>
 ((aa8 r69 r131).bind fun r145=>
 bif((r145&&(r70==r132))&&((r133.l.length:Int)==0))then((gf q134 q135 q136 q137 q138 q139 q140 q141 s142 s143 q144).bind fun(r146,q147,q148,q149,q150,q151,q152,q153,q154,s155,s156,q157)=>
 (qC r146 r83).bind fun r158=>
 bif r158 then((aaz q147 q148 q149 q150 q151 q152 q153 q154 s155 s156 q157).bind fun(r159,q160,q161,q162,q163,q164,q165,q166,q167,s168,s169,q170)=>
 (k8 r159 r95).bind fun r171=>
 bif r171 then((ZR q160 q161 q162 q163 q164 q165 q166 q167 s168 s169 q170).bind fun(r172,q173,q174,q175,q176,q177,q178,q179,q180,s181,s182,q183)=>
 (k8 r172 r107).bind fun r184=>
 bif r184 then((kD q173 q174 q175 q176 q177 q178 q179 q180 s181 s182 q183).bind fun(r185,q186,q187,q188,q189,q190,q191,q192,q193,s194,s195,q196)=>
 (k8 r185 r119).bind fun r197=>
 bif r197 then((qM).bind fun r198=>
 some r198)else
 (some false))else
 (some false))else
 (some false))else
 (some false))else
 (some false):Option Bool).bind fun b199=>
 some b199))
def abw:fJ:=⟨[(false,.x (.i .i64)),(false,.x (.sl y0)),(false,.x (.i .i64)),(false,.x (.sl Tc)),(false,.x (.i .i64)),(false,.x y4)],[([.x .b],[])],true,[],fun p=>match p with|(sw_0,t_1,room_2,l_3,now_4,m_5)=>k9 sw_0 t_1 room_2 l_3 now_4 m_5⟩
theorem abB:bf prog 5 abw:=aV mixed bn (bz:=bz) (np:=6) (an:=[(12,{j:=some {vs:=[(13,.op 0 y8 []),(15,.x (.i .i64))],os:=[.bx y8 (.rc (.co (.x (.i .i64)) (.co (.x (.i .i64)) (.co (.x .b) (.co (.x (.i .i64)) (.co (.x (.i .i64)) (.co (.x (.sl y0)) (.co (.om 1) (.co (.om 2) (.co (.op 3 y7 []) (.co (.so 4) (.co (.om 5) .ni)))))))))))),.mp (.i .i64) (.sl y3),.mp (.i .i64) (.i .i64),.bx y7 (.rc (.co (.so 6) .ni)),.ar y9,.mp (.i .i64) (.i .i64),.ar (.i .i64)],kl:=[1,8,9,10,11,12,13]},e:=[(.exit 0,{vs:=[(13,.op 0 y8 [])],os:=[.bx y8 (.rc (.co (.x (.i .i64)) (.co (.x (.i .i64)) (.co (.x .b) (.co (.x (.i .i64)) (.co (.x (.i .i64)) (.co (.x (.sl y0)) (.co (.om 1) (.co (.om 2) (.co (.op 3 y7 []) (.co (.so 4) (.co (.om 5) .ni)))))))))))),.mp (.i .i64) (.sl y3),.mp (.i .i64) (.i .i64),.bx y7 (.rc (.co (.so 6) .ni)),.ar y9,.mp (.i .i64) (.i .i64),.ar (.i .i64)],kl:=[1,8,9,10,11,12,13]})]}),(26,{j:=some {vs:=[(12,.x .b)],kl:=[16,106,107,108,109,110,111]}})]) (.cons Yd (.cons Yc (.cons Yh (.cons UX (.cons U_ (.cons Yb (.cons aa3 (.cons aar (.cons XH (.cons abD (.cons UG (.cons abC .nil)))))))))))) (by kernel_rfl) (by kernel_rfl)
end Go.Proofs.YtjjajcecekocdaaGreat.A
