/- The law AgentBack: what it computes. Conditions: as stated. -/
import Derived.Test.YtjjajcecekocdaaGreatA
import Derived.KernelRfl
open Go.Ev Go
noncomputable section
namespace Go.Proofs.YtjjajcecekocdaaGreat.A
def fI(l_3:Sl aE):(Sl ae×Int×Int×Int×Int×Bool×Int×Int×Sl ae×Mp Int (Sl ai)×Mp Int Int×Sl aB×Mp Int Int×Sl Int)->Option ((Sl ae×Int×Int×Int×Int×Bool×Int×Int×Sl ae×Mp Int (Sl ai)×Mp Int Int×Sl aB×Mp Int Int×Sl Int)⊕(Sl ae×Int×Int×Int×Bool×Int×Int×Sl ae×Mp Int (Sl ai)×Mp Int Int×Sl aB×Mp Int Int×Sl Int)):=fun(s61,i62,i63,i64,i65,b66,i67,i68,s69,m70,m71,s72,m73,s74)=>
 bif((decide (i63<(l_3.l.length:Int)))&&(decide (i63<40)))then(((eX i63 l_3.l.length).bind fun n75=>
 (fg i64 i65 b66 i67 i68 s69 m70 m71 s74 s72 m73 (aE.Kc (gt l_3.l n75))).bind fun(s76,q77,q78,q79,q80,q81,q82,q83,q84,s85,s86,q87)=>
 (gf q77 q78 q79 q80 q81 q82 q83 q84 s85 s86 q87).bind fun(r88,q89,q90,q91,q92,q93,q94,q95,q96,s97,s98,q99)=>
 (eX i63 l_3.l.length).bind fun n100=>
 (sE q89 q90 q91 q92 q93 q94 q95 q96 s97 s98 q99 (gt l_3.l n100)).bind fun(r101,r102,r103,q104,q105,q106,q107,q108,q109,q110,q111,s112,s113,q114)=>
 (jZ q104 q105 q106 q107 q108 q109 q110 q111 s112 s113 q114).bind fun(r115,q116,q117,q118,q119,q120,q121,q122,q123,s124,s125,q126)=>
 bif(r115 !=i62)then((jZ q116 q117 q118 q119 q120 q121 q122 q123 s124 s125 q126).bind fun(r127,q128,q129,q130,q131,q132,q133,q134,q135,s136,s137,q138)=>
 some (r88,r127,q128,q129,q130,q131,q132,q133,q134,q135,s137,q138,s136))else
 (some (s61,i62,q116,q117,q118,q119,q120,q121,q122,q123,s125,q126,s124)):Option (Sl ae×Int×Int×Int×Bool×Int×Int×Sl ae×Mp Int (Sl ai)×Mp Int Int×Sl aB×Mp Int Int×Sl Int)).bind fun(s139,i140,i141,i142,b143,i144,i145,s146,m147,m148,s149,m150,s151)=>
 some (.inl (s139,i140,wr .i64 (i63+1),i141,i142,b143,i144,i145,s146,m147,m148,s149,m150,s151)))else
 (some (.inr (s61,i62,i64,i65,b66,i67,i68,s69,m70,m71,s72,m73,s74)))
def aay(sw_0:Int)(t_1:Sl ae)(room_2:Int)(l_3:Sl aE)(now_4:Int)(m_5:ad):Option Bool:=
 (rV sw_0 t_1 room_2).bind fun
 |.inl r1=>((oT t_1 l_3).bind fun r2=>
 bif(((!r2)||(r1 !=0))||(decide ((((ad.gi m_5).l).length:Int)>20)))then((qM).bind fun r3=>
 some r3)else
 ((og).bind fun r4=>
 (qU).bind fun r5=>
 none))
 |.inr (r6,r7,r8,r9,r10,r11,r12,r13,s14,s15,r16,r17)=>((oT t_1 l_3).bind fun r18=>
 bif(((!r18)||(r17 !=0))||(decide ((((ad.gi m_5).l).length:Int)>20)))then((qM).bind fun r19=>
 some r19)else
 ((gf r6 r7 r8 r9 r10 r11 r12 r13 s14 s15 r16).bind fun(r20,q21,q22,q23,q24,q25,q26,q27,q28,s29,s30,q31)=>
 (jZ q21 q22 q23 q24 q25 q26 q27 q28 s29 s30 q31).bind fun(r32,q33,q34,q35,q36,q37,q38,q39,q40,s41,s42,q43)=>
 (bw (fI l_3) (r20,r32,0,q33,q34,q35,q36,q37,q38,q39,q40,s42,q43,s41)).bind fun(s152,i153,i154,i155,b156,i157,i158,s159,m160,m161,s162,m163,s164)=>
 (fL i154 i155 b156 i157 i158 s159 m160 m161 s164 s162 m163).bind fun(r165,q166,q167,q168,q169,q170,q171,q172,q173,s174,s175,q176)=>
 bif((!r165)||(decide (i153<1)))then((qM).bind fun r177=>
 some r177)else
 ((me q166 q167 q168 q169 q170 q171 q172 q173 s174 s175 q176 now_4 (⟨5,sw_0,i153,(-1),0,0,0,0,0,Sl.nil⟩:ad)).bind fun(r178,r179,r180,q181,q182,q183,q184,q185,q186,q187,q188,s189,s190,q191)=>
 (bif((!r179)||((ad.bh r178) !=7))then(some (true,q181,q182,q183,q184,q185,q186,q187,q188,s190,q191,s189))else
 ((gf q181 q182 q183 q184 q185 q186 q187 q188 s189 s190 q191).bind fun(r192,q193,q194,q195,q196,q197,q198,q199,q200,s201,s202,q203)=>
 (qC r192 s152).bind fun r204=>
 bif(!r204)then(some (true,q193,q194,q195,q196,q197,q198,q199,q200,s202,q203,s201))else
 ((aaz q193 q194 q195 q196 q197 q198 q199 q200 s201 s202 q203).bind fun(r205,q206,q207,q208,q209,q210,q211,q212,q213,s214,s215,q216)=>
 (ZR q206 q207 q208 q209 q210 q211 q212 q213 s214 s215 q216).bind fun(r217,q218,q219,q220,q221,q222,q223,q224,q225,s226,s227,q228)=>
 (kD q218 q219 q220 q221 q222 q223 q224 q225 s226 s227 q228).bind fun(r229,q230,q231,q232,q233,q234,q235,q236,q237,s238,s239,q240)=>
 some (((wr .i64 ((wr .i64 ((r205.l.length:Int)+(r217.l.length:Int)))+(r229.l.length:Int))) !=0),q230,q231,q232,q233,q234,q235,q236,q237,s239,q240,s238))):Option (Bool×Int×Int×Bool×Int×Int×Sl ae×Mp Int (Sl ai)×Mp Int Int×Sl aB×Mp Int Int×Sl Int)).bind fun(b241,i242,i243,b244,i245,i246,s247,m248,m249,s250,m251,s252)=>
 bif b241 then(some false)else
 ((me i242 i243 b244 i245 i246 s247 m248 m249 s252 s250 m251 now_4 (⟨ad.bh m_5,sw_0,i153,ad.Rd m_5,ad.T1 m_5,ad.T2 m_5,ad.CV m_5,ad.Of m_5,ad.Code m_5,ad.gi m_5⟩:ad)).bind fun(r253,r254,r255,q256,q257,q258,q259,q260,q261,q262,q263,s264,s265,q266)=>
 (bif r254 then(bif(((ad.bh m_5)==3)||((ad.bh m_5)==4))then(some (((ad.bh r253) !=8)||((ad.Code r253) !=16)))else
 (some false))else
 (some false):Option Bool).bind fun b267=>
 bif b267 then(some false)else
 (((gf q256 q257 q258 q259 q260 q261 q262 q263 s264 s265 q266).bind fun(r268,q269,q270,q271,q272,q273,q274,q275,q276,s277,s278,q279)=>
 (qC r268 s152).bind fun r280=>
 bif r280 then((aaz q269 q270 q271 q272 q273 q274 q275 q276 s277 s278 q279).bind fun(r281,q282,q283,q284,q285,q286,q287,q288,q289,s290,s291,q292)=>
 (ZR q282 q283 q284 q285 q286 q287 q288 q289 s290 s291 q292).bind fun(r293,q294,q295,q296,q297,q298,q299,q300,q301,s302,s303,q304)=>
 bif((wr .i64 ((r281.l.length:Int)+(r293.l.length:Int)))==0)then((qM).bind fun r305=>
 some r305)else
 (some false))else
 (some false):Option Bool).bind fun b306=>
 some b306)))))
def aa1:fJ:=⟨[(false,.x (.i .i64)),(false,.x (.sl y0)),(false,.x (.i .i64)),(false,.x (.sl Tc)),(false,.x (.i .i64)),(false,.x y4)],[([.x .b],[])],true,[],fun p=>match p with|(sw_0,t_1,room_2,l_3,now_4,m_5)=>aay sw_0 t_1 room_2 l_3 now_4 m_5⟩
theorem aa2:bf prog 6 aa1:=aV mixed bn (bz:=bz) (np:=6) (an:=[(14,{j:=some {vs:=[(13,.op 0 y8 []),(15,.x (.sl y0)),(16,.x (.i .i64)),(17,.x (.i .i64))],os:=[.bx y8 (.rc (.co (.x (.i .i64)) (.co (.x (.i .i64)) (.co (.x .b) (.co (.x (.i .i64)) (.co (.x (.i .i64)) (.co (.x (.sl y0)) (.co (.om 1) (.co (.om 2) (.co (.op 3 y7 []) (.co (.so 4) (.co (.om 5) .ni)))))))))))),.mp (.i .i64) (.sl y3),.mp (.i .i64) (.i .i64),.bx y7 (.rc (.co (.so 6) .ni)),.ar y9,.mp (.i .i64) (.i .i64),.ar (.i .i64)],kl:=[1,35,36,37,38,39,40]},e:=[(.exit 0,{vs:=[(13,.op 0 y8 []),(15,.x (.sl y0)),(16,.x (.i .i64))],os:=[.bx y8 (.rc (.co (.x (.i .i64)) (.co (.x (.i .i64)) (.co (.x .b) (.co (.x (.i .i64)) (.co (.x (.i .i64)) (.co (.x (.sl y0)) (.co (.om 1) (.co (.om 2) (.co (.op 3 y7 []) (.co (.so 4) (.co (.om 5) .ni)))))))))))),.mp (.i .i64) (.sl y3),.mp (.i .i64) (.i .i64),.bx y7 (.rc (.co (.so 6) .ni)),.ar y9,.mp (.i .i64) (.i .i64),.ar (.i .i64)],kl:=[1,35,36,37,38,39,40]})]}),(18,{e:=[(.normal,{vs:=[(13,.op 0 y8 []),(15,.x (.sl y0)),(16,.x (.i .i64))],os:=[.bx y8 (.rc (.co (.x (.i .i64)) (.co (.x (.i .i64)) (.co (.x .b) (.co (.x (.i .i64)) (.co (.x (.i .i64)) (.co (.x (.sl y0)) (.co (.om 1) (.co (.om 2) (.co (.op 3 y7 []) (.co (.so 4) (.co (.om 5) .ni)))))))))))),.mp (.i .i64) (.sl y3),.mp (.i .i64) (.i .i64),.bx y7 (.rc (.co (.so 6) .ni)),.ar y9,.mp (.i .i64) (.i .i64),.ar (.i .i64)],kl:=[42,43,44,45,46,47,48]})]}),(38,{j:=some {vs:=[(13,.op 0 y8 []),(128,.x .b)],os:=[.bx y8 (.rc (.co (.x (.i .i64)) (.co (.x (.i .i64)) (.co (.x .b) (.co (.x (.i .i64)) (.co (.x (.i .i64)) (.co (.x (.sl y0)) (.co (.om 1) (.co (.om 2) (.co (.op 3 y7 []) (.co (.so 4) (.co (.om 5) .ni)))))))))))),.mp (.i .i64) (.sl y3),.mp (.i .i64) (.i .i64),.bx y7 (.rc (.co (.so 6) .ni)),.ar y9,.mp (.i .i64) (.i .i64),.ar (.i .i64)],kl:=[42,68,69,70,71,72,73]}}),(47,{j:=some {vs:=[(161,.x .b)]}}),(51,{j:=some {vs:=[(12,.x .b)],kl:=[87,100,101,102,103,104,105]}})]) (.cons Yd (.cons Yc (.cons Yh (.cons Yj (.cons Yi (.cons Yb (.cons Ya (.cons Oz (.cons UX (.cons OD (.cons U_ (.cons UG (.cons aa3 (.cons aar (.cons XH .nil))))))))))))))) (by kernel_rfl) (by kernel_rfl)
end Go.Proofs.YtjjajcecekocdaaGreat.A
