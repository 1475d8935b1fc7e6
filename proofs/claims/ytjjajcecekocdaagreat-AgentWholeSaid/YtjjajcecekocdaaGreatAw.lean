/- The law AgentWhole: what it computes. Conditions: as stated. -/
import Derived.Test.YtjjajcecekocdaaGreatA
import Derived.KernelRfl
open Go.Ev Go
noncomputable section
namespace Go.Proofs.YtjjajcecekocdaaGreat.A
def iO(room_2:Int)(s182:Sl (Sl ai))(r183:Sl Int):(Sl ae×Int)->Option ((Sl ae×Int)⊕(Bool⊕(Sl ae))):=fun(s197,i198)=>
 bif decide (i198<(r183.l.length:Int))then(((eX i198 r183.l.length).bind fun n199=>
 bif decide ((gt r183.l n199)<0)then(some true)else
 ((eX i198 r183.l.length).bind fun n200=>
 some (decide ((gt r183.l n200)>7))):Option Bool).bind fun b201=>
 bif b201 then(some (.inr (.inl false)))else
 ((eX i198 r183.l.length).bind fun n202=>
 (eX (gt r183.l n202) s182.l.length).bind fun n203=>
 (vr s197 (gt s182.l n203) 8 room_2).bind fun(r204,r205,r206)=>
 bif(r206 !=0)then(some (.inr (.inl false)))else
 (some (.inl (r204,wr .i64 (i198+1))))))else
 (some (.inr (.inr s197)))
def gR(room_2:Int)(l_3:Sl aE):(Sl ae×Int×Int×Int×Int×Bool×Int×Int×Sl ae×Sl (Sl ai)×Mp Int (Sl ai)×Mp Int Int×Sl aB×Mp Int Int×Sl Int)->Option ((Sl ae×Int×Int×Int×Int×Bool×Int×Int×Sl ae×Sl (Sl ai)×Mp Int (Sl ai)×Mp Int Int×Sl aB×Mp Int Int×Sl Int)⊕(Bool⊕Unit)):=fun(s64,i65,i66,i67,i68,b69,i70,i71,s72,s73,m74,m75,s76,m77,s78)=>
 bif((decide (i66<(l_3.l.length:Int)))&&(decide (i66<60)))then((eX i66 l_3.l.length).bind fun n79=>
 (bif((decide ((aE.bh (gt l_3.l n79))>=0))&&(decide ((aE.bh (gt l_3.l n79))<=5)))then((fg i67 i68 b69 i70 i71 s72 m74 m75 s78 s76 m77 (aE.Kc (gt l_3.l n79))).bind fun(s80,q81,q82,q83,q84,q85,q86,q87,q88,s89,s90,q91)=>
 some (q81,q82,q83,q84,q85,q86,q87,q88,s90,q91,s89))else
 (some (i67,i68,b69,i70,i71,s72,m74,m75,s76,m77,s78)):Option (Int×Int×Bool×Int×Int×Sl ae×Mp Int (Sl ai)×Mp Int Int×Sl aB×Mp Int Int×Sl Int)).bind fun(i92,i93,b94,i95,i96,s97,m98,m99,s100,m101,s102)=>
 (gf i92 i93 b94 i95 i96 s97 m98 m99 s102 s100 m101).bind fun(r103,q104,q105,q106,q107,q108,q109,q110,q111,s112,s113,q114)=>
 (kD q104 q105 q106 q107 q108 q109 q110 q111 s112 s113 q114).bind fun(r115,q116,q117,q118,q119,q120,q121,q122,q123,s124,s125,q126)=>
 (sE q116 q117 q118 q119 q120 q121 q122 q123 s124 s125 q126 (gt l_3.l n79)).bind fun(r127,r128,r129,q130,q131,q132,q133,q134,q135,q136,q137,s138,s139,q140)=>
 ((jZ q130 q131 q132 q133 q134 q135 q136 q137 s138 s139 q140).bind fun(r141,q142,q143,q144,q145,q146,q147,q148,q149,s150,s151,q152)=>
 bif(r141 !=i65)then((jZ q142 q143 q144 q145 q146 q147 q148 q149 s150 s151 q152).bind fun(r153,q154,q155,q156,q157,q158,q159,q160,q161,s162,s163,q164)=>
 some (r103,r153,Sl.nil,q154,q155,q156,q157,q158,q159,q160,q161,s163,q164,s162))else
 (some (s64,i65,r115,q142,q143,q144,q145,q146,q147,q148,q149,s151,q152,s150)):Option (Sl ae×Int×Sl Int×Int×Int×Bool×Int×Int×Sl ae×Mp Int (Sl ai)×Mp Int Int×Sl aB×Mp Int Int×Sl Int)).bind fun(s165,i166,s167,i168,i169,b170,i171,i172,s173,m174,m175,s176,m177,s178)=>
 ((bif((r128&&((ad.bh r127)==7))&&((ad.Of r127)==3))then((rK s167 (ad.Rd r127)).bind fun r179=>
 some (((!r179)&&(decide ((ad.Rd r127)>=0)))&&(decide ((ad.Rd r127)<8))))else
 (some false):Option Bool).bind fun b180=>
 bif b180 then((eX (ad.Rd r127) s73.l.length).bind fun n181=>
 some (Sl.mk (s73.l.set n181 (ad.gi (aE.M (gt l_3.l n79))))))else
 (some s73):Option (Sl (Sl ai))).bind fun s182=>
 (kD i168 i169 b170 i171 i172 s173 m174 m175 s178 s176 m177).bind fun(r183,q184,q185,q186,q187,q188,q189,q190,q191,s192,s193,q194)=>
 (bw (iO room_2 s182 r183) (s165,0)).bind fun
 |.inl b207=>(some (.inr (.inl b207)))
 |.inr s208=>(((gf q184 q185 q186 q187 q188 q189 q190 q191 s192 s193 q194).bind fun(r209,q210,q211,q212,q213,q214,q215,q216,q217,s218,s219,q220)=>
 (qC r209 s208).bind fun r221=>
 bif(!r221)then(some (true,q210,q211,q212,q213,q214,q215,q216,q217,s219,q220,s218))else
 ((gf q210 q211 q212 q213 q214 q215 q216 q217 s218 s219 q220).bind fun(r222,q223,q224,q225,q226,q227,q228,q229,q230,s231,s232,q233)=>
 (oN r222 8 room_2).bind fun r234=>
 some ((!r234),q223,q224,q225,q226,q227,q228,q229,q230,s232,q233,s231)):Option (Bool×Int×Int×Bool×Int×Int×Sl ae×Mp Int (Sl ai)×Mp Int Int×Sl aB×Mp Int Int×Sl Int)).bind fun(b235,i236,i237,b238,i239,i240,s241,m242,m243,s244,m245,s246)=>
 bif b235 then(some (.inr (.inl false)))else
 (some (.inl (s165,i166,wr .i64 (i66+1),i236,i237,b238,i239,i240,s241,s182,m242,m243,s244,m245,s246)))))else
 (some (.inr (.inr ())))
def oE(sw_0:Int)(t_1:Sl ae)(room_2:Int)(l_3:Sl aE):Option Bool:=
 (rV sw_0 t_1 room_2).bind fun
 |.inl r1=>((oT t_1 l_3).bind fun r2=>
 bif((!r2)||(r1 !=0))then((qM).bind fun r3=>
 some r3)else
 ((og).bind fun r4=>
 (qU).bind fun r5=>
 (OL (Sl.nil:Sl ai) 8 8).bind fun l6=>
 none))
 |.inr (r7,r8,r9,r10,r11,r12,r13,r14,s15,s16,r17,r18)=>((oT t_1 l_3).bind fun r19=>
 bif((!r19)||(r18 !=0))then((qM).bind fun r20=>
 some r20)else
 ((gf r7 r8 r9 r10 r11 r12 r13 r14 s15 s16 r17).bind fun(r21,q22,q23,q24,q25,q26,q27,q28,q29,s30,s31,q32)=>
 (jZ q22 q23 q24 q25 q26 q27 q28 q29 s30 s31 q32).bind fun(r33,q34,q35,q36,q37,q38,q39,q40,q41,s42,s43,q44)=>
 (OL (Sl.nil:Sl ai) 8 8).bind fun l45=>
 (bw (gR room_2 l_3) (r21,r33,0,q34,q35,q36,q37,q38,q39,(Sl.mk l45),q40,q41,s43,q44,s42)).bind fun
 |.inl b247=>(some b247)
 |.inr _=>((qM).bind fun r248=>
 some r248)))
def Tq:fJ:=⟨[(false,.x (.i .i64)),(false,.x (.sl y0)),(false,.x (.i .i64)),(false,.x (.sl Tc))],[([.x .b],[])],true,[],fun p=>match p with|(sw_0,t_1,room_2,l_3)=>oE sw_0 t_1 room_2 l_3⟩
theorem UF:bf prog 3 Tq:=aV mixed bn (bz:=bz) (np:=4) (an:=[(16,{j:=some {vs:=[(9,.op 0 y8 []),(11,.x (.sl y0)),(12,.x (.i .i64)),(13,.so 1),(14,.x (.i .i64))],os:=[.bx y8 (.rc (.co (.x (.i .i64)) (.co (.x (.i .i64)) (.co (.x .b) (.co (.x (.i .i64)) (.co (.x (.i .i64)) (.co (.x (.sl y0)) (.co (.om 2) (.co (.om 3) (.co (.op 4 y7 []) (.co (.so 5) (.co (.om 6) .ni)))))))))))),.ar (.sl y3),.mp (.i .i64) (.sl y3),.mp (.i .i64) (.i .i64),.bx y7 (.rc (.co (.so 7) .ni)),.ar y9,.mp (.i .i64) (.i .i64),.ar (.i .i64)],kl:=[0,34,35,36,37,38,39,41]},e:=[(.ret,{vs:=[(8,.x .b)],kl:=[0,34,35,36,37,38,39,41]}),(.exit 0,{kl:=[0,34,35,36,37,38,39,41]})]}),(23,{e:=[(.normal,{vs:=[(9,.op 0 y8 [])],os:=[.bx y8 (.rc (.co (.x (.i .i64)) (.co (.x (.i .i64)) (.co (.x .b) (.co (.x (.i .i64)) (.co (.x (.i .i64)) (.co (.x (.sl y0)) (.co (.om 1) (.co (.om 2) (.co (.op 3 y7 []) (.co (.so 4) (.co (.om 5) .ni)))))))))))),.mp (.i .i64) (.sl y3),.mp (.i .i64) (.i .i64),.bx y7 (.rc (.co (.so 6) .ni)),.ar y9,.mp (.i .i64) (.i .i64),.ar (.i .i64)],kl:=[42,44,45,46,47,48,49]})]}),(31,{e:=[(.normal,{vs:=[(9,.op 0 y8 []),(11,.x (.sl y0)),(12,.x (.i .i64)),(17,.x (.sl (.i .i64)))],os:=[.bx y8 (.rc (.co (.x (.i .i64)) (.co (.x (.i .i64)) (.co (.x .b) (.co (.x (.i .i64)) (.co (.x (.i .i64)) (.co (.x (.sl y0)) (.co (.om 1) (.co (.om 2) (.co (.op 3 y7 []) (.co (.so 4) (.co (.om 5) .ni)))))))))))),.mp (.i .i64) (.sl y3),.mp (.i .i64) (.i .i64),.bx y7 (.rc (.co (.so 6) .ni)),.ar y9,.mp (.i .i64) (.i .i64),.ar (.i .i64)],kl:=[51,90,91,92,93,94,95]})]}),(37,{e:=[(.normal,{vs:=[(13,.so 0)],os:=[.ar (.sl y3)],kl:=[43]})]}),(39,{j:=some {vs:=[(119,.x .b)]}}),(48,{j:=some {vs:=[(21,.x (.sl y0)),(23,.x (.i .i64))]},e:=[(.ret,{vs:=[(8,.x .b)]}),(.exit 2,{vs:=[(21,.x (.sl y0))]})]}),(55,{j:=some {vs:=[(147,.x .b)]}}),(68,{j:=some {vs:=[(9,.op 0 y8 []),(176,.x .b)],os:=[.bx y8 (.rc (.co (.x (.i .i64)) (.co (.x (.i .i64)) (.co (.x .b) (.co (.x (.i .i64)) (.co (.x (.i .i64)) (.co (.x (.sl y0)) (.co (.om 1) (.co (.om 2) (.co (.op 3 y7 []) (.co (.so 4) (.co (.om 5) .ni)))))))))))),.mp (.i .i64) (.sl y3),.mp (.i .i64) (.i .i64),.bx y7 (.rc (.co (.so 6) .ni)),.ar y9,.mp (.i .i64) (.i .i64),.ar (.i .i64)],kl:=[109,123,124,125,126,127,128]}})]) (.cons Yd (.cons Yc (.cons Yh (.cons Yj (.cons Yi (.cons Yb (.cons Ya (.cons Oz (.cons XH (.cons UX (.cons UW (.cons UJ (.cons UG (.cons UD .nil)))))))))))))) (by kernel_rfl) (by kernel_rfl)
end Go.Proofs.YtjjajcecekocdaaGreat.A
