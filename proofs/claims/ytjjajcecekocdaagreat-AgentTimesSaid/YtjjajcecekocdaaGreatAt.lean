/- The law AgentTimes: what it computes. Conditions: as stated. -/
import Derived.Test.YtjjajcecekocdaaGreatA
import Derived.KernelRfl
open Go.Ev Go
noncomputable section
namespace Go.Proofs.YtjjajcecekocdaaGreat.A
def x8(r99:ad):(Int×Sl Bool)->Option ((Int×Sl Bool)⊕(Sl Bool)):=fun(i199,s200)=>
 bif(((ad.Of r99)==5)&&(decide (i199<8)))then((eX i199 s200.l.length).bind fun n201=>
 (eX i199 s200.l.length).bind fun n202=>
 some (.inl (wr .i64 (i199+1),(Sl.mk (s200.l.set n202 (((gt s200.l n201)||((ad.Rd r99)==(-1)))||((ad.Rd r99)==i199)))))))else
 (some (.inr s200))
def pd(l_3:Sl aE):(Int×Int×Int×Int×Bool×Int×Int×Sl ae×Sl Bool×Sl Int×Sl Bool×Mp Int (Sl ai)×Mp Int Int×Sl aB×Mp Int Int×Sl Int)->Option ((Int×Int×Int×Int×Bool×Int×Int×Sl ae×Sl Bool×Sl Int×Sl Bool×Mp Int (Sl ai)×Mp Int Int×Sl aB×Mp Int Int×Sl Int)⊕(Bool⊕Unit)):=fun(i45,i46,i47,i48,b49,i50,i51,s52,s53,s54,s55,m56,m57,s58,m59,s60)=>
 bif((decide (i46<(l_3.l.length:Int)))&&(decide (i46<60)))then(((eX i46 l_3.l.length).bind fun n61=>
 (bif((decide ((aE.bh (gt l_3.l n61))>=0))&&(decide ((aE.bh (gt l_3.l n61))<=5)))then((fL i47 i48 b49 i50 i51 s52 m56 m57 s60 s58 m59).bind fun(r62,q63,q64,q65,q66,q67,q68,q69,q70,s71,s72,q73)=>
 bif r62 then((fg q63 q64 q65 q66 q67 q68 q69 q70 s71 s72 q73 (aE.Kc (gt l_3.l n61))).bind fun(s74,q75,q76,q77,q78,q79,q80,q81,q82,s83,s84,q85)=>
 (ZK s74 s53 s54 s55 (aE.Kc (gt l_3.l n61))).bind fun r86=>
 some ((!r86),q75,q76,q77,q78,q79,q80,q81,q82,s84,q85,s83))else
 (some (false,q63,q64,q65,q66,q67,q68,q69,q70,s72,q73,s71)))else
 (some (false,i47,i48,b49,i50,i51,s52,m56,m57,s58,m59,s60)):Option (Bool×Int×Int×Bool×Int×Int×Sl ae×Mp Int (Sl ai)×Mp Int Int×Sl aB×Mp Int Int×Sl Int)).bind fun(b87,i88,i89,b90,i91,i92,s93,m94,m95,s96,m97,s98)=>
 bif b87 then(some (.inr false))else
 ((sE i88 i89 b90 i91 i92 s93 m94 m95 s98 s96 m97 (gt l_3.l n61)).bind fun(r99,r100,r101,q102,q103,q104,q105,q106,q107,q108,q109,s110,s111,q112)=>
 ((jZ q102 q103 q104 q105 q106 q107 q108 q109 s110 s111 q112).bind fun(r113,q114,q115,q116,q117,q118,q119,q120,q121,s122,s123,q124)=>
 bif(r113 !=i45)then((jZ q114 q115 q116 q117 q118 q119 q120 q121 s122 s123 q124).bind fun(r125,q126,q127,q128,q129,q130,q131,q132,q133,s134,s135,q136)=>
 (OL false 8 8).bind fun l137=>
 (OL 0 8 8).bind fun l138=>
 (OL false 8 8).bind fun l139=>
 some (r125,q126,q127,q128,q129,q130,q131,(Sl.mk l137),(Sl.mk l138),(Sl.mk l139),q132,q133,s135,q136,s134))else
 (some (i45,q114,q115,q116,q117,q118,q119,s53,s54,s55,q120,q121,s123,q124,s122)):Option (Int×Int×Int×Bool×Int×Int×Sl ae×Sl Bool×Sl Int×Sl Bool×Mp Int (Sl ai)×Mp Int Int×Sl aB×Mp Int Int×Sl Int)).bind fun(i140,i141,i142,b143,i144,i145,s146,s147,s148,s149,m150,m151,s152,m153,s154)=>
 (ZK r101 s147 s148 s149 (aE.Kc (gt l_3.l n61))).bind fun r155=>
 bif(!r155)then(some (.inr false))else
 (bif(((!r100)||((ad.bh r99) !=7))||(decide ((ad.Rd r99)>7)))then(some (.inl (i140,i141,i142,b143,i144,i145,s146,s147,s148,s149,m150,m151,s152,m153,s154)))else
 (((bif(((ad.Of r99)==4)&&(decide ((ad.Rd r99)>=0)))then((ZR i141 i142 b143 i144 i145 s146 m150 m151 s154 s152 m153).bind fun(r156,q157,q158,q159,q160,q161,q162,q163,q164,s165,s166,q167)=>
 (rK r156 (ad.Rd r99)).bind fun r168=>
 some (r168,q157,q158,q159,q160,q161,q162,q163,q164,s166,q167,s165))else
 (some (false,i141,i142,b143,i144,i145,s146,m150,m151,s152,m153,s154)):Option (Bool×Int×Int×Bool×Int×Int×Sl ae×Mp Int (Sl ai)×Mp Int Int×Sl aB×Mp Int Int×Sl Int)).bind fun(b169,i170,i171,b172,i173,i174,s175,m176,m177,s178,m179,s180)=>
 bif b169 then((eX (ad.Rd r99) s147.l.length).bind fun n181=>
 (eX (ad.Rd r99) s148.l.length).bind fun n182=>
 some (i170,i171,b172,i173,i174,s175,(Sl.mk (s147.l.set n181 true)),(Sl.mk (s148.l.set n182 (ad.T2 (aE.M (gt l_3.l n61))))),m176,m177,s178,m179,s180))else
 (some (i170,i171,b172,i173,i174,s175,s147,s148,m176,m177,s178,m179,s180)):Option (Int×Int×Bool×Int×Int×Sl ae×Sl Bool×Sl Int×Mp Int (Sl ai)×Mp Int Int×Sl aB×Mp Int Int×Sl Int)).bind fun(i183,i184,b185,i186,i187,s188,s189,s190,m191,m192,s193,m194,s195)=>
 (bw (x8 r99) (0,s149)).bind fun s203=>
 some (.inl (i140,i183,i184,b185,i186,i187,s188,s189,s190,s203,m191,m192,s193,m194,s195))))):Option ((Int×Int×Int×Bool×Int×Int×Sl ae×Sl Bool×Sl Int×Sl Bool×Mp Int (Sl ai)×Mp Int Int×Sl aB×Mp Int Int×Sl Int)⊕Bool)).bind fun
 |.inl (i204,i205,i206,b207,i208,i209,s210,s211,s212,s213,m214,m215,s216,m217,s218)=>(some (.inl (i204,wr .i64 (i46+1),i205,i206,b207,i208,i209,s210,s211,s212,s213,m214,m215,s216,m217,s218)))
 |.inr b219=>(some (.inr (.inl b219))))else
 (some (.inr (.inr ())))
def ZN(sw_0:Int)(t_1:Sl ae)(room_2:Int)(l_3:Sl aE):Option Bool:=
 (rV sw_0 t_1 room_2).bind fun
 |.inl r1=>((oT t_1 l_3).bind fun r2=>
 bif((!r2)||(r1 !=0))then((qM).bind fun r3=>
 some r3)else
 ((OL false 8 8).bind fun l4=>
 (OL 0 8 8).bind fun l5=>
 (OL false 8 8).bind fun l6=>
 none))
 |.inr (r7,r8,r9,r10,r11,r12,r13,r14,s15,s16,r17,r18)=>((oT t_1 l_3).bind fun r19=>
 bif((!r19)||(r18 !=0))then((qM).bind fun r20=>
 some r20)else
 ((OL false 8 8).bind fun l21=>
 (OL 0 8 8).bind fun l22=>
 (OL false 8 8).bind fun l23=>
 (bw (pd l_3) (0,0,r7,r8,r9,r10,r11,r12,(Sl.mk l21),(Sl.mk l22),(Sl.mk l23),r13,r14,s16,r17,s15)).bind fun
 |.inl b220=>(some b220)
 |.inr _=>((qM).bind fun r221=>
 some r221)))
def aao:fJ:=⟨[(false,.x (.i .i64)),(false,.x (.sl y0)),(false,.x (.i .i64)),(false,.x (.sl Tc))],[([.x .b],[])],true,[],fun p=>match p with|(sw_0,t_1,room_2,l_3)=>ZN sw_0 t_1 room_2 l_3⟩
theorem aaq:bf prog 4 aao:=aV mixed bn (bz:=bz) (np:=4) (an:=[(18,{j:=some {vs:=[(9,.op 0 y8 []),(11,.x (.i .i64)),(12,.so 1),(13,.so 2),(14,.so 3),(15,.x (.i .i64))],os:=[.bx y8 (.rc (.co (.x (.i .i64)) (.co (.x (.i .i64)) (.co (.x .b) (.co (.x (.i .i64)) (.co (.x (.i .i64)) (.co (.x (.sl y0)) (.co (.om 4) (.co (.om 5) (.co (.op 6 y7 []) (.co (.so 7) (.co (.om 8) .ni)))))))))))),.ar .b,.ar (.i .i64),.ar .b,.mp (.i .i64) (.sl y3),.mp (.i .i64) (.i .i64),.bx y7 (.rc (.co (.so 9) .ni)),.ar y9,.mp (.i .i64) (.i .i64),.ar (.i .i64)],kl:=[0,7,8,9,10,11,12,15,16,1000016]},e:=[(.ret,{vs:=[(8,.x .b)],kl:=[0,7,8,9,10,11,12,15,16,1000016]}),(.exit 0,{kl:=[0,7,8,9,10,11,12,15,16,1000016]})]}),(22,{e:=[(.normal,{vs:=[(9,.op 0 y8 []),(11,.x (.i .i64)),(12,.so 1),(13,.so 2),(14,.so 3)],os:=[.bx y8 (.rc (.co (.x (.i .i64)) (.co (.x (.i .i64)) (.co (.x .b) (.co (.x (.i .i64)) (.co (.x (.i .i64)) (.co (.x (.sl y0)) (.co (.om 4) (.co (.om 5) (.co (.op 6 y7 []) (.co (.so 7) (.co (.om 8) .ni)))))))))))),.ar .b,.ar (.i .i64),.ar .b,.mp (.i .i64) (.sl y3),.mp (.i .i64) (.i .i64),.bx y7 (.rc (.co (.so 9) .ni)),.ar y9,.mp (.i .i64) (.i .i64),.ar (.i .i64)],kl:=[4000016,4000017,4000018,4000019,4000020,4000021,4000022,4000023,4000024,4000025]}),(.ret,{vs:=[(8,.x .b)],kl:=[4000016,4000017,4000018,4000019,4000020,4000021,4000022,4000023,4000024,4000025]})]}),(27,{j:=some {vs:=[(9,.op 0 y8 []),(78,.x .b)],os:=[.bx y8 (.rc (.co (.x (.i .i64)) (.co (.x (.i .i64)) (.co (.x .b) (.co (.x (.i .i64)) (.co (.x (.i .i64)) (.co (.x (.sl y0)) (.co (.om 1) (.co (.om 2) (.co (.op 3 y7 []) (.co (.so 4) (.co (.om 5) .ni)))))))))))),.mp (.i .i64) (.sl y3),.mp (.i .i64) (.i .i64),.bx y7 (.rc (.co (.so 6) .ni)),.ar y9,.mp (.i .i64) (.i .i64),.ar (.i .i64)],kl:=[4000016,4000020,4000021,4000022,4000023,4000024,4000025]}}),(32,{e:=[(.normal,{vs:=[(9,.op 0 y8 []),(11,.x (.i .i64)),(12,.so 1),(13,.so 2),(14,.so 3)],os:=[.bx y8 (.rc (.co (.x (.i .i64)) (.co (.x (.i .i64)) (.co (.x .b) (.co (.x (.i .i64)) (.co (.x (.i .i64)) (.co (.x (.sl y0)) (.co (.om 4) (.co (.om 5) (.co (.op 6 y7 []) (.co (.so 7) (.co (.om 8) .ni)))))))))))),.ar .b,.ar (.i .i64),.ar .b,.mp (.i .i64) (.sl y3),.mp (.i .i64) (.i .i64),.bx y7 (.rc (.co (.so 9) .ni)),.ar y9,.mp (.i .i64) (.i .i64),.ar (.i .i64)],kl:=[4000017,4000018,4000019,4000027,4000040,4000041,4000042,4000043,4000044,4000045]})]}),(46,{e:=[(.normal,{vs:=[(9,.op 0 y8 []),(12,.so 1),(13,.so 2)],os:=[.bx y8 (.rc (.co (.x (.i .i64)) (.co (.x (.i .i64)) (.co (.x .b) (.co (.x (.i .i64)) (.co (.x (.i .i64)) (.co (.x (.sl y0)) (.co (.om 3) (.co (.om 4) (.co (.op 5 y7 []) (.co (.so 6) (.co (.om 7) .ni)))))))))))),.ar .b,.ar (.i .i64),.mp (.i .i64) (.sl y3),.mp (.i .i64) (.i .i64),.bx y7 (.rc (.co (.so 8) .ni)),.ar y9,.mp (.i .i64) (.i .i64),.ar (.i .i64)],kl:=[4000059,4000060,4000061,4000063,4000064,4000065,4000066,4000067,4000068]})]}),(48,{j:=some {vs:=[(9,.op 0 y8 []),(129,.x .b)],os:=[.bx y8 (.rc (.co (.x (.i .i64)) (.co (.x (.i .i64)) (.co (.x .b) (.co (.x (.i .i64)) (.co (.x (.i .i64)) (.co (.x (.sl y0)) (.co (.om 1) (.co (.om 2) (.co (.op 3 y7 []) (.co (.so 4) (.co (.om 5) .ni)))))))))))),.mp (.i .i64) (.sl y3),.mp (.i .i64) (.i .i64),.bx y7 (.rc (.co (.so 6) .ni)),.ar y9,.mp (.i .i64) (.i .i64),.ar (.i .i64)],kl:=[4000059,4000063,4000064,4000065,4000066,4000067,4000068]}}),(52,{j:=some {vs:=[(14,.so 0),(20,.x (.i .i64))],os:=[.ar .b],kl:=[4000062]},e:=[(.exit 2,{vs:=[(14,.so 0)],os:=[.ar .b],kl:=[4000062]})]})]) (.cons Yd (.cons Yc (.cons Yh (.cons OD (.cons Oz (.cons aas (.cons UX (.cons Ya (.cons aar (.cons UW .nil)))))))))) (by kernel_rfl) (by kernel_rfl)
end Go.Proofs.YtjjajcecekocdaaGreat.A
