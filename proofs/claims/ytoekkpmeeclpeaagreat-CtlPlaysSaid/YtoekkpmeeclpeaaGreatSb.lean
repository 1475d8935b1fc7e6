/- What functions of the program compute, and that the model's run computes it. Conditions: as stated. -/
import Derived.Test.YtoekkpmeeclpeaaGreatSba
open Go.Ev Go
noncomputable section
namespace Go.Proofs.YtoekkpmeeclpeaaGreat.S
variable[Bx]
def nD(a:aQ)(b:Int)(i:ah):LT (Int×Sl ac) (Sl ac):=fun(c,e)=>
 (bS b a.aF.l.length).bind fun h=>
 bif decide (c<((gt a.aF.l h).jm.l.length:Int))then(bS b a.aF.l.length).bind fun d=>
 (bS c (gt a.aF.l d).jm.l.length).bind fun f=>
 (EM a b (gt (gt a.aF.l d).jm.l f)).bind fun j=>
 (fA (e.l++[(⟨3,gt (gt a.aF.l d).jm.l f,wr .i64 (i.At.U+1),b,0,0,0,0,0,j⟩:ac)])).bind fun g=>
 some (.inl (wr .i64 (c+1),Sl.mk g))else
 some (.inr e)
def rB(b:aQ):LT (Int×Sl ac×ah) ((Int×ah)⊕(Sl ac×ah)):=fun(a,d,e)=>
 bif decide (a<(b.aF.l.length:Int))then(pn e b a).bind fun(f,c)=>
 bif(!f)then some (.inr (.inl (15,c)))else
 (aJ (nD b a c) (0,d)).bind fun g=>
 some (.inl (wr .i64 (a+1),g,c))else
 some (.inr (.inr (d,e)))
def qV(a:ah)(b:Int)(d:Int)(h:Int):Option (Int×ah):=
 bif a.gR !=0||a.At.ik !=0||decide (a.At.U>65534)then some (16,a)else
 (bif decide (d<0)||decide (d>=(a.lg.l.length:Int))||decide (b<0)||decide (b>1099511627776)then some (2,a)else
 (bS a.At.lh a.lg.l.length).bind fun p=>
 (bS d a.lg.l.length).bind fun i=>
 (yS a.C.qf).bind fun o=>
 (lO a.C.T (gt a.lg.l p) (gt a.lg.l i) b o a.C.zQ).bind fun(c,e)=>
 bif e !=0 then some (e,a)else
 (rV c h).bind fun j=>
 bif(!j)then some (16,a)else
 (aJ (rB c) (0,Sl.nil,a)).bind fun
 |.inl (q,g)=>some (q,g)
 |.inr (m,f)=>(eY f 1 (wr .i64 (f.At.U+1)) d b).bind fun k=>
 (lN (ah.KQ k c Sl.nil) b 8 0 c.QD c.To).bind fun n=>
 (nc (ah.Fh n 1) b m).bind fun l=>
 some (0,l))
theorem alw:de 38 (l6 ou h2 [I6,I6,I6] [I6] (u4 qV)):=b7 [(29,gV (jP [(11,.so 0),(12,xI)] [.ar y5] [0,13,31,35,38,39,40,41,42] [(0,ou,h2)]) [(.ret,jW [(8,xI)] [0,13,31,35,38,39,40,41,42] [(0,ou,h2)]),(.exit 0,jP [(11,.so 0)] [.ar y5] [0,13,31,35,38,39,40,41,42] [(0,ou,h2)])]),(41,gV (jO [(11,.so 0),(13,xI)] [.ar y5] [42000044]) [(.exit 2,jO [(11,.so 0)] [.ar y5] [42000044])])] (tC ad9 (tC ad6 (tC ad4 (tC adZ (tC alB (tC L4 (tC Ti (tC Th tN))))))))
def uA(c:Int):LT (Int×ah) ah:=fun(b,a)=>
 bif decide (b<a.C.T.ao)then(((pi a.At.ik b).bind fun d=>
 bif d then(pi c b).bind fun g=>
 some g else
 some false:Option Bool).bind fun e=>
 bif e then(fA (a.ik.l++[(⟨5,b,a.At.U,(-1),0,0,0,0,0,Sl.nil⟩:ac)])).bind fun h=>
 some (ah.anW a (Sl.mk h))else
 some a:Option ah).bind fun f=>
 some (.inl (wr .i64 (b+1),f))else
 some (.inr a)
def uB(a:ah)(b:Int)(c:Int):Option ah:=
 (bif a.At.ik==0 then some true else
 some (a.zD&&decide (wr .i64 (b-a.xL)<a.C.Aw)):Option Bool).bind fun d=>
 bif d then some a else
 ((aJ (uA c) (0,ah.Er a true b)).bind fun e=>
 some e)
theorem alu:de 86 (l6 ou h2 [I6,I6] [] (u3 uB)):=b7 [(2,mc (jV [(32,xB)])),(9,gV (jW [(6,xI)] [0,13,31,35,38,39,40,41,42] [(0,ou,h2)]) [(.exit 0,jK [0,13,31,35,38,39,40,41,42] [(0,ou,h2)])]),(13,ot [(.normal,jK [0,55,73,77,80,81,82,83,84] [(0,ou,h2)])]),(15,mc (jV [(61,xB)]))] (tC JR tN)
def nT(a:ah)(b:Int):Option ah:=some (ah.Ic a true (wr .i64 (wr .i64 (b+a.ja.jb)+1)))
theorem YN:de 143 (l6 ou h2 [I6] [] (u2 nT)):=b7 [] tN
def pm(a:ah)(b:Int):Option ah:=
 bif decide ((a.fN.l.length:Int)>0)&&decide (wr .i64 (b-a.Gz)>=a.C.Aw)then(fA (a.ik.l++a.fN.l)).bind fun c=>
 some (ah.Mt a b (AZ a.ik a.fN.l c))else
 some a
theorem adY:de 144 (l6 ou h2 [I6] [] (u2 pm)):=b7 [] tN
def xP(e:Int)(j:Int):LT (Int×Sl ac×ah) (Sl ac×ah):=fun(d,f,a)=>
 (bS e a.ja.aF.l.length).bind fun m=>
 bif decide (d<((gt a.ja.aF.l m).jm.l.length:Int))then((bS e a.ja.aF.l.length).bind fun b=>
 (bS d (gt a.ja.aF.l b).jm.l.length).bind fun c=>
 ((pi j (gt (gt a.ja.aF.l b).jm.l c)).bind fun n=>
 bif n then(vY a.jB (gt (gt a.ja.aF.l b).jm.l c)).bind fun o=>
 some (!o)else
 some false:Option Bool).bind fun k=>
 bif k then(fA (f.l++[(⟨5,gt (gt a.ja.aF.l b).jm.l c,a.At.U,e,0,0,0,0,0,Sl.nil⟩:ac)])).bind fun g=>
 some (Sl.mk g,a)else
 ((fA (a.jB.l++[gt (gt a.ja.aF.l b).jm.l c])).bind fun i=>
 some (f,ah.aaK a (Sl.mk i))):Option (Sl ac×ah)).bind fun(h,l)=>
 some (.inl (wr .i64 (d+1),h,l))else
 some (.inr (f,a))
def nR(h:ah)(b:Int)(a:Int)(e:Int):Option ah:=
 (aJ (xP a e) (0,Sl.nil,ah.KV h a false)).bind fun(c,g)=>
 (nc g b c).bind fun d=>
 bif(c.l.length:Int)==0 then(nT d b).bind fun f=>
 some f else
 some d
theorem adX:de 145 (l6 ou h2 [I6,I6,I6] [] (u4 nR)):=b7 [(9,gV (jP [(8,.so 0),(9,xI)] [.ar y5] [0,13,31,35,38,39,40,41,42] [(0,ou,h2)]) [(.exit 0,jP [(8,.so 0)] [.ar y5] [0,13,31,35,38,39,40,41,42] [(0,ou,h2)])]),(13,ot [(.normal,jP [(8,.so 0)] [.ar y5] [0,43,56,74,78,81,82,83,84,85] [(0,ou,h2)])]),(17,mc (jV [(55,xB)]))] (tC JR (tC Tq (tC Th (tC YN tN))))
def yJ(a:ah):Option ah:=some (ah.zB a 0 false false)
theorem adW:de 202 (l6 ou h2 [] [] yJ):=b7 [] tN
def oL(d:ah)(e:Int):LT (Int×Int×Int) Int:=fun(b,c,a)=>
 bif decide (a<d.C.T.ao)then(((vY d.jB a).bind fun f=>
 bif f then some true else
 ((pi e a).bind fun i=>
 some (!i)):Option Bool).bind fun g=>
 bif g then some (wr .i64 (b+c))else
 some b:Option Int).bind fun h=>
 some (.inl (h,wr .i64 (c*2),wr .i64 (a+1)))else
 some (.inr b)
def sQ(a:ah)(f:Int)(c:Int):Option ah:=
 (aJ (oL a c) (0,1,0)).bind fun b=>
 (eY a 6 a.At.U b 0).bind fun g=>
 (lN g f 10 0 b 0).bind fun d=>
 (yJ d).bind fun e=>
 some e
theorem alt:de 146 (l6 ou h2 [I6,I6] [] (u3 sQ)):=b7 [(5,gV (jV [(6,xI),(7,xI),(8,xI)]) [(.exit 0,jV [(6,xI)])]),(10,ot [(.normal,jV [(6,xI)])]),(12,mc (jV [(30,xB)]))] (tC Tq (tC JR (tC L4 (tC Ti (tC adW tN)))))
def uD(d:Int):LT (Int×Sl ac×ah) (Sl ac×ah):=fun(b,c,a)=>
 bif decide (b<(a.fN.l.length:Int))then((bS b a.fN.l.length).bind fun h=>
 (pi d (gt a.fN.l h).Sw).bind fun f=>
 bif f then(bS b a.fN.l.length).bind fun l=>
 (fA (c.l++[gt a.fN.l l])).bind fun g=>
 some (Sl.mk g,a)else
 ((bS b a.fN.l.length).bind fun j=>
 (fA (a.jB.l++[(gt a.fN.l j).Sw])).bind fun k=>
 some (c,ah.aaK a (Sl.mk k))):Option (Sl ac×ah)).bind fun(i,e)=>
 some (.inl (wr .i64 (b+1),i,e))else
 some (.inr (c,a))
def uE(f:ah)(c:Int)(d:Int):Option ah:=
 (aJ (uD d) (0,Sl.nil,f)).bind fun(b,a)=>
 bif(b.l.length:Int)==0&&(!a.nw)then(nT (ah.KN a b) c).bind fun g=>
 some g else
 (bif(!a.nw)||decide (c<a.IJ)then(pm (ah.KN a b) c).bind fun e=>
 some e else
 bif decide (a.I8>0)then(nR (ah.KN a b) c (wr .i64 (a.I8-1)) d).bind fun i=>
 some i else
 (sQ (ah.KN a b) c d).bind fun h=>
 some h)
theorem als:de 87 (l6 ou h2 [I6,I6] [] (u3 uE)):=b7 [(5,gV (jP [(6,.so 0),(7,xI)] [.ar y5] [0,13,31,35,38,39,40,41,42] [(0,ou,h2)]) [(.exit 0,jP [(6,.so 0)] [.ar y5] [0,13,31,35,38,39,40,41,42] [(0,ou,h2)])]),(9,ot [(.normal,jP [(6,.so 0)] [.ar y5] [0,43,56,74,78,81,82,83,84,85] [(0,ou,h2)])])] (tC JR (tC YN (tC adY (tC adX (tC alt tN)))))
def lM(a:ah)(e:Int)(c:Int):Option ah:=
 (bif(!a.At.bD)then(eY a 4 a.At.U 0 0).bind fun d=>
 some d else
 some a:Option ah).bind fun b=>
 (nR (ah.Fh b 5) e (wr .i64 ((b.ja.aF.l.length:Int)-1)) c).bind fun f=>
 some f
theorem Tg:de 93 (l6 ou h2 [I6,I6] [] (u3 lM)):=b7 [(0,ot [(.normal,jK [0,13,31,35,38,39,40,41,42] [(0,ou,h2)])])] (tC L4 (tC adX tN))
def AJ(a:aQ)(f:Int):LT (Int×Int×Int) Int:=fun(c,d,b)=>
 bif decide (b<(a.aF.l.length:Int))then((bS b a.aF.l.length).bind fun h=>
 (vY (gt a.aF.l h).jm f).bind fun g=>
 bif g then some (wr .i64 (c+d))else
 some c:Option Int).bind fun e=>
 some (.inl (e,wr .i64 (d*2),wr .i64 (b+1)))else
 some (.inr c)
def BX(a:aQ)(c:Int):Option Int:=
 (aJ (AJ a c) (0,1,0)).bind fun b=>
 some b
theorem alr:de 203 (b8 [Eu,I6] [I6] (u2 BX)):=b7 [(7,gV (jV [(5,xI),(6,xI),(7,xI)]) [(.exit 0,jV [(5,xI)])]),(12,ot [(.normal,jV [(5,xI)])])] (tC Tq tN)
def yK(b:ah):LT (Int×Sl ac) (Sl ac):=fun(a,c)=>
 bif decide (a<b.C.T.ao)then((pg b.ja a).bind fun e=>
 bif e then(BX b.ja a).bind fun d=>
 (fA (c.l++[(⟨6,a,b.At.U,0,0,0,0,0,d,Sl.nil⟩:ac)])).bind fun g=>
 some (Sl.mk g)else
 some c:Option (Sl ac)).bind fun f=>
 some (.inl (wr .i64 (a+1),f))else
 some (.inr c)
def sR(a:ah)(b:Int):Option ah:=
 (aJ (yK a) (0,Sl.nil)).bind fun c=>
 (nc (ah.Fh a 4) b c).bind fun d=>
 some d
theorem alq:de 147 (l6 ou h2 [I6] [] (u2 sR)):=b7 [(7,gV (jO [(4,.so 0),(5,xI)] [.ar y5] []) [(.exit 0,jO [(4,.so 0)] [.ar y5] [])]),(11,ot [(.normal,jO [(4,.so 0)] [.ar y5] [43])])] (tC ad5 (tC alr (tC Th tN)))
def sP(a:ah)(b:Int)(c:Int):Option ah:=
 (bif a.gR==2 then some a.I8 else
 some 0:Option Int).bind fun e=>
 ((rV a.ja c).bind fun i=>
 bif(!i)then some true else
 (bif a.gR==1||a.gR==2 then(bS e a.ja.aF.l.length).bind fun d=>
 some (decide (b>=wr .i64 ((gt a.ja.aF.l d).At-a.C.A7)))else
 some false):Option Bool).bind fun f=>
 bif f then(lM a b c).bind fun g=>
 some g else
 (bif a.gR==3&&decide (b>a.ja.To)then(sR a b).bind fun h=>
 some h else
 (pm a b).bind fun j=>
 some j)
theorem alp:de 88 (l6 ou h2 [I6,I6] [] (u3 sP)):=b7 [(2,ot [(.normal,jV [(6,xI)])]),(8,mc (jV [(55,xB)]))] (tC ad4 (tC Tg (tC alq (tC adY tN))))
def oM(c:Int)(d:Int):LT (Int×ah) ah:=fun(b,a)=>
 bif decide (b<a.C.T.ao)then(((pi d b).bind fun f=>
 bif f then(bS b a.DA.l.length).bind fun l=>
 bif(!(gt a.DA.l l))then some true else
 (bS b a.xl.l.length).bind fun h=>
 some (decide (wr .i64 (c-gt a.xl.l h)>=a.C.Aw))else
 some false:Option Bool).bind fun i=>
 bif i then(bS b a.DA.l.length).bind fun e=>
 (bS b a.xl.l.length).bind fun j=>
 (fA (a.ik.l++[(⟨1,b,0,0,c,0,0,0,0,Sl.nil⟩:ac)])).bind fun g=>
 some (ah.CE a (Sl.mk (a.DA.l.set e true)) (Sl.mk (a.xl.l.set j c)) (Sl.mk g))else
 some a:Option ah).bind fun k=>
 some (.inl (wr .i64 (b+1),k))else
 some (.inr a)
def sT(d:ah)(c:Int)(b:Int):Option ah:=
 bif d.gR==6 then some d else
 ((aJ (oM c b) (0,d)).bind fun a=>
 bif a.gR==0 then(uB a c b).bind fun g=>
 some g else
 bif a.gR==5 then(uE a c b).bind fun e=>
 some e else
 (sP a c b).bind fun f=>
 some f)
theorem alo:de 39 (l6 ou h2 [I6,I6] [] (u3 sT)):=b7 [(6,gV (jW [(6,xI)] [0,13,31,35,38,39,40,41,42] [(0,ou,h2)]) [(.exit 0,jK [0,13,31,35,38,39,40,41,42] [(0,ou,h2)])]),(10,ot [(.normal,jK [0,55,73,77,80,81,82,83,84] [(0,ou,h2)])]),(12,mc (jV [(51,xB)]))] (tC JR (tC alu (tC als (tC alp tN))))
def CZ(a:ac):Option ac:=
 (bif a.bP==1||a.bP==2 then some (⟨a.bP,a.Sw,0,0,a.T1,0,0,0,0,Sl.nil⟩:ac)else
 some (⟨a.bP,a.Sw,0,0,0,0,0,0,0,Sl.nil⟩:ac):Option ac).bind fun d=>
 (bif a.bP==2||a.bP==4 then some (⟨d.bP,d.Sw,d.U,d.Rd,d.T1,a.T2,d.jb,d.Of,d.Code,d.gW⟩:ac)else
 some d:Option ac).bind fun b=>
 (bif a.bP==2||a.bP==7||a.bP==8 then some (⟨b.bP,b.Sw,b.U,b.Rd,b.T1,b.T2,a.jb,b.Of,b.Code,b.gW⟩:ac)else
 some b:Option ac).bind fun h=>
 (bif decide (a.bP>=3)&&decide (a.bP<=8)then some (⟨h.bP,h.Sw,a.U,h.Rd,h.T1,h.T2,h.jb,h.Of,h.Code,h.gW⟩:ac)else
 some h:Option ac).bind fun g=>
 (bif decide (a.bP>=3)&&decide (a.bP<=8)&&a.bP !=6 then some (⟨g.bP,g.Sw,g.U,a.Rd,g.T1,g.T2,g.jb,g.Of,g.Code,g.gW⟩:ac)else
 some g:Option ac).bind fun f=>
 (bif a.bP==7||a.bP==8 then some (⟨f.bP,f.Sw,f.U,f.Rd,f.T1,f.T2,f.jb,a.Of,f.Code,f.gW⟩:ac)else
 some f:Option ac).bind fun e=>
 (bif a.bP==6||a.bP==8 then some (⟨e.bP,e.Sw,e.U,e.Rd,e.T1,e.T2,e.jb,e.Of,a.Code,e.gW⟩:ac)else
 some e:Option ac).bind fun c=>
 (bif a.bP==3 then some (⟨c.bP,c.Sw,c.U,c.Rd,c.T1,c.T2,c.jb,c.Of,c.Code,a.gW⟩:ac)else
 some c:Option ac).bind fun i=>
 some i
theorem aln:de 148 (l7 [y5] [y5] CZ):=b7 [(6,ot [(.normal,jO [(3,.op 0 y5 [])] [.bx y5 (.x y5)] [2])]),(10,ot [(.normal,jO [(3,.op 0 y5 [])] [.bx y5 (.x y5)] [3])]),(14,ot [(.normal,jO [(3,.op 0 y5 [])] [.bx y5 (.x y5)] [4])]),(18,ot [(.normal,jO [(3,.op 0 y5 [])] [.bx y5 (.x y5)] [5])]),(22,ot [(.normal,jO [(3,.op 0 y5 [])] [.bx y5 (.x y5)] [6])]),(26,ot [(.normal,jO [(3,.op 0 y5 [])] [.bx y5 (.x y5)] [7])]),(30,ot [(.normal,jO [(3,.op 0 y5 [])] [.bx y5 (.x y5)] [8])]),(34,ot [(.normal,jO [(3,.op 0 y5 [])] [.bx y5 (.x y5)] [9])])] tN
def wG(b:Sl cz)(c:Sl cz):LT Int (Bool⊕Unit):=fun a=>
 bif decide (a<(b.l.length:Int))then(bS a b.l.length).bind fun e=>
 (bS a c.l.length).bind fun d=>
 bif(!(decide ((gt b.l e)=(gt c.l d))))then some (.inr (.inl false))else
 some (.inl (wr .i64 (a+1)))else
 some (.inr (.inr ()))
def B5(a:Sl cz)(b:Sl cz):Option Bool:=
 bif(a.l.length:Int) !=(b.l.length:Int)then some false else
 ((aJ (wG a b) 0).bind fun
 |.inl c=>some c
 |.inr _=>some true)
theorem alm:de 256 (b8 [.sl y9,.sl y9] [.b] (u2 B5)):=b7 [(10,gV (jV [(5,xI)]) [(.ret,jV [(4,xB)]),(.exit 0,j0)])] tN
def EN(a:bR)(b:bR):Option Bool:=
 (bif a.KP==b.KP&&decide (a.M=b.M)then(B5 a.Ct b.Ct).bind fun d=>
 some d else
 some false:Option Bool).bind fun c=>
 some c
theorem alk:de 210 (b8 [y7,y7] [.b] (u2 EN)):=b7 [(3,mc (jV [(4,xB)]))] (tC alm tN)
def B4(a:aV)(b:aV):Option Bool:=
 (bif a.bP==b.bP&&a.Uv==b.Uv then(EN a.R b.R).bind fun d=>
 some d else
 some false:Option Bool).bind fun c=>
 some c
theorem alj:de 156 (b8 [y6,y6] [.b] (u2 B4)):=b7 [(3,mc (jV [(4,xB)]))] (tC alk tN)
def pG(b:Sl aV)(c:Sl aV):LT Int (Bool⊕Unit):=fun a=>
 bif decide (a<(b.l.length:Int))then(bS a b.l.length).bind fun f=>
 (bS a c.l.length).bind fun e=>
 (B4 (gt b.l f) (gt c.l e)).bind fun d=>
 bif(!d)then some (.inr (.inl false))else
 some (.inl (wr .i64 (a+1)))else
 some (.inr (.inr ()))
def qF(a:Sl aV)(b:Sl aV):Option Bool:=
 bif(a.l.length:Int) !=(b.l.length:Int)then some false else
 ((aJ (pG a b) 0).bind fun
 |.inl c=>some c
 |.inr _=>some true)
theorem ali:de 94 (b8 [.sl y6,.sl y6] [.b] (u2 qF)):=b7 [(10,gV (jV [(5,xI)]) [(.ret,jV [(4,xB)]),(.exit 0,j0)])] (tC alj tN)
def tB(a:ac)(b:ac):Option Bool:=
 bif a.bP !=b.bP||a.Sw !=b.Sw||a.U !=b.U||a.Rd !=b.Rd||a.T1 !=b.T1||a.T2 !=b.T2 then some false else
 ((bif a.jb==b.jb&&a.Of==b.Of&&a.Code==b.Code then(qF a.gW b.gW).bind fun d=>
 some d else
 some false:Option Bool).bind fun c=>
 some c)
theorem adV:de 43 (b8 [y5,y5] [.b] (u2 tB)):=b7 [(8,mc (jV [(4,xB)]))] (tC ali tN)
def wE(a:ac):Option Bool:=
 bif decide (a.T1<0)||decide (a.T1>1125899906842624)||decide (a.T2<(-1125899906842624))||decide (a.T2>1125899906842624)||decide (a.jb<0)||decide (a.jb>65535)||decide (a.Code<0)||decide (a.Code>255)then some false else
 ((bif decide (a.bP>2)then some (decide (a.U<1)||decide (a.U>65535)||decide (a.Rd>7))else
 some false:Option Bool).bind fun d=>
 bif d then some false else
 (bif decide (a.Rd<0)then some (decide (a.Rd<(-1))||decide (a.bP<5)||a.bP==6)else
 some false:Option Bool).bind fun b=>
 bif b then some false else
 (bif decide (a.bP<7)then some true else
 some (decide (a.Of>=3)&&decide (a.Of<=6)):Option Bool).bind fun c=>
 some c)
theorem alh:de 149 (b8 [y5] [.b] wE):=b7 [(11,mc (jV [(60,xB)])),(16,mc (jV [(76,xB)])),(20,mc (jV [(2,xB)]))] tN
def MT(c:Int):LT (Int×Int) Int:=fun(b,a)=>
 bif decide (a<c)then some (.inl (wr .i64 (b.tdiv 2),wr .i64 (a+1)))else
 some (.inr b)
def Bj(c:Int)(b:Int):Option Int:=
 (aJ (MT b) (c,0)).bind fun a=>
 some (a.tmod 2)
theorem alg:de 252 (b8 [I6,I6] [I6] (u2 Bj)):=b7 [(5,gV (jV [(0,xI),(5,xI)]) [(.exit 0,jV [(0,xI)])])] tN
def yU(b:ck)(c:Int):LT Int (Bool⊕Unit):=fun a=>
 bif decide (a<8)then(bS c 4).bind fun f=>
 (Bj (gt b.Val.1 f) a).bind fun d=>
 (bS c 4).bind fun g=>
 (Bj (gt b.QA.1 g) a).bind fun e=>
 bif decide (d>e)then some (.inr (.inl false))else
 some (.inl (wr .i64 (a+1)))else
 some (.inr (.inr ()))
def qG(b:ck):LT Int (Bool⊕Unit):=fun a=>
 bif decide (a<4)then((bS a 4).bind fun f=>
 bif decide (gt b.QA.1 f<0)then some true else
 ((bS a 4).bind fun d=>
 (tW a).bind fun c=>
 bif decide (gt b.QA.1 d>c)then some true else
 (bS a 4).bind fun e=>
 bif decide (gt b.Val.1 e<0)then some true else
 (bS a 4).bind fun j=>
 (tW a).bind fun i=>
 some (decide (gt b.Val.1 j>i))):Option Bool).bind fun g=>
 bif g then some (.inr (.inl false))else
 (aJ (yU b a) 0).bind fun
 |.inl h=>some (.inr (.inl h))
 |.inr _=>some (.inl (wr .i64 (a+1)))else
 some (.inr (.inr ()))
def Ac(a:ck):Option Bool:=
 bif decide (a.fU<(-1))||decide (a.fU>7)then some false else
 ((aJ (qG a) 0).bind fun
 |.inl b=>some b
 |.inr _=>some true)
theorem alf:de 204 (b8 [y8] [.b] Ac):=b7 [(10,gV (jV [(3,xI)]) [(.ret,jV [(2,xB)]),(.exit 0,j0)]),(17,mc (jV [(46,xB)])),(22,gV (jV [(4,xI)]) [(.ret,jV [(2,xB)]),(.exit 2,j0)])] (tC YO (tC alg tN))
def DO(a:cz)(d:Int):Option Bool:=
 bif a.bP==1 then(bif decide (a.F>=0)&&decide (a.F<=3)&&decide (a.V>=0)then(tW a.F).bind fun c=>
 some (decide (a.V<=c))else
 some false:Option Bool).bind fun b=>
 some b else
 (bif a.bP==3 then some (a.F==0&&a.V==0)else
 some (a.bP==2&&a.F==0&&decide (a.V>=0)&&decide (a.V<d)))
theorem ale:de 253 (b8 [y9,I6] [.b] (u2 DO)):=b7 [(6,mc (jV [(4,xB)]))] (tC YO tN)
def uL(a:Sl cz)(e:Int):LT Int (Bool⊕Unit):=fun b=>
 bif decide (b<(a.l.length:Int))then(bS b a.l.length).bind fun d=>
 (DO (gt a.l d) e).bind fun c=>
 bif(!c)then some (.inr (.inl false))else
 some (.inl (wr .i64 (b+1)))else
 some (.inr (.inr ()))
def Ab(a:Sl cz)(b:Int):Option Bool:=
 (aJ (uL a b) 0).bind fun
 |.inl c=>some c
 |.inr _=>some (decide ((a.l.length:Int)<=16))
theorem alc:de 205 (b8 [.sl y9,I6] [.b] (u2 Ab)):=b7 [(5,gV (jV [(5,xI)]) [(.ret,jV [(4,xB)]),(.exit 0,j0)])] (tC ale tN)
def w_(a:bR)(d:Int):Option Bool:=
 (bif decide (a.KP>=0)&&decide (a.KP<=65535)then(Ac a.M).bind fun b=>
 bif b then(Ab a.Ct d).bind fun e=>
 some e else
 some false else
 some false:Option Bool).bind fun c=>
 some c
theorem alb:de 150 (b8 [y7,I6] [.b] (u2 w_)):=b7 [(3,mc (jV [(4,xB)]))] (tC alf (tC alc tN))
def qE(a:ac):LT Int (Bool⊕Unit):=fun b=>
 bif decide (b<(a.gW.l.length:Int))then((bS b a.gW.l.length).bind fun g=>
 bif decide ((gt a.gW.l g).bP<1)then some true else
 ((bS b a.gW.l.length).bind fun f=>
 bif decide ((gt a.gW.l f).bP>5)then some true else
 (bS b a.gW.l.length).bind fun d=>
 (w_ (gt a.gW.l d).R 8).bind fun c=>
 some (!c)):Option Bool).bind fun e=>
 bif e then some (.inr (.inl false))else
 some (.inl (wr .i64 (b+1)))else
 some (.inr (.inr ()))
def z_(a:ac):Option Bool:=
 (bif decide (a.bP<1)||decide (a.bP>8)||decide (a.Sw<0)||decide (a.Sw>7)then some true else
 ((CZ a).bind fun b=>
 (tB a b).bind fun f=>
 bif(!f)then some true else
 (wE a).bind fun e=>
 some ((!e)||decide ((a.gW.l.length:Int)>16))):Option Bool).bind fun d=>
 bif d then some false else
 ((aJ (qE a) 0).bind fun
 |.inl c=>some c
 |.inr _=>some true)
theorem ala:de 89 (b8 [y5] [.b] z_):=b7 [(4,mc (jV [(39,xB)])),(10,gV (jV [(3,xI)]) [(.ret,jV [(2,xB)]),(.exit 0,j0)]),(16,mc (jV [(72,xB)]))] (tC aln (tC adV (tC alh (tC alb tN))))
def C1(t1_0:Int)(t2_1:Int)(t4_2:Int)(c:Int):Option bo:=
 (w9 (wr .i64 (t4_2-t1_0)) c).bind fun b=>
 (xb (⟨wr .i64 (t2_1-t4_2),wr .i64 (t2_1-t1_0)⟩:bo) b).bind fun a=>
 some a
theorem ak_:de 151 (b8 [I6,I6,I6,I6] [y3] (u4 C1)):=b7 [] (tC ad3 (tC ad2 tN))
def B7(e:bo)(g:bo):Option bo:=
 (kf e).bind fun b=>
 (kf g).bind fun a=>
 (bif decide (a.Lo>b.Lo)then some (⟨a.Lo,b.Hi⟩:bo)else
 some b:Option bo).bind fun c=>
 (bif decide (a.Hi<c.Hi)then some (⟨c.Lo,a.Hi⟩:bo)else
 some c:Option bo).bind fun f=>
 (kf f).bind fun d=>
 some d
theorem ak9:de 152 (b8 [y3,y3] [y3] (u2 B7)):=b7 [(8,ot [(.normal,jO [(5,.op 0 y3 [])] [.bx y3 (.x y3)] [7])]),(12,ot [(.normal,jO [(5,.op 0 y3 [])] [.bx y3 (.x y3)] [8])])] (tC Tj tN)
def B3(a:bE)(t1_1:Int)(t2_2:Int)(t4_3:Int)(c:Int):Option (bE×Int):=
 (bif decide (t1_1<0)||decide (t1_1>t4_3)||decide (t4_3>1099511627776)||decide (t2_2>1125899906842624)||decide (t2_2<(-1125899906842624))then some true else
 some (a.sI&&decide (a.At>t4_3)):Option Bool).bind fun f=>
 bif f then some (a,2)else
 ((C1 t1_1 t2_2 t4_3 c).bind fun d=>
 (bif a.sI then(C0 a t4_3 c).bind fun h=>
 (B7 h d).bind fun e=>
 some e else
 some d:Option bo).bind fun b=>
 (qH b).bind fun g=>
 bif g then some (a,16)else
 some ((⟨true,b,t4_3⟩:bE),0))
theorem ak8:de 90 (b8 [HI,I6,I6,I6,I6] [HI,I6] (u5 B3)):=b7 [(4,mc (jV [(41,xB)])),(9,ot [(.normal,jO [(12,.op 0 y3 [])] [.bx y3 (.x y3)] [4])])] (tC ak_ (tC ad1 (tC ak9 (tC Tk tN))))
def uC(a:ah)(d:ac):LT Int (Int⊕Unit):=fun b=>
 bif decide (b<(a.fN.l.length:Int))then(bS b a.fN.l.length).bind fun c=>
 bif(gt a.fN.l c).Sw==d.Sw&&(gt a.fN.l c).Rd==d.Rd&&(gt a.fN.l c).bP==d.Of then some (.inr (.inl b))else
 some (.inl (wr .i64 (b+1)))else
 some (.inr (.inr ()))
def ke(a:ah)(c:ac):Option (Int×ah):=
 (aJ (uC a c) 0).bind fun
 |.inl b=>some (b,a)
 |.inr _=>some ((-1),a)
theorem adU:de 92 (l6 ou h2 [y5] [I6] (u2 ke)):=b7 [(5,gV (jV [(5,xI)]) [(.ret,jV [(4,xI)]),(.exit 0,j0)])] tN
def qU(b:Int)(a:ah):LT (Int×Sl ac) (Sl ac):=fun(d,e)=>
 (bS b a.ja.aF.l.length).bind fun j=>
 bif decide (d<((gt a.ja.aF.l j).jm.l.length:Int))then(bS b a.ja.aF.l.length).bind fun c=>
 (bS d (gt a.ja.aF.l c).jm.l.length).bind fun f=>
 (bS (gt (gt a.ja.aF.l c).jm.l f) a.GG.l.length).bind fun h=>
 (bS b a.ja.aF.l.length).bind fun i=>
 (yp (gt a.GG.l h) (gt a.ja.aF.l i).At a.C.BF).bind fun(g,_,_)=>
 (fA (e.l++[(⟨4,gt (gt a.ja.aF.l c).jm.l f,a.At.U,b,0,g,0,0,0,Sl.nil⟩:ac)])).bind fun k=>
 some (.inl (wr .i64 (d+1),Sl.mk k))else
 some (.inr e)
def rW(c:ah)(d:Int)(a:Int)(g:Int):Option ah:=
 (pn c c.ja a).bind fun(f,b)=>
 bif(!f)then(lM b d g).bind fun i=>
 some i else
 ((eY b 2 b.At.U a 0).bind fun e=>
 (aJ (qU a e) (0,Sl.nil)).bind fun h=>
 (nc (ah.KR e 2 a) d h).bind fun j=>
 some j)
theorem ak7:de 209 (l6 ou h2 [I6,I6,I6] [] (u4 rW)):=b7 [(16,gV (jO [(8,.so 0),(9,xI)] [.ar y5] []) [(.exit 0,jO [(8,.so 0)] [.ar y5] [])])] (tC adZ (tC Tg (tC L4 (tC ad0 (tC Th tN)))))
def qo(a:ah)(b:Int)(c:Int):Option ah:=
 bif a.gR==1 then(rW a b 0 c).bind fun e=>
 some e else
 (bif a.gR==2&&decide (a.I8<wr .i64 ((a.ja.aF.l.length:Int)-1))then(rW a b (wr .i64 (a.I8+1)) c).bind fun f=>
 some f else
 bif a.gR==2 then(eY a 3 a.At.U 0 0).bind fun h=>
 some (ah.Fh h 3)else
 bif a.gR==4 then(eY a 5 a.At.U 0 0).bind fun d=>
 (lN d b 9 0 d.At.lh 0).bind fun g=>
 (yJ g).bind fun i=>
 some i else
 (nT a b).bind fun j=>
 some j)
theorem ak6:de 155 (l6 ou h2 [I6,I6] [] (u3 qo)):=b7 [] (tC ak7 (tC L4 (tC Ti (tC adW (tC YN tN)))))
def yL(d:Int)(c:ah):LT (Int×Sl ac) (Sl ac):=fun(a,b)=>
 bif decide (a<(c.fN.l.length:Int))then(bif a !=d then(bS a c.fN.l.length).bind fun f=>
 (fA (b.l++[gt c.fN.l f])).bind fun g=>
 some (Sl.mk g)else
 some b:Option (Sl ac)).bind fun e=>
 some (.inl (wr .i64 (a+1),e))else
 some (.inr b)
def sS(b:ah)(f:Int)(a:ac)(i:Int):Option ah:=
 bif b.gR==0 then(bif a.Of==5&&a.Rd==(-1)then(pi b.At.ik a.Sw).bind fun g=>
 some g else
 some false:Option Bool).bind fun j=>
 bif j then(eY b 7 b.At.U a.Sw 0).bind fun k=>
 (lN k f 11 a.Sw 0 0).bind fun l=>
 some l else
 some b else
 ((ke b a).bind fun(e,c)=>
 bif e==(-1)then some c else
 (aJ (yL e c) (0,Sl.nil)).bind fun d=>
 bif(d.l.length:Int)==0 then(qo (ah.KN c d) f i).bind fun h=>
 some h else
 some (ah.KN c d))
theorem ak5:de 91 (l6 ou h2 [I6,y5,I6] [] (u4 sS)):=b7 [(7,mc (jV [(33,xB)])),(21,gV (jO [(9,.so 0),(10,xI)] [.ar y5] []) [(.exit 0,jO [(9,.so 0)] [.ar y5] [])]),(25,ot [(.normal,jO [(9,.so 0)] [.ar y5] [87])])] (tC JR (tC L4 (tC Ti (tC adU (tC ak6 tN)))))
def qp(a:ah)(c:Int)(b:ac)(d:Int):Option ah:=
 (bif a.gR==6 then some true else
 ((z_ b).bind fun i=>
 some ((!i)||decide (b.Sw>=a.C.T.ao))):Option Bool).bind fun n=>
 bif n then some a else
 (bif b.bP==2 then(bS b.Sw a.GG.l.length).bind fun m=>
 (B3 (gt a.GG.l m) b.T1 b.T2 c a.C.BF).bind fun(g,h)=>
 bif h==0 then(bS b.Sw a.GG.l.length).bind fun j=>
 some (ah.anY a (Sl.mk (a.GG.l.set j g)))else
 some a else
 bif b.U !=a.At.U then some a else
 (bif b.bP==7 then(sS a c b d).bind fun p=>
 some p else
 some a:Option ah).bind fun f=>
 (bif b.bP==8&&b.Of !=5 then(ke f b).bind fun(l,q)=>
 some (decide (l>=0),q)else
 some (false,f):Option (Bool×ah)).bind fun(o,e)=>
 bif o then(lM e c d).bind fun k=>
 some k else
 some e)
theorem ak4:de 40 (l6 ou h2 [I6,y5,I6] [] (u4 qp)):=b7 [(4,mc (jV [(30,xB)])),(17,ot [(.normal,jK [0,13,31,35,38,39,40,41,42] [(0,ou,h2)])]),(22,mc (jW [(95,xB)] [0,8000056,8000074,8000078,8000081,8000082,8000083,8000084,8000085] [(0,ou,h2)]))] (tC ala (tC ak8 (tC ak5 (tC adU (tC Tg tN)))))
def sV(a:ah):Option ah:=
 (lF a).bind fun b=>
 some (ah.Fh b 6)
theorem ak3:de 41 (l6 ou h2 [] [] sV):=b7 [] (tC aeb tN)
def sU(a:ah)(e:Int)(c:Int):Option ah:=
 bif a.gR !=6 then some a else
 (bif(!a.At.hZ)then some (ah.Fh a 0)else
 (bS a.At.lh a.lg.l.length).bind fun h=>
 (bS a.At.dF a.lg.l.length).bind fun d=>
 (yS a.C.qf).bind fun f=>
 (lO a.C.T (gt a.lg.l h) (gt a.lg.l d) a.At.At f a.C.zQ).bind fun(b,_)=>
 bif a.At.lf&&(!a.At.bD)then some (ah.Dz a 3 b)else
 (lM (ah.Dz a 0 b) e c).bind fun g=>
 some g)
theorem ak2:de 42 (l6 ou h2 [I6,I6] [] (u3 sU)):=b7 [] (tC ad9 (tC ad6 (tC Tg tN)))
def Aj(b:ah)(a:bc)(c:Sl ac):Option (Int×ah×Sl ac):=
 (bif a.bP==0 then(qV b a.lh a.N a.Up).bind fun(m,h)=>
 some (.inr (m,h))else
 ((bif a.bP==1 then some (a.bP==1)else
 some (a.bP==2):Option Bool).bind fun k=>
 bif k then(sT b a.lh a.Up).bind fun j=>
 some (.inl (c,j))else
 bif a.bP==3 then(qp b a.lh a.M a.Up).bind fun i=>
 some (.inl (c,i))else
 bif a.bP==4 then(wg c a.N).bind fun(e,n,d)=>
 (py d c).bind fun _=>
 bif n then(uS e).bind fun p=>
 (qp b a.lh p a.Up).bind fun s=>
 some (.inl (d,s))else
 some (.inl (d,b))else
 bif a.bP==5 then(sV b).bind fun g=>
 some (.inl (c,g))else
 bif a.bP==6 then(sU b a.lh a.Up).bind fun f=>
 some (.inl (c,f))else
 some (.inl (c,b))):Option ((Sl ac×ah)⊕(Int×ah))).bind fun
 |.inl (o,l)=>some (0,l,o)
 |.inr (r,q)=>some (r,q,c)
def ahy:cR:=⟨[(true,.pb ou (h2)),(false,.x y4),(true,.os y5)],[([.x I6],[.pb ou (h2),.os y5])],false,[true,false,true],u3 Aj⟩
theorem ak1:de 17 ahy:=b7 [(2,ot [(.normal,⟨[],(.co (.sm) (.co (.so 0) .ni)),[.ar y5],[0,13,31,35,38,39,40,41,42,43],[(0,ou,h2)]⟩),(.ret,jW [(6,xI)] [0,13,31,35,38,39,40,41,42] [(0,ou,h2)])]),(9,ot [(.normal,jV [(21,xB)])])] (tC alw (tC alo (tC ak4 (tC aea (tC ad_ (tC ak3 (tC ak2 tN)))))))
def xA(a:ah):Option (Sl ac×Sl dE×ah):=some (a.ik,a.l5,ah.Ie a Sl.nil Sl.nil)
theorem ak0:de 18 (l6 ou h2 [] [.sl y5,.sl y2] xA):=b7 [] tN
def pZ(b:Sl ac)(c:Sl ac):LT Int (Bool⊕Unit):=fun a=>
 bif decide (a<(b.l.length:Int))then(bS a b.l.length).bind fun f=>
 (bS a c.l.length).bind fun e=>
 (tB (gt b.l f) (gt c.l e)).bind fun d=>
 bif(!d)then some (.inr (.inl false))else
 some (.inl (wr .i64 (a+1)))else
 some (.inr (.inr ()))
def uz(a:Sl ac)(b:Sl ac):Option Bool:=
 bif(a.l.length:Int) !=(b.l.length:Int)then some false else
 ((aJ (pZ a b) 0).bind fun
 |.inl c=>some c
 |.inr _=>some true)
theorem akZ:de 19 (b8 [.sl y5,.sl y5] [.b] (u2 uz)):=b7 [(10,gV (jV [(5,xI)]) [(.ret,jV [(4,xB)]),(.exit 0,j0)])] (tC adV tN)
def sO(b:Sl dE)(c:Sl dE):LT Int (Bool⊕Unit):=fun a=>
 bif decide (a<(b.l.length:Int))then(bS a b.l.length).bind fun e=>
 (bS a c.l.length).bind fun d=>
 bif(!(decide ((gt b.l e)=(gt c.l d))))then some (.inr (.inl false))else
 some (.inl (wr .i64 (a+1)))else
 some (.inr (.inr ()))
def xZ(a:Sl dE)(b:Sl dE):Option Bool:=
 bif(a.l.length:Int) !=(b.l.length:Int)then some false else
 ((aJ (sO a b) 0).bind fun
 |.inl c=>some c
 |.inr _=>some true)
theorem akY:de 20 (b8 [.sl y2,.sl y2] [.b] (u2 xZ)):=b7 [(10,gV (jV [(5,xI)]) [(.ret,jV [(4,xB)]),(.exit 0,j0)])] tN
def wI(a:Sl ba):LT (Int×Sl aI) (Sl aI):=fun(b,c)=>
 bif decide (b<(a.l.length:Int))then(bS b a.l.length).bind fun d=>
 (bS b a.l.length).bind fun e=>
 (bS b a.l.length).bind fun g=>
 (bS b a.l.length).bind fun f=>
 (fA (c.l++[(⟨(gt a.l d).bP,(gt a.l e).U,(gt a.l g).A,(gt a.l f).B⟩:aI)])).bind fun h=>
 some (.inl (wr .i64 (b+1),Sl.mk h))else
 some (.inr c)
def EY(a:Sl ba):Option (Sl aI):=
 (aJ (wI a) (0,Sl.nil)).bind fun b=>
 some b
theorem akX:de 95 (l7 [.sl xn] [.sl xn] EY):=b7 [(7,gV (jO [(3,.so 0),(4,xI)] [.ar xn] []) [(.exit 0,jO [(3,.so 0)] [.ar xn] [])])] tN
def wJ(b:Sl aI)(c:Sl aI):LT Int (Bool⊕Unit):=fun a=>
 bif decide (a<(b.l.length:Int))then(bS a b.l.length).bind fun d=>
 (bS a c.l.length).bind fun e=>
 bif(!(decide ((gt b.l d)=(gt c.l e))))then some (.inr (.inl false))else
 some (.inl (wr .i64 (a+1)))else
 some (.inr (.inr ()))
def Cg(b:Sl aI)(d:Sl ba):Option Bool:=
 (EY d).bind fun a=>
 bif(b.l.length:Int) !=(a.l.length:Int)then some false else
 ((aJ (wJ b a) 0).bind fun
 |.inl c=>some c
 |.inr _=>some true)
theorem akW:de 44 (b8 [.sl xn,.sl xn] [.b] (u2 Cg)):=b7 [(12,gV (jV [(6,xI)]) [(.ret,jV [(4,xB)]),(.exit 0,j0)])] (tC akX tN)
def AW(a:aj):Option (ap×aj):=some (a.bK,a)
theorem akV:de 12 (l6 kp h1 [] [Ea] AW):=b7 [] tN
def Df(a:ay):Option ap:=some a
theorem akU:de 45 (b8 [Ea] [Ea] Df):=b7 [] tN
def Cn(c:aj):Option (aC×aj):=
 (fC c).bind fun(b,a)=>
 bif b==6||(!a.bK.hZ)then some ((⟨Sl.nil,Sl.nil,0,0,0,0⟩:aC),a)else
 some (a.dj,a)
theorem akT:de 30 (l6 kp h1 [] [Eu] Cn):=b7 [] (tC Vw tN)
def wL(a:Sl ce):LT (Int×Sl aD) (Sl aD):=fun(b,c)=>
 bif decide (b<(a.l.length:Int))then(bS b a.l.length).bind fun d=>
 (bS b a.l.length).bind fun e=>
 (bS b a.l.length).bind fun g=>
 (bS b a.l.length).bind fun f=>
 (fA (c.l++[(⟨(gt a.l d).Sw,(gt a.l e).adz,(gt a.l g).fU,(gt a.l f).CC⟩:aD)])).bind fun h=>
 some (.inl (wr .i64 (b+1),Sl.mk h))else
 some (.inr c)
def EZ(a:Sl ce):Option (Sl aD):=
 (aJ (wL a) (0,Sl.nil)).bind fun b=>
 some b
theorem akS:de 157 (l7 [.sl xn] [.sl xn] EZ):=b7 [(7,gV (jO [(3,.so 0),(4,xI)] [.ar xn] []) [(.exit 0,jO [(3,.so 0)] [.ar xn] [])])] tN
def wM(b:Sl aD)(c:Sl aD):LT Int (Bool⊕Unit):=fun a=>
 bif decide (a<(b.l.length:Int))then(bS a b.l.length).bind fun d=>
 (bS a c.l.length).bind fun e=>
 bif(!(decide ((gt b.l d)=(gt c.l e))))then some (.inr (.inl false))else
 some (.inl (wr .i64 (a+1)))else
 some (.inr (.inr ()))
def zg(b:Sl aD)(d:Sl ce):Option Bool:=
 (EZ d).bind fun a=>
 bif(b.l.length:Int) !=(a.l.length:Int)then some false else
 ((aJ (wM b a) 0).bind fun
 |.inl c=>some c
 |.inr _=>some true)
theorem akR:de 96 (b8 [.sl xn,.sl xn] [.b] (u2 zg)):=b7 [(12,gV (jV [(6,xI)]) [(.ret,jV [(4,xB)]),(.exit 0,j0)])] (tC akS tN)
def wF(b:Sl Int)(c:Sl Int):LT Int (Bool⊕Unit):=fun a=>
 bif decide (a<(b.l.length:Int))then(bS a b.l.length).bind fun e=>
 (bS a c.l.length).bind fun d=>
 bif gt b.l e !=gt c.l d then some (.inr (.inl false))else
 some (.inl (wr .i64 (a+1)))else
 some (.inr (.inr ()))
def yT(a:Sl Int)(b:Sl Int):Option Bool:=
 bif(a.l.length:Int) !=(b.l.length:Int)then some false else
 ((aJ (wF a b) 0).bind fun
 |.inl c=>some c
 |.inr _=>some true)
theorem akQ:de 97 (b8 [.sl I6,.sl I6] [.b] (u2 yT)):=b7 [(10,gV (jV [(5,xI)]) [(.ret,jV [(4,xB)]),(.exit 0,j0)])] tN
def wK(c:aC)(b:aQ):LT Int (Bool⊕Unit):=fun a=>
 bif decide (a<(b.aF.l.length:Int))then((bS a c.aF.l.length).bind fun d=>
 (bS a b.aF.l.length).bind fun h=>
 bif(gt c.aF.l d).No !=(gt b.aF.l h).No then some true else
 ((bS a c.aF.l.length).bind fun f=>
 (bS a b.aF.l.length).bind fun k=>
 bif(gt c.aF.l f).At !=(gt b.aF.l k).At then some true else
 (bS a c.aF.l.length).bind fun j=>
 (bS a b.aF.l.length).bind fun g=>
 (yT (gt c.aF.l j).jm (gt b.aF.l g).jm).bind fun e=>
 some (!e)):Option Bool).bind fun i=>
 bif i then some (.inr (.inl false))else
 some (.inl (wr .i64 (a+1)))else
 some (.inr (.inr ()))
def zf(a:aC)(b:aQ):Option Bool:=
 (zg a.sH b.sH).bind fun c=>
 bif(!c)||(a.aF.l.length:Int) !=(b.aF.l.length:Int)||a.aaO !=b.aaO||a.jb !=b.jb||a.QD !=b.QD||a.To !=b.To then some false else
 ((aJ (wK a b) 0).bind fun
 |.inl d=>some d
 |.inr _=>some true)
theorem akP:de 46 (b8 [Eu,Eu] [.b] (u2 zf)):=b7 [(10,gV (jV [(5,xI)]) [(.ret,jV [(4,xB)]),(.exit 0,j0)]),(16,mc (jV [(99,xB)]))] (tC akR (tC akQ tN))
def wl(a:aj)(b:Int):Option (aZ×aj):=
 bif decide (b<0)||decide (b>=a.c.T.ao)then some ((⟨false,(⟨0,0⟩:dY),0⟩:aZ),a)else
 ((bS b 8).bind fun c=>
 some (gt a.oD.1 c,a))
theorem akO:de 29 (l6 kp h1 [I6] [HI] (u2 wl)):=b7 [] tN
def uT(a:ah):LT (Int×aj) ((Bool×aj)⊕aj):=fun(b,e)=>
 bif decide (b<a.C.T.ao)then(wl e b).bind fun(c,f)=>
 (bS b a.GG.l.length).bind fun d=>
 bif(!(c.sI==(gt a.GG.l d).sI))||c.At !=(gt a.GG.l d).At||c.S.Lo !=(gt a.GG.l d).S.Lo||c.S.Hi !=(gt a.GG.l d).S.Hi then some (.inr (.inl (false,f)))else
 some (.inl (wr .i64 (b+1),f))else
 some (.inr (.inr e))
set_option synthInstance.maxSize 1000 in
def Ak(h:aj)(a:ah):Option (Bool×aj×ah):=
 ((fC h).bind fun(q,d)=>
 bif q !=a.gR then some (true,d)else
 ((pC d).bind fun(r,e)=>
 (Cg r a.L).bind fun l=>
 bif(!l)then some (true,e)else
 (AW e).bind fun(g,n)=>
 (Df a.At).bind fun o=>
 some ((!(decide (g=o))),n)):Option (Bool×aj)).bind fun(m,b)=>
 bif m then some (false,b,a)else
 ((bif a.gR==6||(!a.At.hZ)then some (⟨Sl.nil,Sl.nil,0,0,0,0⟩:aQ)else
 some a.ja:Option aQ).bind fun j=>
 (Cn b).bind fun(p,c)=>
 (zf p j).bind fun f=>
 bif(!f)then some (false,c,a)else
 (aJ (uT a) (0,c)).bind fun
 |.inl (i,s)=>some (i,s,a)
 |.inr k=>some (true,k,a))
def ahk:cR:=⟨[(true,.pb kp (h1)),(true,.pb ou (h2))],[([.x .b],[.pb kp (h1),.pb ou (h2)])],false,[true,true],u2 Ak⟩
theorem akN:de 21 ahk:=b7 [(4,mc (jW [(35,xB)] [0,13,31,76,77] [(0,kp,h1)])),(9,ot [(.normal,jO [(5,.op 0 Eu [])] [.bx Eu (.x Eu)] [198])]),(21,gV (jW [(6,xI)] [0,1000212,1000230,1000275,1000276] [(0,kp,h1)]) [(.ret,jW [(4,xB)] [0,1000212,1000230,1000275,1000276] [(0,kp,h1)]),(.exit 0,jK [0,1000212,1000230,1000275,1000276] [(0,kp,h1)])])] (tC Vw (tC aeh (tC akW (tC akV (tC akU (tC akT (tC akP (tC akO tN))))))))
def p7(a:Sl bc):LT (Int×Sl ac×aj×ah) ((Bool×aj×ah)⊕(aj×ah)):=fun(d,k,l,i)=>
 bif decide (d<(a.l.length:Int))then(bS d a.l.length).bind fun v=>
 (Cf l (gt a.l v) k).bind fun(p,z,e)=>
 (py e k).bind fun _=>
 (bS d a.l.length).bind fun s=>
 (Aj i (gt a.l s) e).bind fun(w,u,f)=>
 (py f e).bind fun _=>
 (nq z).bind fun(q,m,b)=>
 (xA u).bind fun(g,r,c)=>
 (bif p !=w then some (true,b,c)else
 ((uz q g).bind fun n=>
 bif(!n)then some (true,b,c)else
 (xZ m r).bind fun o=>
 bif(!o)then some (true,b,c)else
 (Ak b c).bind fun(A,x,y)=>
 some ((!A),x,y)):Option (Bool×aj×ah)).bind fun(B,h,j)=>
 bif B then some (.inr (.inl (false,h,j)))else
 (fA (f.l++g.l)).bind fun t=>
 some (.inl (wr .i64 (d+1),AZ f g.l t,h,j))else
 some (.inr (.inr (l,i)))
def zd(a:aA)(c:Sl bc):Option Bool:=
 (Al a c).bind fun e=>
 bif(!e)then ar0.bind fun k=>
 some k else
 ((Ap a).bind fun
 |.inl b=>((DM a).bind fun
 |.inl _=>((bif b==2 then ar0.bind fun d=>
 some d else
 some false:Option Bool).bind fun h=>
 some h)
 |.inr _=>bif b !=0 then some false else
 none)
 |.inr (f,l)=>(DM a).bind fun
 |.inl _=>some false
 |.inr g=>bif l !=0 then some false else
 (aJ (p7 c) (0,Sl.nil,f,g)).bind fun
 |.inl (j,_,_)=>some j
 |.inr (_,_)=>ar0.bind fun i=>
 some i)
def ahj:cR:=b8 [y0,.sl y4] [.b] (u2 zd)
theorem akM:de 5 ahj:=b7 [(15,mc (jV [(4,xB)])),(26,gV (jP [(8,.so 0),(9,xI)] [.ar y5] [2,15,33,78,79,81,94,112,116,119,120,121,122,123] [(2,kp,h1),(81,ou,h2)]) [(.ret,jW [(4,xB)] [2,15,33,78,79,81,94,112,116,119,120,121,122,123] [(2,kp,h1),(81,ou,h2)]),(.exit 0,jK [2,15,33,78,79,81,94,112,116,119,120,121,122,123] [(2,kp,h1),(81,ou,h2)])]),(39,mc (jW [(91,xB)] [2,81,16000256,16000274,16000319,16000320,16000335,16000353,16000357,16000360,16000361,16000362,16000363,16000364] [(2,kp,h1),(81,ou,h2)]))] (tC ok0 (tC ar6 (tC akF (tC alS (tC alP (tC ak1 (tC aen (tC ak0 (tC akZ (tC akY (tC akN tN)))))))))))
end Go.Proofs.YtoekkpmeeclpeaaGreat.S
