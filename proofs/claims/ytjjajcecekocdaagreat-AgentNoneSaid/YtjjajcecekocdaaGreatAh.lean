/- Functions shown by hand: what the second layer does not print. Conditions: none. -/
import Derived.Test.YtjjajcecekocdaaGreatKm
import Derived.Test.YtjjajcecekocdaaGreatRn
import Derived.Test.YtjjajcecekocdaaGreatChecked
import Derived.KernelRfl
open Option.some renaming inj->aa
open Go.Ev Go
noncomputable section
namespace Go.Proofs.YtjjajcecekocdaaGreat.A
theorem K9:Tryz.prog.follows .mixedOrders=true:=by kernel_rfl
@[reducible] def Y1:Ty:=.st (.pr (.i .i64) (.pr (.ar 4 (.i .i64)) (.ar 4 (.i .i64))))
@[reducible] def Y2:Ty:=.st (.pr (.i .i64) (.pr (.i .i64) (.i .i64)))
@[reducible] def Y0:Ty:=.st (.pr (.i .i64) (.pr Y1 (.sl Y2)))
@[reducible] def Y3:Ty:=.st (.pr (.i .i64) (.pr Y0 .b))
@[reducible] def Y4:Ty:=.st (.pr (.i .i64) (.pr (.i .i64) (.pr (.i .i64) (.pr (.i .i64) (.pr (.i .i64) (.pr (.i .i64) (.pr (.i .i64) (.pr (.i .i64) (.pr (.i .i64) (.sl Y3))))))))))
def xa:uX:=fun f=>if f=73 then(true,[])else if f=76 then(true,[])else if f=1000000002 then(true,[])else(false,[])
abbrev wF:Type:=Int×Int×Int×Int×Int×Int×Int×Int×Int×Sl (El Y3)
def me:wF->Option wF
 |(kind,sw,u,rd,t1,t2,life,of,code,s)=>
  bif kind==1 then some (kind,sw,0,0,t1,0,0,0,0,Sl.nil)else
  bif kind==2 then some (kind,sw,0,0,t1,t2,life,0,0,Sl.nil)else
  bif kind==3 then some (kind,sw,u,rd,0,0,0,0,0,s)else
  bif kind==4 then some (kind,sw,u,rd,0,t2,0,0,0,Sl.nil)else
  bif kind==5 then some (kind,sw,u,rd,0,0,0,0,0,Sl.nil)else
  bif kind==6 then some (kind,sw,u,0,0,0,0,0,code,Sl.nil)else
  bif kind==7 then some (kind,sw,u,rd,0,0,life,of,0,Sl.nil)else
  bif kind==8 then some (kind,sw,u,rd,0,0,life,of,code,Sl.nil)else
  some (kind,sw,0,0,0,0,0,0,0,Sl.nil)
def C6:fZ:=⟨[(false,.x Y4)],[([.x Y4],[])],false,[],fun m=>me m⟩
theorem kZ{m r:wF}(h:uH Tryz.prog xa cX 3 76 (eT [(false,.x Y4)] (gU (eO [.x Y4]) m))=some (ja [.x Y4] (gU (eO [.x Y4]) r),[])):Go.Ev.xm Tryz.prog 76 (eT [(false,.x Y4)] (gU (eO [.x Y4]) m)) (ja [.x Y4] (gU (eO [.x Y4]) r)) []:=Ks K9 mz 3 76 _ _ _ h
set_option maxRecDepth 100000 in
theorem LH(sw u rd t1 t2 life of code:Int)(s:Sl (El Y3)):uH Tryz.prog xa cX 3 76 (eT [(false,.x Y4)] (gU (eO [.x Y4]) (((0:Int),sw,u,rd,t1,t2,life,of,code,s):wF)))=some (ja [.x Y4] (gU (eO [.x Y4]) (((0:Int),sw,0,0,0,0,0,0,0,Sl.nil):wF)),[]):=by kernel_rfl
set_option maxRecDepth 100000 in
theorem LG(sw u rd t1 t2 life of code:Int)(s:Sl (El Y3)):uH Tryz.prog xa cX 3 76 (eT [(false,.x Y4)] (gU (eO [.x Y4]) (((1:Int),sw,u,rd,t1,t2,life,of,code,s):wF)))=some (ja [.x Y4] (gU (eO [.x Y4]) (((1:Int),sw,0,0,t1,0,0,0,0,Sl.nil):wF)),[]):=by kernel_rfl
set_option maxRecDepth 100000 in
theorem LF(sw u rd t1 t2 life of code:Int)(s:Sl (El Y3)):uH Tryz.prog xa cX 3 76 (eT [(false,.x Y4)] (gU (eO [.x Y4]) (((2:Int),sw,u,rd,t1,t2,life,of,code,s):wF)))=some (ja [.x Y4] (gU (eO [.x Y4]) (((2:Int),sw,0,0,t1,t2,life,0,0,Sl.nil):wF)),[]):=by kernel_rfl
set_option maxRecDepth 100000 in
theorem LD(sw u rd t1 t2 life of code:Int)(s:Sl (El Y3)):uH Tryz.prog xa cX 3 76 (eT [(false,.x Y4)] (gU (eO [.x Y4]) (((3:Int),sw,u,rd,t1,t2,life,of,code,s):wF)))=some (ja [.x Y4] (gU (eO [.x Y4]) (((3:Int),sw,u,rd,0,0,0,0,0,s):wF)),[]):=by kernel_rfl
set_option maxRecDepth 100000 in
theorem LC(sw u rd t1 t2 life of code:Int)(s:Sl (El Y3)):uH Tryz.prog xa cX 3 76 (eT [(false,.x Y4)] (gU (eO [.x Y4]) (((4:Int),sw,u,rd,t1,t2,life,of,code,s):wF)))=some (ja [.x Y4] (gU (eO [.x Y4]) (((4:Int),sw,u,rd,0,t2,0,0,0,Sl.nil):wF)),[]):=by kernel_rfl
set_option maxRecDepth 100000 in
theorem LB(sw u rd t1 t2 life of code:Int)(s:Sl (El Y3)):uH Tryz.prog xa cX 3 76 (eT [(false,.x Y4)] (gU (eO [.x Y4]) (((5:Int),sw,u,rd,t1,t2,life,of,code,s):wF)))=some (ja [.x Y4] (gU (eO [.x Y4]) (((5:Int),sw,u,rd,0,0,0,0,0,Sl.nil):wF)),[]):=by kernel_rfl
set_option maxRecDepth 100000 in
theorem LA(sw u rd t1 t2 life of code:Int)(s:Sl (El Y3)):uH Tryz.prog xa cX 3 76 (eT [(false,.x Y4)] (gU (eO [.x Y4]) (((6:Int),sw,u,rd,t1,t2,life,of,code,s):wF)))=some (ja [.x Y4] (gU (eO [.x Y4]) (((6:Int),sw,u,0,0,0,0,0,code,Sl.nil):wF)),[]):=by kernel_rfl
set_option maxRecDepth 100000 in
theorem Lz(sw u rd t1 t2 life of code:Int)(s:Sl (El Y3)):uH Tryz.prog xa cX 3 76 (eT [(false,.x Y4)] (gU (eO [.x Y4]) (((7:Int),sw,u,rd,t1,t2,life,of,code,s):wF)))=some (ja [.x Y4] (gU (eO [.x Y4]) (((7:Int),sw,u,rd,0,0,life,of,0,Sl.nil):wF)),[]):=by kernel_rfl
set_option maxRecDepth 100000 in
theorem Ly(sw u rd t1 t2 life of code:Int)(s:Sl (El Y3)):uH Tryz.prog xa cX 3 76 (eT [(false,.x Y4)] (gU (eO [.x Y4]) (((8:Int),sw,u,rd,t1,t2,life,of,code,s):wF)))=some (ja [.x Y4] (gU (eO [.x Y4]) (((8:Int),sw,u,rd,0,0,life,of,code,Sl.nil):wF)),[]):=by kernel_rfl
set_option maxRecDepth 100000 in
theorem Lx(n:Nat)(sw u rd t1 t2 life of code:Int)(s:Sl (El Y3)):uH Tryz.prog xa cX 3 76 (eT [(false,.x Y4)] (gU (eO [.x Y4]) ((((Int.negSucc n):Int),sw,u,rd,t1,t2,life,of,code,s):wF)))=some (ja [.x Y4] (gU (eO [.x Y4]) ((((Int.negSucc n):Int),sw,0,0,0,0,0,0,0,Sl.nil):wF)),[]):=by kernel_rfl
set_option maxRecDepth 100000 in
theorem Jx(n:Nat)(sw u rd t1 t2 life of code:Int)(s:Sl (El Y3)):uH Tryz.prog xa cX 3 76 (eT [(false,.x Y4)] (gU (eO [.x Y4]) ((((Int.ofNat (n+9)):Int),sw,u,rd,t1,t2,life,of,code,s):wF)))=some (ja [.x Y4] (gU (eO [.x Y4]) ((((Int.ofNat (n+9)):Int),sw,0,0,0,0,0,0,0,Sl.nil):wF)),[]):=by kernel_rfl
theorem Ee(k:Int):k=1\/k=2\/k=3\/k=4\/k=5\/k=6\/k=7\/k=8\/k=0\/(∃n,k=Int.negSucc n)\/∃n,k=Int.ofNat (n+9):=by
 by_cases h:k<0
 .obtain ⟨n,rfl⟩:=Int.eq_negSucc_of_lt_zero h;simp
 .by_cases h9:k<9
  .omega
  .have:k=Int.ofNat ((k.toNat-9)+9):=by
    show k=(((k.toNat-9)+9:Nat):Int)
    omega
   exact .inr (.inr (.inr (.inr (.inr (.inr (.inr (.inr (.inr (.inr ⟨_,this⟩)))))))))
theorem Jw:bf Tryz.prog 76 C6:=by
 refine⟨by decide+kernel,fun p z hz=>?_⟩;obtain⟨kind,sw,u,rd,t1,t2,life,of,code,s⟩:=p;show Go.Ev.xm Tryz.prog 76 (eT [(false,.x Y4)] (gU (eO [.x Y4]) ((kind,sw,u,rd,t1,t2,life,of,code,s):wF))) (ja [.x Y4] (gU (eO [.x Y4]) (z:wF))) [];have hz:me (kind,sw,u,rd,t1,t2,life,of,code,s)=some z:=hz;rcases Ee kind with rfl|rfl|rfl|rfl|rfl|rfl|rfl|rfl|rfl|⟨n,rfl⟩|⟨n,rfl⟩
 .have e:me ((1:Int),sw,u,rd,t1,t2,life,of,code,s)=some ((1:Int),sw,0,0,t1,0,0,0,0,Sl.nil):=by kernel_rfl
  obtain rfl:=aa (e.symm.trans hz);exact kZ (LG sw u rd t1 t2 life of code s)
 .have e:me ((2:Int),sw,u,rd,t1,t2,life,of,code,s)=some ((2:Int),sw,0,0,t1,t2,life,0,0,Sl.nil):=by kernel_rfl
  obtain rfl:=aa (e.symm.trans hz);exact kZ (LF sw u rd t1 t2 life of code s)
 .have e:me ((3:Int),sw,u,rd,t1,t2,life,of,code,s)=some ((3:Int),sw,u,rd,0,0,0,0,0,s):=by kernel_rfl
  obtain rfl:=aa (e.symm.trans hz);exact kZ (LD sw u rd t1 t2 life of code s)
 .have e:me ((4:Int),sw,u,rd,t1,t2,life,of,code,s)=some ((4:Int),sw,u,rd,0,t2,0,0,0,Sl.nil):=by kernel_rfl
  obtain rfl:=aa (e.symm.trans hz);exact kZ (LC sw u rd t1 t2 life of code s)
 .have e:me ((5:Int),sw,u,rd,t1,t2,life,of,code,s)=some ((5:Int),sw,u,rd,0,0,0,0,0,Sl.nil):=by kernel_rfl
  obtain rfl:=aa (e.symm.trans hz);exact kZ (LB sw u rd t1 t2 life of code s)
 .have e:me ((6:Int),sw,u,rd,t1,t2,life,of,code,s)=some ((6:Int),sw,u,0,0,0,0,0,code,Sl.nil):=by kernel_rfl
  obtain rfl:=aa (e.symm.trans hz);exact kZ (LA sw u rd t1 t2 life of code s)
 .have e:me ((7:Int),sw,u,rd,t1,t2,life,of,code,s)=some ((7:Int),sw,u,rd,0,0,life,of,0,Sl.nil):=by kernel_rfl
  obtain rfl:=aa (e.symm.trans hz);exact kZ (Lz sw u rd t1 t2 life of code s)
 .have e:me ((8:Int),sw,u,rd,t1,t2,life,of,code,s)=some ((8:Int),sw,u,rd,0,0,life,of,code,Sl.nil):=by kernel_rfl
  obtain rfl:=aa (e.symm.trans hz);exact kZ (Ly sw u rd t1 t2 life of code s)
 .have e:me ((0:Int),sw,u,rd,t1,t2,life,of,code,s)=some ((0:Int),sw,0,0,0,0,0,0,0,Sl.nil):=by kernel_rfl
  obtain rfl:=aa (e.symm.trans hz);exact kZ (LH sw u rd t1 t2 life of code s)
 .have e:me (((Int.negSucc n):Int),sw,u,rd,t1,t2,life,of,code,s)=some (((Int.negSucc n):Int),sw,0,0,0,0,0,0,0,Sl.nil):=by kernel_rfl
  obtain rfl:=aa (e.symm.trans hz);exact kZ (Lx n sw u rd t1 t2 life of code s)
 .have e:me (((Int.ofNat (n+9)):Int),sw,u,rd,t1,t2,life,of,code,s)=some (((Int.ofNat (n+9)):Int),sw,0,0,0,0,0,0,0,Sl.nil):=by kernel_rfl
  obtain rfl:=aa (e.symm.trans hz);exact kZ (Jx n sw u rd t1 t2 life of code s)
end Go.Proofs.YtjjajcecekocdaaGreat.A
