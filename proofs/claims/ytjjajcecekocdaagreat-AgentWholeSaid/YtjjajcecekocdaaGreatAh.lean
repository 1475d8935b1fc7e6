/- Functions shown by hand: what the second layer does not print. Conditions: none. -/
import Derived.Test.YtjjajcecekocdaaGreatKm
import Derived.Test.YtjjajcecekocdaaGreatRn
import Derived.Test.YtjjajcecekocdaaGreatKr
import Derived.Shelf.SlIterI.Nil
import Derived.Shelf.SortM.Plain
import Derived.Shelf.SortM.SortNone
import Derived.Test.YtjjajcecekocdaaGreatChecked
import Derived.KernelRfl
open Option.some renaming inj->aa
open Go.Ev Go
noncomputable section
namespace Go.Proofs.YtjjajcecekocdaaGreat.A
theorem HT:Tryz.prog.follows .mixedOrders=true:=by kernel_rfl
@[reducible] def Y1:Ty:=.st (.pr (.i .i64) (.pr (.ar 4 (.i .i64)) (.ar 4 (.i .i64))))
@[reducible] def Y2:Ty:=.st (.pr (.i .i64) (.pr (.i .i64) (.i .i64)))
@[reducible] def Y0:Ty:=.st (.pr (.i .i64) (.pr Y1 (.sl Y2)))
@[reducible] def Y3:Ty:=.st (.pr (.i .i64) (.pr Y0 .b))
@[reducible] def Y4:Ty:=.st (.pr (.i .i64) (.pr (.i .i64) (.pr (.i .i64) (.pr (.i .i64) (.pr (.i .i64) (.pr (.i .i64) (.pr (.i .i64) (.pr (.i .i64) (.pr (.i .i64) (.sl Y3))))))))))
def w9:ww:=fun f=>if f=73 then(true,[])else if f=76 then(true,[])else if f=1000000002 then(true,[])else(false,[])
abbrev xr:Type:=Int×Int×Int×Int×Int×Int×Int×Int×Int×Sl (El Y3)
def mW:xr->Option xr
 |(kind,sw,u,rd,t1,t2,cz,of,code,s)=>
  bif kind==1 then some (kind,sw,0,0,t1,0,0,0,0,Sl.nil)else
  bif kind==2 then some (kind,sw,0,0,t1,t2,cz,0,0,Sl.nil)else
  bif kind==3 then some (kind,sw,u,rd,0,0,0,0,0,s)else
  bif kind==4 then some (kind,sw,u,rd,0,t2,0,0,0,Sl.nil)else
  bif kind==5 then some (kind,sw,u,rd,0,0,0,0,0,Sl.nil)else
  bif kind==6 then some (kind,sw,u,0,0,0,0,0,code,Sl.nil)else
  bif kind==7 then some (kind,sw,u,rd,0,0,cz,of,0,Sl.nil)else
  bif kind==8 then some (kind,sw,u,rd,0,0,cz,of,code,Sl.nil)else
  some (kind,sw,0,0,0,0,0,0,0,Sl.nil)
def EO:fJ:=⟨[(false,.x Y4)],[([.x Y4],[])],false,[],fun m=>mW m⟩
theorem lK{m r:xr}(h:tJ Tryz.prog w9 dF 3 76 (fw [(false,.x Y4)] (iB (ff [.x Y4]) m))=some (jz [.x Y4] (iB (ff [.x Y4]) r),[])):Go.Ev.yf Tryz.prog 76 (fw [(false,.x Y4)] (iB (ff [.x Y4]) m)) (jz [.x Y4] (iB (ff [.x Y4]) r)) []:=BR HT lV 3 76 _ _ _ h
set_option maxRecDepth 100000 in
theorem PK(sw u rd t1 t2 cz of code:Int)(s:Sl (El Y3)):tJ Tryz.prog w9 dF 3 76 (fw [(false,.x Y4)] (iB (ff [.x Y4]) (((0:Int),sw,u,rd,t1,t2,cz,of,code,s):xr)))=some (jz [.x Y4] (iB (ff [.x Y4]) (((0:Int),sw,0,0,0,0,0,0,0,Sl.nil):xr)),[]):=by kernel_rfl
set_option maxRecDepth 100000 in
theorem PJ(sw u rd t1 t2 cz of code:Int)(s:Sl (El Y3)):tJ Tryz.prog w9 dF 3 76 (fw [(false,.x Y4)] (iB (ff [.x Y4]) (((1:Int),sw,u,rd,t1,t2,cz,of,code,s):xr)))=some (jz [.x Y4] (iB (ff [.x Y4]) (((1:Int),sw,0,0,t1,0,0,0,0,Sl.nil):xr)),[]):=by kernel_rfl
set_option maxRecDepth 100000 in
theorem PI(sw u rd t1 t2 cz of code:Int)(s:Sl (El Y3)):tJ Tryz.prog w9 dF 3 76 (fw [(false,.x Y4)] (iB (ff [.x Y4]) (((2:Int),sw,u,rd,t1,t2,cz,of,code,s):xr)))=some (jz [.x Y4] (iB (ff [.x Y4]) (((2:Int),sw,0,0,t1,t2,cz,0,0,Sl.nil):xr)),[]):=by kernel_rfl
set_option maxRecDepth 100000 in
theorem PH(sw u rd t1 t2 cz of code:Int)(s:Sl (El Y3)):tJ Tryz.prog w9 dF 3 76 (fw [(false,.x Y4)] (iB (ff [.x Y4]) (((3:Int),sw,u,rd,t1,t2,cz,of,code,s):xr)))=some (jz [.x Y4] (iB (ff [.x Y4]) (((3:Int),sw,u,rd,0,0,0,0,0,s):xr)),[]):=by kernel_rfl
set_option maxRecDepth 100000 in
theorem PG(sw u rd t1 t2 cz of code:Int)(s:Sl (El Y3)):tJ Tryz.prog w9 dF 3 76 (fw [(false,.x Y4)] (iB (ff [.x Y4]) (((4:Int),sw,u,rd,t1,t2,cz,of,code,s):xr)))=some (jz [.x Y4] (iB (ff [.x Y4]) (((4:Int),sw,u,rd,0,t2,0,0,0,Sl.nil):xr)),[]):=by kernel_rfl
set_option maxRecDepth 100000 in
theorem PF(sw u rd t1 t2 cz of code:Int)(s:Sl (El Y3)):tJ Tryz.prog w9 dF 3 76 (fw [(false,.x Y4)] (iB (ff [.x Y4]) (((5:Int),sw,u,rd,t1,t2,cz,of,code,s):xr)))=some (jz [.x Y4] (iB (ff [.x Y4]) (((5:Int),sw,u,rd,0,0,0,0,0,Sl.nil):xr)),[]):=by kernel_rfl
set_option maxRecDepth 100000 in
theorem PE(sw u rd t1 t2 cz of code:Int)(s:Sl (El Y3)):tJ Tryz.prog w9 dF 3 76 (fw [(false,.x Y4)] (iB (ff [.x Y4]) (((6:Int),sw,u,rd,t1,t2,cz,of,code,s):xr)))=some (jz [.x Y4] (iB (ff [.x Y4]) (((6:Int),sw,u,0,0,0,0,0,code,Sl.nil):xr)),[]):=by kernel_rfl
set_option maxRecDepth 100000 in
theorem PD(sw u rd t1 t2 cz of code:Int)(s:Sl (El Y3)):tJ Tryz.prog w9 dF 3 76 (fw [(false,.x Y4)] (iB (ff [.x Y4]) (((7:Int),sw,u,rd,t1,t2,cz,of,code,s):xr)))=some (jz [.x Y4] (iB (ff [.x Y4]) (((7:Int),sw,u,rd,0,0,cz,of,0,Sl.nil):xr)),[]):=by kernel_rfl
set_option maxRecDepth 100000 in
theorem PC(sw u rd t1 t2 cz of code:Int)(s:Sl (El Y3)):tJ Tryz.prog w9 dF 3 76 (fw [(false,.x Y4)] (iB (ff [.x Y4]) (((8:Int),sw,u,rd,t1,t2,cz,of,code,s):xr)))=some (jz [.x Y4] (iB (ff [.x Y4]) (((8:Int),sw,u,rd,0,0,cz,of,code,Sl.nil):xr)),[]):=by kernel_rfl
set_option maxRecDepth 100000 in
theorem PB(n:Nat)(sw u rd t1 t2 cz of code:Int)(s:Sl (El Y3)):tJ Tryz.prog w9 dF 3 76 (fw [(false,.x Y4)] (iB (ff [.x Y4]) ((((Int.negSucc n):Int),sw,u,rd,t1,t2,cz,of,code,s):xr)))=some (jz [.x Y4] (iB (ff [.x Y4]) ((((Int.negSucc n):Int),sw,0,0,0,0,0,0,0,Sl.nil):xr)),[]):=by kernel_rfl
set_option maxRecDepth 100000 in
theorem MR(n:Nat)(sw u rd t1 t2 cz of code:Int)(s:Sl (El Y3)):tJ Tryz.prog w9 dF 3 76 (fw [(false,.x Y4)] (iB (ff [.x Y4]) ((((Int.ofNat (n+9)):Int),sw,u,rd,t1,t2,cz,of,code,s):xr)))=some (jz [.x Y4] (iB (ff [.x Y4]) ((((Int.ofNat (n+9)):Int),sw,0,0,0,0,0,0,0,Sl.nil):xr)),[]):=by kernel_rfl
theorem zC(k:Int):k=1\/k=2\/k=3\/k=4\/k=5\/k=6\/k=7\/k=8\/k=0\/(∃n,k=Int.negSucc n)\/∃n,k=Int.ofNat (n+9):=by
 by_cases h:k<0
 .obtain ⟨n,rfl⟩:=Int.eq_negSucc_of_lt_zero h;simp
 .by_cases h9:k<9
  .omega
  .have:k=Int.ofNat ((k.toNat-9)+9):=by
    show k=(((k.toNat-9)+9:Nat):Int)
    omega
   exact .inr (.inr (.inr (.inr (.inr (.inr (.inr (.inr (.inr (.inr ⟨_,this⟩)))))))))
theorem MQ:bf Tryz.prog 76 EO:=by
 refine⟨by decide+kernel,fun p z hz=>?_⟩;obtain⟨kind,sw,u,rd,t1,t2,cz,of,code,s⟩:=p;show Go.Ev.yf Tryz.prog 76 (fw [(false,.x Y4)] (iB (ff [.x Y4]) ((kind,sw,u,rd,t1,t2,cz,of,code,s):xr))) (jz [.x Y4] (iB (ff [.x Y4]) (z:xr))) [];have hz:mW (kind,sw,u,rd,t1,t2,cz,of,code,s)=some z:=hz;rcases zC kind with rfl|rfl|rfl|rfl|rfl|rfl|rfl|rfl|rfl|⟨n,rfl⟩|⟨n,rfl⟩
 .have e:mW ((1:Int),sw,u,rd,t1,t2,cz,of,code,s)=some ((1:Int),sw,0,0,t1,0,0,0,0,Sl.nil):=by kernel_rfl
  obtain rfl:=aa (e.symm.trans hz);exact lK (PJ sw u rd t1 t2 cz of code s)
 .have e:mW ((2:Int),sw,u,rd,t1,t2,cz,of,code,s)=some ((2:Int),sw,0,0,t1,t2,cz,0,0,Sl.nil):=by kernel_rfl
  obtain rfl:=aa (e.symm.trans hz);exact lK (PI sw u rd t1 t2 cz of code s)
 .have e:mW ((3:Int),sw,u,rd,t1,t2,cz,of,code,s)=some ((3:Int),sw,u,rd,0,0,0,0,0,s):=by kernel_rfl
  obtain rfl:=aa (e.symm.trans hz);exact lK (PH sw u rd t1 t2 cz of code s)
 .have e:mW ((4:Int),sw,u,rd,t1,t2,cz,of,code,s)=some ((4:Int),sw,u,rd,0,t2,0,0,0,Sl.nil):=by kernel_rfl
  obtain rfl:=aa (e.symm.trans hz);exact lK (PG sw u rd t1 t2 cz of code s)
 .have e:mW ((5:Int),sw,u,rd,t1,t2,cz,of,code,s)=some ((5:Int),sw,u,rd,0,0,0,0,0,Sl.nil):=by kernel_rfl
  obtain rfl:=aa (e.symm.trans hz);exact lK (PF sw u rd t1 t2 cz of code s)
 .have e:mW ((6:Int),sw,u,rd,t1,t2,cz,of,code,s)=some ((6:Int),sw,u,0,0,0,0,0,code,Sl.nil):=by kernel_rfl
  obtain rfl:=aa (e.symm.trans hz);exact lK (PE sw u rd t1 t2 cz of code s)
 .have e:mW ((7:Int),sw,u,rd,t1,t2,cz,of,code,s)=some ((7:Int),sw,u,rd,0,0,cz,of,0,Sl.nil):=by kernel_rfl
  obtain rfl:=aa (e.symm.trans hz);exact lK (PD sw u rd t1 t2 cz of code s)
 .have e:mW ((8:Int),sw,u,rd,t1,t2,cz,of,code,s)=some ((8:Int),sw,u,rd,0,0,cz,of,code,Sl.nil):=by kernel_rfl
  obtain rfl:=aa (e.symm.trans hz);exact lK (PC sw u rd t1 t2 cz of code s)
 .have e:mW ((0:Int),sw,u,rd,t1,t2,cz,of,code,s)=some ((0:Int),sw,0,0,0,0,0,0,0,Sl.nil):=by kernel_rfl
  obtain rfl:=aa (e.symm.trans hz);exact lK (PK sw u rd t1 t2 cz of code s)
 .have e:mW (((Int.negSucc n):Int),sw,u,rd,t1,t2,cz,of,code,s)=some (((Int.negSucc n):Int),sw,0,0,0,0,0,0,0,Sl.nil):=by kernel_rfl
  obtain rfl:=aa (e.symm.trans hz);exact lK (PB n sw u rd t1 t2 cz of code s)
 .have e:mW (((Int.ofNat (n+9)):Int),sw,u,rd,t1,t2,cz,of,code,s)=some (((Int.ofNat (n+9)):Int),sw,0,0,0,0,0,0,0,Sl.nil):=by kernel_rfl
  obtain rfl:=aa (e.symm.trans hz);exact lK (MR n sw u rd t1 t2 cz of code s)
def YM:Go.Ev.Call:=fun f xs=>bif f==76 then tJ Tryz.prog w9 dF 3 76 xs else none
theorem Sc:kE Tryz.prog YM:=fun f xs rs outs h=>by
 unfold YM at h;cases e:(f==76)with
 |false=>rw[e]at h;cases h
 |true=>
  rw[e,cond_true]at h;obtain rfl:f=76:=by simpa using e
  exact BR HT lV 3 76 xs rs outs h
end Go.Proofs.YtjjajcecekocdaaGreat.A
