/- A world in which the package-level variables read as the rows say. Conditions: none. -/
import Derived.Test.YtbcmbckpebpijaaDoorCg
import Derived.ProofKit
import Derived.Lib.LaidIn
import Derived.Lib.LaidTab
import Derived.Deep.DeepHandedRow
open Go.Ev Go
open Go.ChangeShapes Go.WideShapes Go.ChangeAt Go.RowKit
noncomputable section
namespace Go.Proofs.YtbcmbckpebpijaaDoor.C
theorem bf:ownKnob Tryd.prog.godebug=none:=by kernel_rfl
def wZ(l:List Int):Array Value:=(l.map fun z=>Value.int .u8 z).toArray
def lh(os:Os):World:=
 let N:=(World.settled Tryd.prog os).heap.size;let w0:=World.holding Tryd.prog os ⟨#[.cells #[.string ⟨#[118,97,108,117,101,32,111,117,116,32,111,102,32,114,97,110,103,101]⟩] 114,.cells #[.string ⟨#[105,110,118,97,108,105,100,32,115,121,110,116,97,120]⟩] 114], #[],[]⟩
 let put (h:Array Obj) (g:Nat) (cs:Array Value):Array Obj:=h.modify g fun
  |.cells _ t frozen=>.cells cs t frozen
  |o=>o
 let h1:=put w0.heap 4 (wZ [0,1,28,2,29,14,24,3,30,22,20,15,25,17,4,8,31,27,13,23,21,19,16,7,26,12,18,6,11,5,10,9]);let h2:=put h1 5 (wZ [0,1,56,2,57,49,28,3,61,58,42,50,38,29,17,4,62,47,59,36,45,43,51,22,53,39,33,30,24,18,12,5,63,55,48,27,60,41,37,16,46,35,44,21,52,32,23,11,54,26,40,15,34,20,31,10,25,14,19,9,13,8,7,6]);let h3:=put h2 1 (Lib.pow10Tab.map fun z=>Value.int .u64 z).toArray;let h4:=put h3 7 (wZ [128,191,160,191,128,159,144,191,128,143,0,0,0,0,0,0,0,0,0,0,0,0,0,0,0,0,0,0,0,0,0,0]);let h5:=put h4 3 #[.iface 112 (.pointer (some ⟨N,0,none⟩))];let h6:=put h5 2 #[.iface 112 (.pointer (some ⟨N+1,0,none⟩))];let h7:=put h6 6 (wZ (Pinned.utf8FirstZ.map Int.ofNat))
 {w0 with heap:=h7}
abbrev N0:Nat:=(World.settled Tryd.prog default).heap.size
theorem JR(os:Os)(args:Array Value):LaidIn Tryd.prog ((lh os).forCall (fun _ _=>0) ⟨#[],args,[]⟩).memory (Rows.scriptTellsRow.laid.take 3) [4,5,1]:=LaidIn.of_run [4,5,1] 8 (by kernel_rfl) (by kernel_rfl) (by kernel_rfl) (by kernel_rfl)
theorem JQ(os:Os)(args:Array Value):LaidIn Tryd.prog ((lh os).forCall (fun _ _=>0) ⟨#[],args,[]⟩).memory ((Rows.scriptTellsRow.laid.drop 3).take 3) [7,3,N0,2,N0+1]:=LaidIn.of_run [7,3,N0,2,N0+1] 8 (by kernel_rfl) (by kernel_rfl) (by kernel_rfl) (by kernel_rfl)
theorem JP(os:Os)(args:Array Value):LaidIn Tryd.prog ((lh os).forCall (fun _ _=>0) ⟨#[],args,[]⟩).memory (Rows.scriptTellsRow.laid.drop 6) [6]:=LaidIn.of_run [6] 8 (by kernel_rfl) (by kernel_rfl) (by kernel_rfl) (by kernel_rfl)
theorem FA(os:Os)(args:Array Value):laidMet Tryd.prog Rows.scriptTellsRow.laid ((lh os).forCall (fun _ _=>0) ⟨#[],args,[]⟩).memory:=(((JR os args).append (JQ os args) (by kernel_rfl)).append (JP os args) (by kernel_rfl)).met
end Go.Proofs.YtbcmbckpebpijaaDoor.C
