/- Cut and Split at one byte: the walks. Conditions: strings below 2^32. -/
import Derived.Test.YtbcmbckpebpijaaDoorCsh
open ByteArray renaming empty->fo
open Nat renaming le_refl->ak
namespace Go.Proofs.YtbcmbckpebpijaaDoor.C
open Go Go.Proofs Go.RowKit Go.Shelf Go.Lib
def qm(s:ByteArray)(c:UInt8):ByteArray×ByteArray×Bool:=if Lib.indexByte s.data.toList c=-1 then(s,fo,false)else(s.extract 0 (Lib.indexByte s.data.toList c).toNat,s.extract ((Lib.indexByte s.data.toList c).toNat+1) s.size,true)
theorem ot(s:ByteArray)(c:UInt8):Lib.indexB s ⟨#[c]⟩=Lib.indexByte s.data.toList c:=Lib.index_one _ _
set_option maxHeartbeats 2000000 in
set_option maxRecDepth 100000 in
theorem EF(s:ByteArray)(c:UInt8)(w:World)(hs:s.size<4294967281):
  Calls Tryd.prog 34 #[.string s,.string ⟨#[c]⟩] w fun e w'=>e=.returned (.tuple #[.string (qm s c).1,.string (qm s c).2.1,.bool (qm s c).2.2])/\∃n,w'=w.drewN n:=by
 have hI:∀w,Calls Tryd.prog 40 #[.string s,.string ⟨#[c]⟩] w fun e w'=>e=.returned (.int .i64 (Lib.indexByte s.data.toList c))/\w'=w:=Any.stringslite_Index_one Km s c;have mixed:Tryd.prog.follows .mixedOrders=true:=by kernel_rfl
 rcases Lib.indexB_cases s ⟨#[c]⟩with hix|⟨i,hix,hroom⟩
 .rw [ot]at hix;unfold qm;rw[if_pos hix];rw[hix]at hI
  go_enter Tryd.func34,Tryd.ntmps34
  go_wp2_with (go_at_call 40;refine(hI _).mono ?_;rintro e w' ⟨rfl,rfl⟩)
  go_ret3
  exact⟨rfl,0,rfl⟩
 .rw [ot]at hix;have hroom:i+1<=s.size:=hroom;unfold qm;rw[hix,if_neg (by omega),show((i:Int)).toNat=i from rfl];rw[hix]at hI;have c1:(0:Int)<=↑i:=by omega
  have c2:(↑i:Int)<=↑s.size:=by omega
  have c3:(0:Int)<=↑i+1:=by omega
  have c4:(↑i+1:Int)<=↑s.size:=by omega
  go_enter Tryd.func34,Tryd.ntmps34
  go_wp2_with (go_at_call 40;refine(hI _).mono ?_;rintro e w' ⟨rfl,rfl⟩)
  go_region_o
  go_wp2
  go_ret3
  exact⟨rfl,1,rfl⟩
set_option maxHeartbeats 1000000 in
theorem wS(s:ByteArray)(c:UInt8)(w:World)(hs:s.size<4294967281):
  Calls Tryd.prog 25 #[.string s,.string ⟨#[c]⟩] w fun e w'=>e=.returned (.tuple #[.string (qm s c).1,.string (qm s c).2.1,.bool (qm s c).2.2])/\∃n,w'=w.drewN n:=by
 have mixed:Tryd.prog.follows .mixedOrders=true:=by kernel_rfl
 go_enter Tryd.func25,Tryd.ntmps25
 go_wp2_with (go_at_call 34;refine(EF s c _ hs).mono ?_;rintro e w' ⟨rfl,n,rfl⟩)
 go_ret3
 exact⟨rfl,n,rfl⟩
theorem LR:(Tryd.prog.info? 9).map (fun i=>(i.zero,i.size,i.bytes))=some (some (.string fo),1,16):=by kernel_rfl
set_option maxHeartbeats 1000000 in
theorem CL(s:ByteArray)(c:UInt8)(w:World)(hs:s.size<4294967281):
  Calls Tryd.prog 35 #[.string s,.string ⟨#[c]⟩] w fun e w'=>e=.returned (.slice (some ⟨w.heap.size,0,none⟩) (s.data.toList.count c+1) (s.data.toList.count c+1))/\w'=w.alloc (.cells ((Lib.splitB ⟨#[c]⟩ 0 (s.data.toList.count c) s).map Value.string).toArray 9):=by
 have h1:1<=(⟨#[c]⟩:ByteArray).size:=ak 1;have hcb:Lib.countB s ⟨#[c]⟩=s.data.toList.count c:=Lib.count_one _ _;have hle:=Lib.countB_le ⟨#[c]⟩ h1 s.size s (ak _);have hlen:=Lib.splitB_all ⟨#[c]⟩ h1 0 _ s rfl
 have cc:=Any.strings_genSplit_core JC LR s ⟨#[c]⟩ 0 (-1) (Lib.countB s ⟨#[c]⟩+1) w hs h1 (Nat.zero_le _)
  (fun x cs _=>by rw[ot];exact Any.strings_Index_one Ig x c _)
  (by rw[hcb];exact Any.strings_Count_one KO s c w) (by decide) (by decide) (by rw[if_pos (by decide)];omega)
 rw[Nat.add_sub_cancel,hlen]at cc;have e2:Lib.cellsOf (Lib.splitB ⟨#[c]⟩ 0 (Lib.countB s ⟨#[c]⟩) s) (Lib.countB s ⟨#[c]⟩+1)=((Lib.splitB ⟨#[c]⟩ 0 (Lib.countB s ⟨#[c]⟩) s).map Value.string).toArray:=by rw[<-hlen];exact Lib.cellsOf_full _
 rw[e2,hcb]at cc;have cc:Calls Tryd.prog 42 #[.string s,.string ⟨#[c]⟩,.int .i64 0,.int .i64 (-1)] w _:=cc;generalize s.data.toList.count c=k at cc|-
 go_enter Tryd.func35,Tryd.ntmps35
 go_wp2_with (go_at_call 42;refine cc.mono ?_;rintro e w' ⟨rfl,hw⟩;rw[hw])
 go_ret
 exact⟨rfl,rfl⟩
end Go.Proofs.YtbcmbckpebpijaaDoor.C
