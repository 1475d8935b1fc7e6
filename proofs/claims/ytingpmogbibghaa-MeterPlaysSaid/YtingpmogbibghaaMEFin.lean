/- The statement MeterPlaysSaid: from the law's program to what is asked. Conditions: none. -/
import Derived.Test.YtingpmogbibghaaME
import Derived.Test.YtingpmogbibghaaFit
import Derived.Test.YtingpmogbibghaaKm
import Derived.Test.YtingpmogbibghaaRows
import Derived.JoinedOf
import Derived.Handed
open Go.Ev Go
open Go.ChangeShapes Go.WideShapes Go.ChangeAt Go.RowKit
namespace Go.Proofs.Ytingpmogbibghaa.M
theorem pB{H:Type}{en:TypeId×Value->H}{W:World}{args:Array Value}(ds gs:List (DataW H)){cV:List MemPlace}(hW:DataW.Whole en Try.prog Try.f6.params.toList Rows.meterPlaysSpec.vars false W args.toList ds gs cV):
  (Rows.meterPlaysSpec.fn H (ds++gs)).results=[.lit (.bool true)]/\(Rows.meterPlaysSpec.fn H (ds++gs)).args=ds/\(Rows.meterPlaysSpec.fn H (ds++gs)).vars=[]:=by
 obtain⟨p,q,hA0,hV,_⟩:=hW;have hA:DataW.TrodAll en Try.prog W 0 (fun _=>true) true Try.f6.params.toList args.toList ds p:=hA0;rw[Try.params6]at hA;obtain⟨v0,vs0,d0,ds0,p0,q0,_,rfl,rfl,h0,r0⟩:=trodAll_cons hA;obtain⟨v1,vs1,d1,ds1,p1,q1,_,rfl,rfl,h1,r1⟩:=trodAll_cons r0;obtain⟨_,rfl,rfl⟩:=trodAll_nil r1;obtain⟨rfl,rfl⟩:=trodVars_none hV;exact⟨rfl,rfl,rfl⟩
set_option maxRecDepth 100000 in
theorem l9(H:Type)(en:TypeId×Value->H)(W:World)(aF:Nat)(args:Array Value)(ds gs:List (DataW H))(cV:List MemPlace)
  (hval:∀(j:Nat)t v,Try.f6.params[j]?=some t->args[j]?=some v->Value.okWide Try.prog W .any aF t v)
  (hW:DataW.Whole en Try.prog Try.f6.params.toList Rows.meterPlaysSpec.vars false W args.toList ds gs cV):
  Calls Try.prog 6 args W fun e W'=>∃v,e=.returned v/\Rows.meterPlaysSpec.post en Try.prog Try.f6 false true false false W args v W':=
 Bb (by kernel_rfl) Try.func6 rfl (by kernel_rfl) (by kernel_rfl) rfl Try.underlying4 rfl hW
  (pB ds gs hW) (AS fun _=>rfl) hval (tys:=[(.i .u64),(.sl y2)]) (by kernel_rfl) (by kernel_rfl) U5 (fun p hfit=>B1 p.1 p.2 (pK hfit rfl).1 (UM (pK ((pK hfit rfl).2) rfl).1))
theorem s6:ownKnob Try.prog.godebug=none:=by kernel_rfl
set_option maxRecDepth 100000 in
theorem n4(os:Os)(started:os.Started)(H:Type)(en:TypeId×Value->H):
  ReturnsInHanded {} Try.checked os 6 .any (Rows.meterPlaysSpec.pre6 en Try.prog Try.f6 Rows.meterPlaysRow.domain false) (Rows.meterPlaysSpec.post en Try.prog Try.f6 false true false false):=by
 refine returnsInHanded_of_change (C:=Try.checked) s6 started (by kernel_rfl) Try.func6
  (ChangeSpec.witness6 (enc:=en) (C:=Try.checked) false ⟨#[], #[(.int .u64 0),(.slice none 0 0)],[]⟩ 8 (by kernel_rfl) (by kernel_rfl) (by kernel_rfl) (by kernel_rfl)) ?_
 intro W aF args ds gs cV hval hW _ _;exact l9 H en W aF args ds gs cV hval hW
theorem meterPlays_holds:Rows.MeterPlaysSaid:=
 OpenClaim.holds_of_wide 6 Try.f6 rfl rfl rfl rfl rfl rfl rfl ⟨rfl,rfl,rfl,rfl,rfl⟩ rfl rfl rfl rfl rfl (by kernel_rfl) Try.func6 (by kernel_rfl)
  (of_decide_eq_true (by kernel_rfl)) (by unfold Func.isWrapper;first|(rw[if_pos (by decide+kernel)];kernel_rfl)|(rw[if_neg (by decide+kernel)];exact⟨rfl,rfl⟩))
  (fun os started H en _=>n4 os started H en)
#print axioms meterPlays_holds
end Go.Proofs.Ytingpmogbibghaa.M
