/- The statement MeterSortsSaid: from the law's program to what is asked. Conditions: none. -/
import Derived.Test.YtingpmogbibghaaMC
import Derived.Test.YtingpmogbibghaaFit
import Derived.Test.YtingpmogbibghaaKm
import Derived.Test.YtingpmogbibghaaRows
import Derived.JoinedOf
import Derived.Handed
open Go.Ev Go
open Go.ChangeShapes Go.WideShapes Go.ChangeAt Go.RowKit
namespace Go.Proofs.Ytingpmogbibghaa.M
theorem Nt{H:Type}{en:TypeId×Value->H}{W:World}{args:Array Value}(ds gs:List (DataW H)){cV:List MemPlace}(hW:DataW.Whole en Try.prog Try.f5.params.toList Rows.meterSortsSpec.vars false W args.toList ds gs cV):
  (Rows.meterSortsSpec.fn H (ds++gs)).results=[.lit (.bool true)]/\(Rows.meterSortsSpec.fn H (ds++gs)).args=ds/\(Rows.meterSortsSpec.fn H (ds++gs)).vars=[]:=by
 obtain⟨p,q,hA0,hV,_⟩:=hW;have hA:DataW.TrodAll en Try.prog W 0 (fun _=>true) true Try.f5.params.toList args.toList ds p:=hA0;rw[Try.params5]at hA;obtain⟨v0,vs0,d0,ds0,p0,q0,_,rfl,rfl,h0,r0⟩:=trodAll_cons hA;obtain⟨v1,vs1,d1,ds1,p1,q1,_,rfl,rfl,h1,r1⟩:=trodAll_cons r0;obtain⟨_,rfl,rfl⟩:=trodAll_nil r1;obtain⟨rfl,rfl⟩:=trodVars_none hV;exact⟨rfl,rfl,rfl⟩
set_option maxRecDepth 100000 in
theorem M6(H:Type)(en:TypeId×Value->H)(W:World)(aF:Nat)(args:Array Value)(ds gs:List (DataW H))(cV:List MemPlace)
  (hval:∀(j:Nat)t v,Try.f5.params[j]?=some t->args[j]?=some v->Value.okWide Try.prog W .any aF t v)
  (hW:DataW.Whole en Try.prog Try.f5.params.toList Rows.meterSortsSpec.vars false W args.toList ds gs cV):
  Calls Try.prog 5 args W fun e W'=>∃v,e=.returned v/\Rows.meterSortsSpec.post en Try.prog Try.f5 false true false false W args v W':=
 Bb (by kernel_rfl) Try.func5 rfl (by kernel_rfl) (by kernel_rfl) rfl Try.underlying4 rfl hW
  (Nt ds gs hW) (AS fun _=>rfl) hval (tys:=[(.sl (.i .u64)),(.i .u64)]) (by kernel_rfl) (by kernel_rfl) P3 (fun p hfit=>Ox p.1 p.2 (pK hfit rfl).1.2 (pK ((pK hfit rfl).2) rfl).1)
theorem NL:ownKnob Try.prog.godebug=none:=by kernel_rfl
set_option maxRecDepth 100000 in
theorem Ng(os:Os)(started:os.Started)(H:Type)(en:TypeId×Value->H):
  ReturnsInHanded {} Try.checked os 5 .any (Rows.meterSortsSpec.pre6 en Try.prog Try.f5 Rows.meterSortsRow.domain false) (Rows.meterSortsSpec.post en Try.prog Try.f5 false true false false):=by
 refine returnsInHanded_of_change (C:=Try.checked) NL started (by kernel_rfl) Try.func5
  (ChangeSpec.witness6 (enc:=en) (C:=Try.checked) false ⟨#[], #[(.slice none 0 0),(.int .u64 0)],[]⟩ 8 (by kernel_rfl) (by kernel_rfl) (by kernel_rfl) (by kernel_rfl)) ?_
 intro W aF args ds gs cV hval hW _ _;exact M6 H en W aF args ds gs cV hval hW
theorem meterSorts_holds:Rows.MeterSortsSaid:=
 OpenClaim.holds_of_wide 5 Try.f5 rfl rfl rfl rfl rfl rfl rfl ⟨rfl,rfl,rfl,rfl,rfl⟩ rfl rfl rfl rfl rfl (by kernel_rfl) Try.func5 (by kernel_rfl)
  (of_decide_eq_true (by kernel_rfl)) (by unfold Func.isWrapper;first|(rw[if_pos (by decide+kernel)];kernel_rfl)|(rw[if_neg (by decide+kernel)];exact⟨rfl,rfl⟩))
  (fun os started H en _=>Ng os started H en)
#print axioms meterSorts_holds
end Go.Proofs.Ytingpmogbibghaa.M
