/- The statement MeterBetweenSaid: from the law's program to what is asked. Conditions: none. -/
import Derived.Test.YtingpmogbibghaaMD
import Derived.Test.YtingpmogbibghaaFit
import Derived.Test.YtingpmogbibghaaKm
import Derived.Test.YtingpmogbibghaaRows
import Derived.JoinedOf
import Derived.Handed
open Go.Ev Go
open Go.ChangeShapes Go.WideShapes Go.ChangeAt Go.RowKit
namespace Go.Proofs.Ytingpmogbibghaa.M
theorem KC{H:Type}{en:TypeId×Value->H}{W:World}{args:Array Value}(ds gs:List (DataW H)){cV:List MemPlace}(hW:DataW.Whole en Try.prog Try.f3.params.toList Rows.meterBetweenSpec.vars false W args.toList ds gs cV):
  (Rows.meterBetweenSpec.fn H (ds++gs)).results=[.lit (.bool true)]/\(Rows.meterBetweenSpec.fn H (ds++gs)).args=ds/\(Rows.meterBetweenSpec.fn H (ds++gs)).vars=[]:=by
 obtain⟨p,q,hA0,hV,_⟩:=hW;have hA:DataW.TrodAll en Try.prog W 0 (fun _=>true) true Try.f3.params.toList args.toList ds p:=hA0;rw[Try.params3]at hA;obtain⟨v0,vs0,d0,ds0,p0,q0,_,rfl,rfl,h0,r0⟩:=trodAll_cons hA;obtain⟨v1,vs1,d1,ds1,p1,q1,_,rfl,rfl,h1,r1⟩:=trodAll_cons r0;obtain⟨v2,vs2,d2,ds2,p2,q2,_,rfl,rfl,h2,r2⟩:=trodAll_cons r1;obtain⟨_,rfl,rfl⟩:=trodAll_nil r2;obtain⟨rfl,rfl⟩:=trodVars_none hV;exact⟨rfl,rfl,rfl⟩
set_option maxRecDepth 100000 in
theorem Ku(H:Type)(en:TypeId×Value->H)(W:World)(aF:Nat)(args:Array Value)(ds gs:List (DataW H))(cV:List MemPlace)
  (hval:∀(j:Nat)t v,Try.f3.params[j]?=some t->args[j]?=some v->Value.okWide Try.prog W .any aF t v)
  (hW:DataW.Whole en Try.prog Try.f3.params.toList Rows.meterBetweenSpec.vars false W args.toList ds gs cV):
  Calls Try.prog 3 args W fun e W'=>∃v,e=.returned v/\Rows.meterBetweenSpec.post en Try.prog Try.f3 false true false false W args v W':=
 Bb (by kernel_rfl) Try.func3 rfl (by kernel_rfl) (by kernel_rfl) rfl Try.underlying4 rfl hW
  (KC ds gs hW) (AS fun _=>rfl) hval (tys:=[(.i .u64),(.i .u64),(.i .u64)]) (by kernel_rfl) (by kernel_rfl) Lw (fun p hfit=>KT p.1 p.2.1 p.2.2 (pK hfit rfl).1 (pK ((pK hfit rfl).2) rfl).1 (pK ((pK ((pK hfit rfl).2) rfl).2) rfl).1)
theorem KE:ownKnob Try.prog.godebug=none:=by kernel_rfl
set_option maxRecDepth 100000 in
theorem Kz(os:Os)(started:os.Started)(H:Type)(en:TypeId×Value->H):
  ReturnsInHanded {} Try.checked os 3 .any (Rows.meterBetweenSpec.pre6 en Try.prog Try.f3 Rows.meterBetweenRow.domain false) (Rows.meterBetweenSpec.post en Try.prog Try.f3 false true false false):=by
 refine returnsInHanded_of_change (C:=Try.checked) KE started (by kernel_rfl) Try.func3
  (ChangeSpec.witness6 (enc:=en) (C:=Try.checked) false ⟨#[], #[(.int .u64 0),(.int .u64 0),(.int .u64 0)],[]⟩ 8 (by kernel_rfl) (by kernel_rfl) (by kernel_rfl) (by kernel_rfl)) ?_
 intro W aF args ds gs cV hval hW _ _;exact Ku H en W aF args ds gs cV hval hW
theorem meterBetween_holds:Rows.MeterBetweenSaid:=
 OpenClaim.holds_of_wide 3 Try.f3 rfl rfl rfl rfl rfl rfl rfl ⟨rfl,rfl,rfl,rfl,rfl⟩ rfl rfl rfl rfl rfl (by kernel_rfl) Try.func3 (by kernel_rfl)
  (of_decide_eq_true (by kernel_rfl)) (by unfold Func.isWrapper;first|(rw[if_pos (by decide+kernel)];kernel_rfl)|(rw[if_neg (by decide+kernel)];exact⟨rfl,rfl⟩))
  (fun os started H en _=>Kz os started H en)
#print axioms meterBetween_holds
end Go.Proofs.Ytingpmogbibghaa.M
