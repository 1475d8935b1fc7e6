/- The statement ShortTreeSaid: from the law's program to what is asked. Conditions: none. -/
import Derived.Test.YtingpmogbibghaaSO
import Derived.Test.YtingpmogbibghaaFit
import Derived.Test.YtingpmogbibghaaKm
import Derived.Test.YtingpmogbibghaaRows
import Derived.JoinedOf
import Derived.Handed
open Go.Ev Go
open Go.ChangeShapes Go.WideShapes Go.ChangeAt Go.RowKit
namespace Go.Proofs.Ytingpmogbibghaa.S
theorem Z5{H:Type}{en:TypeId×Value->H}{W:World}{args:Array Value}(ds gs:List (DataW H)){fz:List MemPlace}(hW:DataW.Whole en Try.prog Try.f12.params.toList Rows.shortTreeSpec.vars false W args.toList ds gs fz):
  (Rows.shortTreeSpec.fn H (ds++gs)).results=[.lit (.bool true)]/\(Rows.shortTreeSpec.fn H (ds++gs)).args=ds/\(Rows.shortTreeSpec.fn H (ds++gs)).vars=[]:=by
 obtain⟨p,q,hA0,hV,_⟩:=hW;have hA:DataW.TrodAll en Try.prog W 0 (fun _=>true) true Try.f12.params.toList args.toList ds p:=hA0;rw[Try.params12]at hA;obtain⟨v0,vs0,d0,ds0,p0,q0,_,rfl,rfl,h0,r0⟩:=trodAll_cons hA;obtain⟨v1,vs1,d1,ds1,p1,q1,_,rfl,rfl,h1,r1⟩:=trodAll_cons r0;obtain⟨v2,vs2,d2,ds2,p2,q2,_,rfl,rfl,h2,r2⟩:=trodAll_cons r1;obtain⟨v3,vs3,d3,ds3,p3,q3,_,rfl,rfl,h3,r3⟩:=trodAll_cons r2;obtain⟨_,rfl,rfl⟩:=trodAll_nil r3;obtain⟨rfl,rfl⟩:=trodVars_none hV;exact⟨rfl,rfl,rfl⟩
set_option maxRecDepth 100000 in
theorem Z3(H:Type)(en:TypeId×Value->H)(W:World)(aN:Nat)(args:Array Value)(ds gs:List (DataW H))(fz:List MemPlace)
  (hval:∀(j:Nat)t v,Try.f12.params[j]?=some t->args[j]?=some v->Value.okWide Try.prog W .any aN t v)
  (hW:DataW.Whole en Try.prog Try.f12.params.toList Rows.shortTreeSpec.vars false W args.toList ds gs fz):
  Calls Try.prog 12 args W fun e W'=>∃v,e=.returned v/\Rows.shortTreeSpec.post en Try.prog Try.f12 false true false false W args v W':=
 Kw (by kernel_rfl) Try.func12 rfl (by kernel_rfl) (by kernel_rfl) rfl Try.underlying4 rfl hW
  (Z5 ds gs hW) (J_ fun _=>rfl) hval (tys:=[y0,(.sl (.i .u64)),(.i .i64),(.i .i64)]) (by kernel_rfl) (by kernel_rfl) aag (fun p hfit=>aaa p.1 p.2.1 p.2.2.1 p.2.2.2 (Tb ((Tb hfit rfl).2) rfl).1.2)
theorem Z7:ownKnob Try.prog.godebug=none:=by kernel_rfl
set_option maxRecDepth 100000 in
theorem Z4(os:Os)(started:os.Started)(H:Type)(en:TypeId×Value->H):
  ReturnsInHanded {} Try.checked os 12 .any (Rows.shortTreeSpec.pre6 en Try.prog Try.f12 Rows.shortTreeRow.domain false) (Rows.shortTreeSpec.post en Try.prog Try.f12 false true false false):=by
 refine returnsInHanded_of_change (C:=Try.checked) Z7 started (by kernel_rfl) Try.func12
  (ChangeSpec.witness6 (enc:=en) (C:=Try.checked) false ⟨#[], #[(.agg #[(.int .i64 0),(.slice none 0 0),(.slice none 0 0)]),(.slice none 0 0),(.int .i64 0),(.int .i64 0)],[]⟩ 8 (by kernel_rfl) (by kernel_rfl) (by kernel_rfl) (by kernel_rfl)) ?_
 intro W aN args ds gs fz hval hW _ _;exact Z3 H en W aN args ds gs fz hval hW
theorem shortTree_holds:Rows.ShortTreeSaid:=
 OpenClaim.holds_of_wide 12 Try.f12 rfl rfl rfl rfl rfl rfl rfl ⟨rfl,rfl,rfl,rfl,rfl⟩ rfl rfl rfl rfl rfl (by kernel_rfl) Try.func12 (by kernel_rfl)
  (of_decide_eq_true (by kernel_rfl)) (by unfold Func.isWrapper;first|(rw[if_pos (by decide+kernel)];kernel_rfl)|(rw[if_neg (by decide+kernel)];exact⟨rfl,rfl⟩))
  (fun os started H en _=>Z4 os started H en)
#print axioms shortTree_holds
end Go.Proofs.Ytingpmogbibghaa.S
