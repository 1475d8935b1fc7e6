/- The statement ShortBestSaid: from the law's program to what is asked. Conditions: none. -/
import Derived.Test.YtingpmogbibghaaSM
import Derived.Test.YtingpmogbibghaaFit
import Derived.Test.YtingpmogbibghaaKm
import Derived.Test.YtingpmogbibghaaRows
import Derived.JoinedOf
import Derived.Handed
open Go.Ev Go
open Go.ChangeShapes Go.WideShapes Go.ChangeAt Go.RowKit
namespace Go.Proofs.Ytingpmogbibghaa.S
theorem Y9{H:Type}{en:TypeId×Value->H}{W:World}{args:Array Value}(ds gs:List (DataW H)){fz:List MemPlace}(hW:DataW.Whole en Try.prog Try.f11.params.toList Rows.shortBestSpec.vars false W args.toList ds gs fz):
  (Rows.shortBestSpec.fn H (ds++gs)).results=[.lit (.bool true)]/\(Rows.shortBestSpec.fn H (ds++gs)).args=ds/\(Rows.shortBestSpec.fn H (ds++gs)).vars=[]:=by
 obtain⟨p,q,hA0,hV,_⟩:=hW;have hA:DataW.TrodAll en Try.prog W 0 (fun _=>true) true Try.f11.params.toList args.toList ds p:=hA0;rw[Try.params11]at hA;obtain⟨v0,vs0,d0,ds0,p0,q0,_,rfl,rfl,h0,r0⟩:=trodAll_cons hA;obtain⟨v1,vs1,d1,ds1,p1,q1,_,rfl,rfl,h1,r1⟩:=trodAll_cons r0;obtain⟨v2,vs2,d2,ds2,p2,q2,_,rfl,rfl,h2,r2⟩:=trodAll_cons r1;obtain⟨v3,vs3,d3,ds3,p3,q3,_,rfl,rfl,h3,r3⟩:=trodAll_cons r2;obtain⟨_,rfl,rfl⟩:=trodAll_nil r3;obtain⟨rfl,rfl⟩:=trodVars_none hV;exact⟨rfl,rfl,rfl⟩
set_option maxRecDepth 100000 in
theorem Y5(H:Type)(en:TypeId×Value->H)(W:World)(aN:Nat)(args:Array Value)(ds gs:List (DataW H))(fz:List MemPlace)
  (hval:∀(j:Nat)t v,Try.f11.params[j]?=some t->args[j]?=some v->Value.okWide Try.prog W .any aN t v)
  (hW:DataW.Whole en Try.prog Try.f11.params.toList Rows.shortBestSpec.vars false W args.toList ds gs fz):
  Calls Try.prog 11 args W fun e W'=>∃v,e=.returned v/\Rows.shortBestSpec.post en Try.prog Try.f11 false true false false W args v W':=
 Kw (by kernel_rfl) Try.func11 rfl (by kernel_rfl) (by kernel_rfl) rfl Try.underlying4 rfl hW
  (Y9 ds gs hW) (J_ fun _=>rfl) hval (tys:=[y0,(.sl (.i .u64)),(.i .i64),(.sl (.i .i64))]) (by kernel_rfl) (by kernel_rfl) ZS (fun p hfit=>Zv p.1 p.2.1 p.2.2.1 p.2.2.2 (Tb ((Tb hfit rfl).2) rfl).1.2)
theorem Y_:ownKnob Try.prog.godebug=none:=by kernel_rfl
set_option maxRecDepth 100000 in
theorem Y6(os:Os)(started:os.Started)(H:Type)(en:TypeId×Value->H):
  ReturnsInHanded {} Try.checked os 11 .any (Rows.shortBestSpec.pre6 en Try.prog Try.f11 Rows.shortBestRow.domain false) (Rows.shortBestSpec.post en Try.prog Try.f11 false true false false):=by
 refine returnsInHanded_of_change (C:=Try.checked) Y_ started (by kernel_rfl) Try.func11
  (ChangeSpec.witness6 (enc:=en) (C:=Try.checked) false ⟨#[], #[(.agg #[(.int .i64 0),(.slice none 0 0),(.slice none 0 0)]),(.slice none 0 0),(.int .i64 0),(.slice none 0 0)],[]⟩ 8 (by kernel_rfl) (by kernel_rfl) (by kernel_rfl) (by kernel_rfl)) ?_
 intro W aN args ds gs fz hval hW _ _;exact Y5 H en W aN args ds gs fz hval hW
theorem shortBest_holds:Rows.ShortBestSaid:=
 OpenClaim.holds_of_wide 11 Try.f11 rfl rfl rfl rfl rfl rfl rfl ⟨rfl,rfl,rfl,rfl,rfl⟩ rfl rfl rfl rfl rfl (by kernel_rfl) Try.func11 (by kernel_rfl)
  (of_decide_eq_true (by kernel_rfl)) (by unfold Func.isWrapper;first|(rw[if_pos (by decide+kernel)];kernel_rfl)|(rw[if_neg (by decide+kernel)];exact⟨rfl,rfl⟩))
  (fun os started H en _=>Y6 os started H en)
#print axioms shortBest_holds
end Go.Proofs.Ytingpmogbibghaa.S
