/- The statement RouteTreesSaid: from the law's program to what is asked. Conditions: none. -/
import Derived.Test.YtingpmogbibghaaSK
import Derived.Test.YtingpmogbibghaaFit
import Derived.Test.YtingpmogbibghaaKm
import Derived.Test.YtingpmogbibghaaRows
import Derived.JoinedOf
import Derived.Handed
open Go.Ev Go
open Go.ChangeShapes Go.WideShapes Go.ChangeAt Go.RowKit
namespace Go.Proofs.Ytingpmogbibghaa.S
theorem XG{H:Type}{en:TypeId×Value->H}{W:World}{args:Array Value}(ds gs:List (DataW H)){fz:List MemPlace}(hW:DataW.Whole en Try.prog Try.f13.params.toList Rows.routeTreesSpec.vars false W args.toList ds gs fz):
  (Rows.routeTreesSpec.fn H (ds++gs)).results=[.lit (.bool true)]/\(Rows.routeTreesSpec.fn H (ds++gs)).args=ds/\(Rows.routeTreesSpec.fn H (ds++gs)).vars=[]:=by
 obtain⟨p,q,hA0,hV,_⟩:=hW;have hA:DataW.TrodAll en Try.prog W 0 (fun _=>true) true Try.f13.params.toList args.toList ds p:=hA0;rw[Try.params13]at hA;obtain⟨v0,vs0,d0,ds0,p0,q0,_,rfl,rfl,h0,r0⟩:=trodAll_cons hA;obtain⟨v1,vs1,d1,ds1,p1,q1,_,rfl,rfl,h1,r1⟩:=trodAll_cons r0;obtain⟨_,rfl,rfl⟩:=trodAll_nil r1;obtain⟨rfl,rfl⟩:=trodVars_none hV;exact⟨rfl,rfl,rfl⟩
set_option maxRecDepth 100000 in
theorem Xr(H:Type)(en:TypeId×Value->H)(W:World)(aN:Nat)(args:Array Value)(ds gs:List (DataW H))(fz:List MemPlace)
  (hval:∀(j:Nat)t v,Try.f13.params[j]?=some t->args[j]?=some v->Value.okWide Try.prog W .any aN t v)
  (hW:DataW.Whole en Try.prog Try.f13.params.toList Rows.routeTreesSpec.vars false W args.toList ds gs fz):
  Calls Try.prog 13 args W fun e W'=>∃v,e=.returned v/\Rows.routeTreesSpec.post en Try.prog Try.f13 false true false false W args v W':=
 Kw (by kernel_rfl) Try.func13 rfl (by kernel_rfl) (by kernel_rfl) rfl Try.underlying4 rfl hW
  (XG ds gs hW) (J_ fun _=>rfl) hval (tys:=[y0,(.sl (.i .u64))]) (by kernel_rfl) (by kernel_rfl) YI (fun p hfit=>X5 p.1 p.2 (Tb ((Tb hfit rfl).2) rfl).1.2)
theorem XK:ownKnob Try.prog.godebug=none:=by kernel_rfl
set_option maxRecDepth 100000 in
theorem Xy(os:Os)(started:os.Started)(H:Type)(en:TypeId×Value->H):
  ReturnsInHanded {} Try.checked os 13 .any (Rows.routeTreesSpec.pre6 en Try.prog Try.f13 Rows.routeTreesRow.domain false) (Rows.routeTreesSpec.post en Try.prog Try.f13 false true false false):=by
 refine returnsInHanded_of_change (C:=Try.checked) XK started (by kernel_rfl) Try.func13
  (ChangeSpec.witness6 (enc:=en) (C:=Try.checked) false ⟨#[], #[(.agg #[(.int .i64 0),(.slice none 0 0),(.slice none 0 0)]),(.slice none 0 0)],[]⟩ 8 (by kernel_rfl) (by kernel_rfl) (by kernel_rfl) (by kernel_rfl)) ?_
 intro W aN args ds gs fz hval hW _ _;exact Xr H en W aN args ds gs fz hval hW
theorem routeTrees_holds:Rows.RouteTreesSaid:=
 OpenClaim.holds_of_wide 13 Try.f13 rfl rfl rfl rfl rfl rfl rfl ⟨rfl,rfl,rfl,rfl,rfl⟩ rfl rfl rfl rfl rfl (by kernel_rfl) Try.func13 (by kernel_rfl)
  (of_decide_eq_true (by kernel_rfl)) (by unfold Func.isWrapper;first|(rw[if_pos (by decide+kernel)];kernel_rfl)|(rw[if_neg (by decide+kernel)];exact⟨rfl,rfl⟩))
  (fun os started H en _=>Xy os started H en)
#print axioms routeTrees_holds
end Go.Proofs.Ytingpmogbibghaa.S
