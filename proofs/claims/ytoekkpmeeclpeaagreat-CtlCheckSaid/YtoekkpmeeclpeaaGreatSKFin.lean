/- The statement CtlCheckSaid: from the law's program to what is asked. Conditions: none. -/
import Derived.Test.YtoekkpmeeclpeaaGreatSI
import Derived.Test.YtoekkpmeeclpeaaGreatFit
import Derived.Test.YtoekkpmeeclpeaaGreatKm
import Derived.Test.YtoekkpmeeclpeaaGreatRows
import Derived.JoinedOf
import Derived.Handed
open Go.Ev Go
open Go.ChangeShapes Go.WideShapes Go.ChangeAt Go.RowKit
namespace Go.Proofs.YtoekkpmeeclpeaaGreat.S
theorem BE{H:Type}{en:TypeId×Value->H}{W:World}{args:Array Value}(ds gs:List (DataW H)){eU:List MemPlace}(hW:DataW.Whole en Tryz.prog Tryz.f6.params.toList Rows.ctlCheckSpec.vars false W args.toList ds gs eU):
  (Rows.ctlCheckSpec.fn H (ds++gs)).results=[.lit (.bool true)]/\(Rows.ctlCheckSpec.fn H (ds++gs)).args=ds/\(Rows.ctlCheckSpec.fn H (ds++gs)).vars=[]:=by
 obtain⟨p,q,hA0,hV,_⟩:=hW;have hA:DataW.TrodAll en Tryz.prog W 0 (fun _=>true) true Tryz.f6.params.toList args.toList ds p:=hA0;rw[Tryz.params6]at hA;obtain⟨v0,vs0,d0,ds0,p0,q0,_,rfl,rfl,h0,r0⟩:=trodAll_cons hA;obtain⟨_,rfl,rfl⟩:=trodAll_nil r0;obtain⟨rfl,rfl⟩:=trodVars_none hV;exact⟨rfl,rfl,rfl⟩
set_option maxRecDepth 100000 in
theorem xe(H:Type)(en:TypeId×Value->H)(W:World)(aL:Nat)(args:Array Value)(ds gs:List (DataW H))(eU:List MemPlace)
  (hval:∀(j:Nat)t v,Tryz.f6.params[j]?=some t->args[j]?=some v->Value.okWide Tryz.prog W .any aL t v)
  (hW:DataW.Whole en Tryz.prog Tryz.f6.params.toList Rows.ctlCheckSpec.vars false W args.toList ds gs eU):
  Calls Tryz.prog 6 args W fun e W'=>∃v,e=.returned v/\Rows.ctlCheckSpec.post en Tryz.prog Tryz.f6 false true false false W args v W':=
 Lq (by kernel_rfl) Tryz.func6 rfl (by kernel_rfl) (by kernel_rfl) rfl Tryz.underlying4 rfl hW
  (BE ds gs hW) (K5 fun _=>rfl) hval (tys:=[y0]) (by kernel_rfl) (by kernel_rfl) Xt (fun p hfit=>Lv p (Qp (UX hfit rfl).1.2.1) (fun s hs x hx=>((UX hfit rfl).1.2.1.2 s hs).2 x hx))
theorem DL:ownKnob Tryz.prog.godebug=none:=by kernel_rfl
set_option maxRecDepth 100000 in
theorem yV(os:Os)(started:os.Started)(H:Type)(en:TypeId×Value->H):
  ReturnsInHanded {} Tryz.checked os 6 .any (Rows.ctlCheckSpec.pre6 en Tryz.prog Tryz.f6 Rows.ctlCheckRow.domain false) (Rows.ctlCheckSpec.post en Tryz.prog Tryz.f6 false true false false):=by
 refine returnsInHanded_of_change (C:=Tryz.checked) DL started (by kernel_rfl) Tryz.func6
  (ChangeSpec.witness6 (enc:=en) (C:=Tryz.checked) false ⟨#[], #[(.agg #[(.int .i64 0),(.slice none 0 0),(.slice none 0 0),(.slice none 0 0),(.slice none 0 0),(.int .i64 0),(.int .i64 0),(.int .i64 0),(.int .i64 0),(.int .i64 0),(.int .i64 0)])],[]⟩ 8 (by kernel_rfl) (by kernel_rfl) (by kernel_rfl) (by kernel_rfl)) ?_
 intro W aL args ds gs eU hval hW _ _;exact xe H en W aL args ds gs eU hval hW
theorem U6:(Rows.ctlCheckRow.inPlace==Tryz.prog.inPlace 6)=true:=by kernel_rfl
theorem U5:(Rows.ctlCheckRow.unfollowed==Tryz.prog.unfollowed 6)=true:=by kernel_rfl
theorem U4:(Rows.ctlCheckRow.recurses==Tryz.prog.recurses 6)=true:=by kernel_rfl
theorem U3:(Rows.ctlCheckRow.named==Tryz.prog.varsNamed 6)=true:=by kernel_rfl
theorem U0:joinedFacts Tryz.prog 6 Tryz.f6 Rows.ctlCheckSpec Rows.ctlCheckRow=true:=by unfold joinedFacts;rw[U6,U5,U4,U3];kernel_rfl
theorem ctlCheck_holds:Rows.CtlCheckSaid:=
 OpenClaim.holds_of_wide 6 Tryz.f6 rfl rfl rfl rfl rfl rfl rfl ⟨rfl,rfl,rfl,rfl,rfl⟩ rfl rfl rfl rfl rfl (by kernel_rfl) Tryz.func6 U0
  (of_decide_eq_true (by kernel_rfl)) (by unfold Func.isWrapper;first|(rw[if_pos (by decide+kernel)];kernel_rfl)|(rw[if_neg (by decide+kernel)];exact⟨rfl,rfl⟩))
  (fun os started H en _=>yV os started H en)
#print axioms ctlCheck_holds
end Go.Proofs.YtoekkpmeeclpeaaGreat.S
