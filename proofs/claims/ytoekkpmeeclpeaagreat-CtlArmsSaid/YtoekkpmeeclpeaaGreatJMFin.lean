/- The statement CtlArmsSaid: from the law's program to what is asked. Conditions: none. -/
import Derived.Test.YtoekkpmeeclpeaaGreatJM
import Derived.Test.YtoekkpmeeclpeaaGreatAw
import Derived.Test.YtoekkpmeeclpeaaGreatRows
import Derived.JoinedOf
import Derived.Handed
import Derived.SizedLaws
open Go.Ev Go
open Go.ChangeShapes Go.WideShapes Go.ChangeAt Go.RowKit
namespace Go.Proofs.YtoekkpmeeclpeaaGreat.S
theorem Gl{H:Type}{en:TypeId×Value->H}{W:World}{args:Array Value}(ds gs:List (DataW H)){fK:List MemPlace}(hW:DataW.Whole en Tryz.prog Tryz.f3.params.toList Rows.ctlArmsSpec.vars false W args.toList ds gs fK):
  (Rows.ctlArmsSpec.fn H (ds++gs)).results=[.lit (.bool true)]/\(Rows.ctlArmsSpec.fn H (ds++gs)).args=ds/\(Rows.ctlArmsSpec.fn H (ds++gs)).vars=[]:=by
 obtain⟨p,q,hA0,hV,_⟩:=hW;have hA:DataW.TrodAll en Tryz.prog W 0 (fun _=>true) true Tryz.f3.params.toList args.toList ds p:=hA0;rw[Tryz.params3]at hA;obtain⟨v0,vs0,d0,ds0,p0,q0,_,rfl,rfl,h0,r0⟩:=trodAll_cons hA;obtain⟨v1,vs1,d1,ds1,p1,q1,_,rfl,rfl,h1,r1⟩:=trodAll_cons r0;obtain⟨_,rfl,rfl⟩:=trodAll_nil r1;obtain⟨rfl,rfl⟩:=trodVars_none hV;exact⟨rfl,rfl,rfl⟩
set_option maxRecDepth 100000 in
theorem Be(H:Type)(en:TypeId×Value->H)(W:World)(gN:Nat)(args:Array Value)(ds gs:List (DataW H))(fK:List MemPlace)
  (hval:∀(j:Nat)t v,Tryz.f3.params[j]?=some t->args[j]?=some v->Value.okWide Tryz.prog W .any gN t v)
  (hW:DataW.Whole en Tryz.prog Tryz.f3.params.toList Rows.ctlArmsSpec.vars false W args.toList ds gs fK)
  (hwt:(DataW.weightsEach Tryz.prog (Tryz.f3.params.toList++Rows.ctlArmsSpec.plain.varTypes Tryz.prog) (ds++gs)).all (·<=reachBytes)=true):
  Calls Tryz.prog 3 args W fun e W'=>∃v,e=.returned v/\Rows.ctlArmsSpec.post en Tryz.prog Tryz.f3 false true false false W args v W':=
 N_ (by kernel_rfl) Tryz.func3 rfl (by kernel_rfl) (by kernel_rfl) rfl Tryz.underlying4 rfl hW
  (Gl ds gs hW) (NZ fun _=>rfl) hwt hval (tys:=[y4,.sl y16]) (by kernel_rfl) (by kernel_rfl) Z9 (fun p hfit=>RU AU (acb (Uk hfit rfl).1) (Nat.le_of_lt_succ (L2 (Uk hfit rfl).1.2.1)) (Nat.le_of_lt_succ (L2 (Uk (Uk hfit rfl).2 rfl).1)))
theorem IT:ownKnob Tryz.prog.godebug=none:=by kernel_rfl
set_option maxRecDepth 100000 in
theorem DK(os:Os)(started:os.Started)(H:Type)(en:TypeId×Value->H):
  ReturnsInHanded {} Tryz.checked os 3 .any (Rows.ctlArmsSpec.pre6 en Tryz.prog Tryz.f3 Rows.ctlArmsRow.domain false) (Rows.ctlArmsSpec.post en Tryz.prog Tryz.f3 false true false false):=by
 refine returnsInHanded_of_change_sized (C:=Tryz.checked) IT started (by kernel_rfl) Tryz.func3
  (ChangeSpec.witness6 (enc:=en) (C:=Tryz.checked) false ⟨#[], #[(.agg #[(.int .i64 0),(.slice none 0 0),(.slice none 0 0),(.slice none 0 0),(.slice none 0 0),(.int .i64 0),(.int .i64 0),(.int .i64 0),(.int .i64 0),(.int .i64 0),(.int .i64 0)]),(.slice none 0 0)],[]⟩ 8 (by kernel_rfl) (by kernel_rfl) (by kernel_rfl) (by kernel_rfl)) ?_
 intro W gN args ds gs fK hval hW _ hwt _;exact Be H en W gN args ds gs fK hval hW hwt
theorem aby:(Rows.ctlArmsRow.inPlace==Tryz.prog.inPlace 3)=true:=by kernel_rfl
theorem abx:(Rows.ctlArmsRow.unfollowed==Tryz.prog.unfollowed 3)=true:=by kernel_rfl
theorem abw:(Rows.ctlArmsRow.recurses==Tryz.prog.recurses 3)=true:=by kernel_rfl
theorem abv:(Rows.ctlArmsRow.named==Tryz.prog.varsNamed 3)=true:=by kernel_rfl
theorem abu:joinedFacts Tryz.prog 3 Tryz.f3 Rows.ctlArmsSpec Rows.ctlArmsRow=true:=by unfold joinedFacts;rw[aby,abx,abw,abv];kernel_rfl
theorem ctlArms_holds:Rows.CtlArmsSaid:=
 OpenClaim.holds_of_wide 3 Tryz.f3 rfl rfl rfl rfl rfl rfl rfl ⟨rfl,rfl,rfl,rfl,rfl⟩ rfl rfl rfl rfl rfl (by kernel_rfl) Tryz.func3 abu
  (of_decide_eq_true (by kernel_rfl)) (by unfold Func.isWrapper;first|(rw[if_pos (by decide+kernel)];kernel_rfl)|(rw[if_neg (by decide+kernel)];exact⟨rfl,rfl⟩))
  (fun os started H en _=>DK os started H en)
#print axioms ctlArms_holds
end Go.Proofs.YtoekkpmeeclpeaaGreat.S
