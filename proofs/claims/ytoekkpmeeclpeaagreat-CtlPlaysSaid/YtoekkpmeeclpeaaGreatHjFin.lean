/- The statement CtlPlaysSaid: from the law's program to what is asked. Conditions: none. -/
import Derived.Test.YtoekkpmeeclpeaaGreatHj
import Derived.Test.YtoekkpmeeclpeaaGreatRows
import Derived.JoinedOf
import Derived.Handed
import Derived.SizedLaws
open Go.Ev Go
open Go.ChangeShapes Go.WideShapes Go.ChangeAt Go.RowKit
namespace Go.Proofs.YtoekkpmeeclpeaaGreat.S
theorem Ls{H:Type}{en:TypeId×Value->H}{W:World}{args:Array Value}(ds gs:List (DataW H)){il:List MemPlace}(hW:DataW.Whole en Tryz.prog Tryz.f5.params.toList Rows.ctlPlaysSpec.vars false W args.toList ds gs il):
  (Rows.ctlPlaysSpec.fn H (ds++gs)).results=[.lit (.bool true)]/\(Rows.ctlPlaysSpec.fn H (ds++gs)).args=ds/\(Rows.ctlPlaysSpec.fn H (ds++gs)).vars=[]:=by
 obtain⟨p,q,hA0,hV,_⟩:=hW;have hA:DataW.TrodAll en Tryz.prog W 0 (fun _=>true) true Tryz.f5.params.toList args.toList ds p:=hA0;rw[Tryz.params5]at hA;obtain⟨v0,vs0,d0,ds0,p0,q0,_,rfl,rfl,h0,r0⟩:=trodAll_cons hA;obtain⟨v1,vs1,d1,ds1,p1,q1,_,rfl,rfl,h1,r1⟩:=trodAll_cons r0;obtain⟨_,rfl,rfl⟩:=trodAll_nil r1;obtain⟨rfl,rfl⟩:=trodVars_none hV;exact⟨rfl,rfl,rfl⟩
set_option maxRecDepth 100000 in
theorem Gr(H:Type)(en:TypeId×Value->H)(W:World)(jA:Nat)(args:Array Value)(ds gs:List (DataW H))(il:List MemPlace)
  (hval:∀(j:Nat)t v,Tryz.f5.params[j]?=some t->args[j]?=some v->Value.okWide Tryz.prog W .any jA t v)
  (hW:DataW.Whole en Tryz.prog Tryz.f5.params.toList Rows.ctlPlaysSpec.vars false W args.toList ds gs il)
  (hwt:(DataW.weightsEach Tryz.prog (Tryz.f5.params.toList++Rows.ctlPlaysSpec.plain.varTypes Tryz.prog) (ds++gs)).all (·<=reachBytes)=true):
  Calls Tryz.prog 5 args W fun e W'=>∃v,e=.returned v/\Rows.ctlPlaysSpec.post en Tryz.prog Tryz.f5 false true false false W args v W':=
 Wk (by kernel_rfl) Tryz.func5 rfl (by kernel_rfl) (by kernel_rfl) rfl Tryz.underlying4 rfl hW
  (Ls ds gs hW) (V5 fun _=>rfl) hwt hval (tys:=[y0,(.sl y4)]) (by kernel_rfl) (by kernel_rfl) akM (fun p hfit=>Vc (ZK hfit rfl).1 (Nat.le_of_lt_succ (TY (ZK (ZK hfit rfl).2 rfl).1)) (ZK (ZK hfit rfl).2 rfl).1.2)
theorem Nz:ownKnob Tryz.prog.godebug=none:=by kernel_rfl
set_option maxRecDepth 100000 in
theorem IF(os:Os)(started:os.Started)(H:Type)(en:TypeId×Value->H):
  ReturnsInHanded {} Tryz.checked os 5 .any (Rows.ctlPlaysSpec.pre6 en Tryz.prog Tryz.f5 Rows.ctlPlaysRow.domain false) (Rows.ctlPlaysSpec.post en Tryz.prog Tryz.f5 false true false false):=by
 refine returnsInHanded_of_change_sized (C:=Tryz.checked) Nz started (by kernel_rfl) Tryz.func5
  (ChangeSpec.witness6 (enc:=en) (C:=Tryz.checked) false ⟨#[], #[(.agg #[(.int .i64 0),(.slice none 0 0),(.slice none 0 0),(.slice none 0 0),(.slice none 0 0),(.int .i64 0),(.int .i64 0),(.int .i64 0),(.int .i64 0),(.int .i64 0),(.int .i64 0)]),(.slice none 0 0)],[]⟩ 8 (by kernel_rfl) (by kernel_rfl) (by kernel_rfl) (by kernel_rfl)) ?_
 intro W jA args ds gs il hval hW _ hwt _;exact Gr H en W jA args ds gs il hval hW hwt
theorem anw:(Rows.ctlPlaysRow.inPlace==Tryz.prog.inPlace 5)=true:=by kernel_rfl
theorem anv:(Rows.ctlPlaysRow.unfollowed==Tryz.prog.unfollowed 5)=true:=by kernel_rfl
theorem anu:(Rows.ctlPlaysRow.recurses==Tryz.prog.recurses 5)=true:=by kernel_rfl
theorem ant:(Rows.ctlPlaysRow.named==Tryz.prog.varsNamed 5)=true:=by kernel_rfl
theorem ans:joinedFacts Tryz.prog 5 Tryz.f5 Rows.ctlPlaysSpec Rows.ctlPlaysRow=true:=by unfold joinedFacts;rw[anw,anv,anu,ant];kernel_rfl
theorem ctlPlays_holds:Rows.CtlPlaysSaid:=
 OpenClaim.holds_of_wide 5 Tryz.f5 rfl rfl rfl rfl rfl rfl rfl ⟨rfl,rfl,rfl,rfl,rfl⟩ rfl rfl rfl rfl rfl (by kernel_rfl) Tryz.func5 ans
  (of_decide_eq_true (by kernel_rfl)) (by unfold Func.isWrapper;first|(rw[if_pos (by decide+kernel)];kernel_rfl)|(rw[if_neg (by decide+kernel)];exact⟨rfl,rfl⟩))
  (fun os started H en _=>IF os started H en)
#print axioms ctlPlays_holds
end Go.Proofs.YtoekkpmeeclpeaaGreat.S
