/- The statement AgentNoneSaid: from the law's program to what is asked. Conditions: none. -/
import Derived.Test.YtjjajcecekocdaaGreatAnL
import Derived.Test.YtjjajcecekocdaaGreatKm
import Derived.Test.YtjjajcecekocdaaGreatRows
import Derived.JoinedOf
import Derived.Handed
open Go.Ev Go
open Go.ChangeShapes Go.WideShapes Go.ChangeAt Go.RowKit
namespace Go.Proofs.YtjjajcecekocdaaGreat.A
theorem zd{H:Type}{en:TypeId×Value->H}{W:World}{args:Array Value}(ds gs:List (DataW H)){eI:List MemPlace}(hW:DataW.Whole en Tryz.prog Tryz.f7.params.toList Rows.agentNoneSpec.vars false W args.toList ds gs eI):
  (Rows.agentNoneSpec.fn H (ds++gs)).results=[.lit (.bool true)]/\(Rows.agentNoneSpec.fn H (ds++gs)).args=ds/\(Rows.agentNoneSpec.fn H (ds++gs)).vars=[]:=by
 obtain⟨p,q,hA0,hV,_⟩:=hW;have hA:DataW.TrodAll en Tryz.prog W 0 (fun _=>true) true Tryz.f7.params.toList args.toList ds p:=hA0;rw[Tryz.params7]at hA;obtain⟨v0,vs0,d0,ds0,p0,q0,_,rfl,rfl,h0,r0⟩:=trodAll_cons hA;obtain⟨v1,vs1,d1,ds1,p1,q1,_,rfl,rfl,h1,r1⟩:=trodAll_cons r0;obtain⟨v2,vs2,d2,ds2,p2,q2,_,rfl,rfl,h2,r2⟩:=trodAll_cons r1;obtain⟨_,rfl,rfl⟩:=trodAll_nil r2;obtain⟨rfl,rfl⟩:=trodVars_none hV;exact⟨rfl,rfl,rfl⟩
set_option maxRecDepth 100000 in
theorem uV(H:Type)(en:TypeId×Value->H)(W:World)(aK:Nat)(args:Array Value)(ds gs:List (DataW H))(eI:List MemPlace)
  (hval:∀(j:Nat)t v,Tryz.f7.params[j]?=some t->args[j]?=some v->Value.okWide Tryz.prog W .any aK t v)
  (hW:DataW.Whole en Tryz.prog Tryz.f7.params.toList Rows.agentNoneSpec.vars false W args.toList ds gs eI):
  Calls Tryz.prog 7 args W fun e W'=>∃v,e=.returned v/\Rows.agentNoneSpec.post en Tryz.prog Tryz.f7 false true false false W args v W':=
 G_ (by kernel_rfl) Tryz.func7 rfl (by kernel_rfl) (by kernel_rfl) rfl Tryz.underlying4 rfl hW
  (zd ds gs hW) (GO fun _=>rfl) hval (tys:=[(.i .i64),y4,(.ar 4 (.i .i64))]) (by kernel_rfl) (by kernel_rfl) O7 (fun p hfit=>Ip p.1 p.2.1 p.2.2)
theorem zG:ownKnob Tryz.prog.godebug=none:=by kernel_rfl
set_option maxRecDepth 100000 in
theorem wD(os:Os)(started:os.Started)(H:Type)(en:TypeId×Value->H):
  ReturnsInHanded {} Tryz.checked os 7 .any (Rows.agentNoneSpec.pre6 en Tryz.prog Tryz.f7 Rows.agentNoneRow.domain false) (Rows.agentNoneSpec.post en Tryz.prog Tryz.f7 false true false false):=by
 refine returnsInHanded_of_change (C:=Tryz.checked) zG started (by kernel_rfl) Tryz.func7
  (ChangeSpec.witness6 (enc:=en) (C:=Tryz.checked) false ⟨#[], #[(.int .i64 0),(.agg #[(.int .i64 0),(.int .i64 0),(.int .i64 0),(.int .i64 0),(.int .i64 0),(.int .i64 0),(.int .i64 0),(.int .i64 0),(.int .i64 0),(.slice none 0 0)]),(.agg #[(.int .i64 0),(.int .i64 0),(.int .i64 0),(.int .i64 0)])],[]⟩ 8 (by kernel_rfl) (by kernel_rfl) (by kernel_rfl) (by kernel_rfl)) ?_
 intro W aK args ds gs eI hval hW _ _;exact uV H en W aK args ds gs eI hval hW
theorem agentNone_holds:Rows.AgentNoneSaid:=
 OpenClaim.holds_of_wide 7 Tryz.f7 rfl rfl rfl rfl rfl rfl rfl ⟨rfl,rfl,rfl,rfl,rfl⟩ rfl rfl rfl rfl rfl (by kernel_rfl) Tryz.func7 (by kernel_rfl)
  (of_decide_eq_true (by kernel_rfl)) (by unfold Func.isWrapper;first|(rw[if_pos (by decide+kernel)];kernel_rfl)|(rw[if_neg (by decide+kernel)];exact⟨rfl,rfl⟩))
  (fun os started H en _=>wD os started H en)
#print axioms agentNone_holds
end Go.Proofs.YtjjajcecekocdaaGreat.A
