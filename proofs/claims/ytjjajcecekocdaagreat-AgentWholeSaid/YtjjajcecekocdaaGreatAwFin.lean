/- The statement AgentWholeSaid: from the law's program to what is asked. Conditions: none. -/
import Derived.Test.YtjjajcecekocdaaGreatRY
import Derived.Test.YtjjajcecekocdaaGreatRN
import Derived.Test.YtjjajcecekocdaaGreatKm
import Derived.Test.YtjjajcecekocdaaGreatRows
import Derived.JoinedOf
import Derived.Handed
open Go.Ev Go
open Go.ChangeShapes Go.WideShapes Go.ChangeAt Go.RowKit
namespace Go.Proofs.YtjjajcecekocdaaGreat.A
theorem x_{H:Type}{en:TypeId×Value->H}{W:World}{args:Array Value}(ds gs:List (DataW H)){e9:List MemPlace}(hW:DataW.Whole en Tryz.prog Tryz.f3.params.toList Rows.agentWholeSpec.vars false W args.toList ds gs e9):
  (Rows.agentWholeSpec.fn H (ds++gs)).results=[.lit (.bool true)]/\(Rows.agentWholeSpec.fn H (ds++gs)).args=ds/\(Rows.agentWholeSpec.fn H (ds++gs)).vars=[]:=by
 obtain⟨p,q,hA0,hV,_⟩:=hW;have hA:DataW.TrodAll en Tryz.prog W 0 (fun _=>true) true Tryz.f3.params.toList args.toList ds p:=hA0;rw[Tryz.params3]at hA;obtain⟨v0,vs0,d0,ds0,p0,q0,_,rfl,rfl,h0,r0⟩:=trodAll_cons hA;obtain⟨v1,vs1,d1,ds1,p1,q1,_,rfl,rfl,h1,r1⟩:=trodAll_cons r0;obtain⟨v2,vs2,d2,ds2,p2,q2,_,rfl,rfl,h2,r2⟩:=trodAll_cons r1;obtain⟨v3,vs3,d3,ds3,p3,q3,_,rfl,rfl,h3,r3⟩:=trodAll_cons r2;obtain⟨_,rfl,rfl⟩:=trodAll_nil r3;obtain⟨rfl,rfl⟩:=trodVars_none hV;exact⟨rfl,rfl,rfl⟩
set_option maxRecDepth 100000 in
theorem uS(H:Type)(en:TypeId×Value->H)(W:World)(aJ:Nat)(args:Array Value)(ds gs:List (DataW H))(e9:List MemPlace)
  (hval:∀(j:Nat)t v,Tryz.f3.params[j]?=some t->args[j]?=some v->Value.okWide Tryz.prog W .any aJ t v)
  (hW:DataW.Whole en Tryz.prog Tryz.f3.params.toList Rows.agentWholeSpec.vars false W args.toList ds gs e9):
  Calls Tryz.prog 3 args W fun e W'=>∃v,e=.returned v/\Rows.agentWholeSpec.post en Tryz.prog Tryz.f3 false true false false W args v W':=
 JQ (by kernel_rfl) Tryz.func3 rfl (by kernel_rfl) (by kernel_rfl) rfl Tryz.underlying4 rfl hW
  (x_ ds gs hW) (Jp fun _=>rfl) hval (tys:=[(.i .i64),(.sl y0),(.i .i64),(.sl Tc)]) (by kernel_rfl) (by kernel_rfl) UF (fun p hfit=>Ig p.1 p.2.1 p.2.2.1 p.2.2.2 (Be (xV (xV hfit rfl).2 rfl).1).1 (Be (xV (xV hfit rfl).2 rfl).1).2 (Bf (xV (xV (xV (xV hfit rfl).2 rfl).2 rfl).2 rfl).1).1 (Bf (xV (xV (xV (xV hfit rfl).2 rfl).2 rfl).2 rfl).1).2)
theorem Ac:ownKnob Tryz.prog.godebug=none:=by kernel_rfl
set_option maxRecDepth 100000 in
theorem wt(os:Os)(started:os.Started)(H:Type)(en:TypeId×Value->H):
  ReturnsInHanded {} Tryz.checked os 3 .any (Rows.agentWholeSpec.pre6 en Tryz.prog Tryz.f3 Rows.agentWholeRow.domain false) (Rows.agentWholeSpec.post en Tryz.prog Tryz.f3 false true false false):=by
 refine returnsInHanded_of_change (C:=Tryz.checked) Ac started (by kernel_rfl) Tryz.func3
  (ChangeSpec.witness6 (enc:=en) (C:=Tryz.checked) false ⟨#[], #[(.int .i64 0),(.slice none 0 0),(.int .i64 0),(.slice none 0 0)],[]⟩ 8 (by kernel_rfl) (by kernel_rfl) (by kernel_rfl) (by kernel_rfl)) ?_
 intro W aJ args ds gs e9 hval hW _ _;exact uS H en W aJ args ds gs e9 hval hW
theorem agentWhole_holds:Rows.AgentWholeSaid:=
 OpenClaim.holds_of_wide 3 Tryz.f3 rfl rfl rfl rfl rfl rfl rfl ⟨rfl,rfl,rfl,rfl,rfl⟩ rfl rfl rfl rfl rfl (by kernel_rfl) Tryz.func3 (by kernel_rfl)
  (of_decide_eq_true (by kernel_rfl)) (by unfold Func.isWrapper;first|(rw[if_pos (by decide+kernel)];kernel_rfl)|(rw[if_neg (by decide+kernel)];exact⟨rfl,rfl⟩))
  (fun os started H en _=>wt os started H en)
#print axioms agentWhole_holds
end Go.Proofs.YtjjajcecekocdaaGreat.A
