/- The statement PlanPartsSaid: from the law's program to what is asked. Conditions: none. -/
import Derived.Test.YthcplpfiidlinaaLI
import Derived.Test.YthcplpfiidlinaaLG
import Derived.Test.YthcplpfiidlinaaKm
import Derived.Test.YthcplpfiidlinaaRows
import Derived.JoinedOf
import Derived.Handed
open Go.Ev Go
open Go.ChangeShapes Go.WideShapes Go.ChangeAt Go.RowKit
namespace Go.Proofs.Ythcplpfiidlinaa.L
theorem qc1{H:Type}{en:TypeId×Value->H}{W:World}{args:Array Value}(ds gs:List (DataW H)){q11:List MemPlace}(hW:DataW.Whole en Try.prog Try.f9.params.toList Rows.planPartsSpec.vars false W args.toList ds gs q11):
  (Rows.planPartsSpec.fn H (ds++gs)).results= [.lit (.bool true)]/\(Rows.planPartsSpec.fn H (ds++gs)).args=ds/\(Rows.planPartsSpec.fn H (ds++gs)).vars= []:=by
 obtain ⟨p,q,hA0,hV,_⟩:=hW
 have hA:DataW.TrodAll en Try.prog W 0 (λ_=>true) true Try.f9.params.toList args.toList ds p:=hA0
 rw [Try.params9]at hA
 obtain ⟨v0,vs0,d0,ds0,p0,q0,_,rfl,rfl,h0,r0⟩:=trodAll_cons hA
 obtain ⟨v1,vs1,d1,ds1,p1,q1,_,rfl,rfl,h1,r1⟩:=trodAll_cons r0
 obtain ⟨v2,vs2,d2,ds2,p2,q2,_,rfl,rfl,h2,r2⟩:=trodAll_cons r1
 obtain ⟨v3,vs3,d3,ds3,p3,q3,_,rfl,rfl,h3,r3⟩:=trodAll_cons r2
 obtain ⟨v4,vs4,d4,ds4,p4,q4,_,rfl,rfl,h4,r4⟩:=trodAll_cons r3
 obtain ⟨v5,vs5,d5,ds5,p5,q5,_,rfl,rfl,h5,r5⟩:=trodAll_cons r4
 obtain ⟨v6,vs6,d6,ds6,p6,q6,_,rfl,rfl,h6,r6⟩:=trodAll_cons r5
 obtain ⟨_,rfl,rfl⟩:=trodAll_nil r6
 obtain ⟨rfl,rfl⟩:=trodVars_none hV
 exact ⟨rfl,rfl,rfl⟩
set_option maxRecDepth 100000 in
theorem q8w(H:Type)(en:TypeId×Value->H)(W:World)(base:Nat)(args:Array Value)(ds gs:List (DataW H))(q11:List MemPlace)
  (hval:∀(j:Nat) t v,Try.f9.params[j]? =some t->args[j]? =some v->Value.okWide Try.prog W .any base t v)
  (hW:DataW.Whole en Try.prog Try.f9.params.toList Rows.planPartsSpec.vars false W args.toList ds gs q11):
  Calls Try.prog 9 args W λe W'=>∃v,e= .returned v/\Rows.planPartsSpec.post en Try.prog Try.f9 false true false false W args v W':=
 qmb (by kernel_rfl) Try.func9 rfl (by kernel_rfl) (by kernel_rfl) rfl Try.underlying4 rfl hW
  (qc1 ds gs hW) (qg7 λ_=>rfl) hval (tys:= [y0,(.sl (.sl (.i .i64))),(.sl (.sl (.i .i64))),(.i .i64),(.i .i64),(.i .i64),(.i .i64)]) (by kernel_rfl) (by kernel_rfl) ok80 (λp hfit=>qp9 p.1 p.2.1 p.2.2.1 p.2.2.2.1 p.2.2.2.2.1 p.2.2.2.2.2.1 p.2.2.2.2.2.2 (qmq (fitc (fitc hfit rfl).2 rfl).1) (qmq (fitc (fitc (fitc hfit rfl).2 rfl).2 rfl).1))
theorem qee:ownKnob Try.prog.godebug=none:=by kernel_rfl
set_option maxRecDepth 100000 in
theorem qa9(os:Os)(started:os.Started)(H:Type)(en:TypeId×Value->H):
  ReturnsInHanded {} Try.checked os 9 .any (Rows.planPartsSpec.pre6 en Try.prog Try.f9 Rows.planPartsRow.domain false) (Rows.planPartsSpec.post en Try.prog Try.f9 false true false false):=by
 refine returnsInHanded_of_change (C:=Try.checked) qee started (by kernel_rfl) Try.func9
  (ChangeSpec.witness6 (enc:=en) (C:=Try.checked) false ⟨#[],#[(.agg #[(.int .i64 0),(.slice none 0 0),(.slice none 0 0)]),(.slice none 0 0),(.slice none 0 0),(.int .i64 0),(.int .i64 0),(.int .i64 0),(.int .i64 0)], []⟩ 8 (by kernel_rfl) (by kernel_rfl) (by kernel_rfl) (by kernel_rfl)) ?_
 intro W base args ds gs q11 hval hW _ _
 exact q8w H en W base args ds gs q11 hval hW
theorem planParts_holds:Rows.PlanPartsSaid:=
 OpenClaim.holds_of_wide 9 Try.f9 rfl rfl rfl rfl rfl rfl rfl ⟨rfl,rfl,rfl,rfl,rfl⟩ rfl rfl rfl rfl rfl (by kernel_rfl) Try.func9 (by kernel_rfl)
  (of_decide_eq_true (by kernel_rfl)) (by unfold Func.isWrapper; first | (rw [if_pos (by decide +kernel)]; kernel_rfl) | (rw [if_neg (by decide +kernel)]; exact ⟨rfl,rfl⟩))
  (λos started H en _=>qa9 os started H en)
#print axioms planParts_holds
end Go.Proofs.Ythcplpfiidlinaa.L
