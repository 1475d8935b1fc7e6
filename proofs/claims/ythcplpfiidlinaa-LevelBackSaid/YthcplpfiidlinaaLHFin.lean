/- The statement LevelBackSaid: from the law's program to what is asked. Conditions: none. -/
import Derived.Test.YthcplpfiidlinaaLH
import Derived.Test.YthcplpfiidlinaaLG
import Derived.Test.YthcplpfiidlinaaKm
import Derived.Test.YthcplpfiidlinaaRows
import Derived.JoinedOf
import Derived.Handed
open Go.Ev Go
open Go.ChangeShapes Go.WideShapes Go.ChangeAt Go.RowKit
namespace Go.Proofs.Ythcplpfiidlinaa.L
theorem qbm{H:Type}{en:TypeId×Value->H}{W:World}{args:Array Value}(ds gs:List (DataW H)){q0x:List MemPlace}(hW:DataW.Whole en Try.prog Try.f5.params.toList Rows.levelBackSpec.vars false W args.toList ds gs q0x):
  (Rows.levelBackSpec.fn H (ds++gs)).results= [.lit (.bool true)]/\(Rows.levelBackSpec.fn H (ds++gs)).args=ds/\(Rows.levelBackSpec.fn H (ds++gs)).vars= []:=by
 obtain ⟨p,q,hA0,hV,_⟩:=hW
 have hA:DataW.TrodAll en Try.prog W 0 (λ_=>true) true Try.f5.params.toList args.toList ds p:=hA0
 rw [Try.params5]at hA
 obtain ⟨v0,vs0,d0,ds0,p0,q0,_,rfl,rfl,h0,r0⟩:=trodAll_cons hA
 obtain ⟨v1,vs1,d1,ds1,p1,q1,_,rfl,rfl,h1,r1⟩:=trodAll_cons r0
 obtain ⟨v2,vs2,d2,ds2,p2,q2,_,rfl,rfl,h2,r2⟩:=trodAll_cons r1
 obtain ⟨v3,vs3,d3,ds3,p3,q3,_,rfl,rfl,h3,r3⟩:=trodAll_cons r2
 obtain ⟨v4,vs4,d4,ds4,p4,q4,_,rfl,rfl,h4,r4⟩:=trodAll_cons r3
 obtain ⟨_,rfl,rfl⟩:=trodAll_nil r4
 obtain ⟨rfl,rfl⟩:=trodVars_none hV
 exact ⟨rfl,rfl,rfl⟩
set_option maxRecDepth 100000 in
theorem q8n(H:Type)(en:TypeId×Value->H)(W:World)(base:Nat)(args:Array Value)(ds gs:List (DataW H))(q0x:List MemPlace)
  (hval:∀(j:Nat) t v,Try.f5.params[j]? =some t->args[j]? =some v->Value.okWide Try.prog W .any base t v)
  (hW:DataW.Whole en Try.prog Try.f5.params.toList Rows.levelBackSpec.vars false W args.toList ds gs q0x):
  Calls Try.prog 5 args W λe W'=>∃v,e= .returned v/\Rows.levelBackSpec.post en Try.prog Try.f5 false true false false W args v W':=
 qo9 (by kernel_rfl) Try.func5 rfl (by kernel_rfl) (by kernel_rfl) rfl Try.underlying4 rfl hW
  (qbm ds gs hW) (qes λ_=>rfl) hval (tys:= [y0,(.sl (.sl (.i .i64))),(.sl (.sl (.i .i64))),(.i .i64),(.i .i64)]) (by kernel_rfl) (by kernel_rfl) ok75 (λp hfit=>qov p.1 p.2.1 p.2.2.1 p.2.2.2.1 p.2.2.2.2 (ql4 (fitc (fitc hfit rfl).2 rfl).1) (ql4 (fitc (fitc (fitc hfit rfl).2 rfl).2 rfl).1))
theorem qd7:ownKnob Try.prog.godebug=none:=by kernel_rfl
set_option maxRecDepth 100000 in
theorem q9u(os:Os)(started:os.Started)(H:Type)(en:TypeId×Value->H):
  ReturnsInHanded {} Try.checked os 5 .any (Rows.levelBackSpec.pre6 en Try.prog Try.f5 Rows.levelBackRow.domain false) (Rows.levelBackSpec.post en Try.prog Try.f5 false true false false):=by
 refine returnsInHanded_of_change (C:=Try.checked) qd7 started (by kernel_rfl) Try.func5
  (ChangeSpec.witness6 (enc:=en) (C:=Try.checked) false ⟨#[],#[(.agg #[(.int .i64 0),(.slice none 0 0),(.slice none 0 0)]),(.slice none 0 0),(.slice none 0 0),(.int .i64 0),(.int .i64 0)], []⟩ 8 (by kernel_rfl) (by kernel_rfl) (by kernel_rfl) (by kernel_rfl)) ?_
 intro W base args ds gs q0x hval hW _ _
 exact q8n H en W base args ds gs q0x hval hW
theorem levelBack_holds:Rows.LevelBackSaid:=
 OpenClaim.holds_of_wide 5 Try.f5 rfl rfl rfl rfl rfl rfl rfl ⟨rfl,rfl,rfl,rfl,rfl⟩ rfl rfl rfl rfl rfl (by kernel_rfl) Try.func5 (by kernel_rfl)
  (of_decide_eq_true (by kernel_rfl)) (by unfold Func.isWrapper; first | (rw [if_pos (by decide +kernel)]; kernel_rfl) | (rw [if_neg (by decide +kernel)]; exact ⟨rfl,rfl⟩))
  (λos started H en _=>q9u os started H en)
#print axioms levelBack_holds
end Go.Proofs.Ythcplpfiidlinaa.L
