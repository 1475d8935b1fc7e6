/- The statement ScriptBackCardSaid: from the law's program to what is asked. Conditions: none. -/
import Derived.Test.YtbcmbckpebpijaaDoorCf
import Derived.Test.YtbcmbckpebpijaaDoorKm
import Derived.Test.YtbcmbckpebpijaaDoorCards
import Derived.Test.YtbcmbckpebpijaaDoorTie
import Derived.ProofKit
import Derived.OpenShut
import Derived.Deep.DeepHandedRow
import Derived.Deep.DeepWitnessRowRef
import Derived.Lib.LaidTab
open Option.some renaming inj->aa
open Go.Ev Go
open Go.ChangeShapes Go.WideShapes Go.ChangeAt Go.RowKit
namespace Go.Proofs.YtbcmbckpebpijaaDoor.C
theorem r8{H:Type}{en:TypeId×Value->H}{W:World}{args:Array Value}(ds gs:List (DataW H)){dw:List MemPlace}(hW:DataW.Whole en Tryd.prog Tryd.f4.params.toList Rows.scriptBackSpec.vars false W args.toList ds gs dw):
  (Rows.scriptBackSpec.fn H (ds++gs)).results=[.lit (.bool true)]/\(Rows.scriptBackSpec.fn H (ds++gs)).args=ds/\(Rows.scriptBackSpec.fn H (ds++gs)).vars=[]:=by
 obtain⟨p,q,hA0,hV,_⟩:=hW;have hA:DataW.TrodAll en Tryd.prog W 0 (fun _=>true) true Tryd.f4.params.toList args.toList ds p:=hA0;rw[Tryd.params4]at hA;obtain⟨v0,vs0,d0,ds0,p0,q0,_,rfl,rfl,h0,r0⟩:=trodAll_cons hA;obtain⟨v1,vs1,d1,ds1,p1,q1,_,rfl,rfl,h1,r1⟩:=trodAll_cons r0;obtain⟨v2,vs2,d2,ds2,p2,q2,_,rfl,rfl,h2,r2⟩:=trodAll_cons r1;obtain⟨_,rfl,rfl⟩:=trodAll_nil r2;obtain⟨rfl,rfl⟩:=trodVars_none hV;exact⟨rfl,rfl,rfl⟩
set_option maxRecDepth 100000 in
theorem n7(H:Type)(en:TypeId×Value->H)(W:World)(aL:Nat)(args:Array Value)(ds gs:List (DataW H))(dw:List MemPlace)
  (hval:∀(j:Nat)t v,Tryd.f4.params[j]?=some t->args[j]?=some v->Value.okWide Tryd.prog W .any aL t v)
  (hW:DataW.Whole en Tryd.prog Tryd.f4.params.toList Rows.scriptBackSpec.vars false W args.toList ds gs dw) (hL:laidMetH Tryd.prog Rows.scriptTellsRow.laid W):
  Calls Tryd.prog 4 args W fun e W'=>∃v,e=.returned v/\Rows.scriptBackSpec.post en Tryd.prog Tryd.f4 false true false false W args v W':=
 DR (by kernel_rfl) Tryd.func4 rfl (by kernel_rfl) (by kernel_rfl) rfl Tryd.underlying4 rfl hW
  (r8 ds gs hW) (FU hL) hval (tys:=[(.sl y0),(.i .i64),.s]) (by kernel_rfl) (by kernel_rfl) N3 (fun p _=>NZ p.1 p.2.1 p.2.2)
theorem LA(os:Os){H:Type}(enc:TypeId×Value->H):∃places,DataW.whole enc Tryd.prog ((lh os).forCall (fun _ _=>0) ⟨#[], #[.slice none 0 0,.int .i64 0,.string ⟨#[]⟩],[]⟩).memory Tryd.f4.params.toList Rows.scriptBackSpec.vars false (#[.slice none 0 0,.int .i64 0,.string ⟨#[]⟩]:Array Value).toList 8=some ([.nil,.lit (.int .i64 0),.lit (.string [])],[],places):=⟨[],by kernel_rfl⟩
set_option maxRecDepth 100000 in
theorem Kg(os:Os)(started:os.Started)(H:Type)(enc:TypeId×Value->H)(F:Stop.Interp):
  ReturnsInHanded {} Tryd.checked os 4 .any ((OpenSpec.ofChange Rows.scriptBackSpec).preRow enc Tryd.prog Tryd.f4 Rows.scriptBackRow.domain false Rows.scriptBackRow.laid) (((OpenSpec.ofChange Rows.scriptBackSpec).at F).post enc Tryd.prog Tryd.f4 false true false false):=by
 obtain⟨places,hx⟩:=LA os enc
 refine returnsInHanded_of_row (C:=Tryd.checked) (s:=OpenSpec.ofChange Rows.scriptBackSpec) bf started (by kernel_rfl) Tryd.func4
  (witness_row_atRef (enc:=enc) (C:=Tryd.checked) false (lh os) #[.slice none 0 0,.int .i64 0,.string ⟨#[]⟩] rfl (by kernel_rfl) (by kernel_rfl) (by kernel_rfl)
   (OpenSpec.preRow_of_cond 8 hx (by kernel_rfl) (fun k hk=>by cases hk) (by kernel_rfl) (FA os _))) ?_
 intro W aL args ds gs dw hval hW _ _ _ hL _ _;exact n7 H enc W aL args ds gs dw hval hW hL
set_option maxRecDepth 100000 in
theorem MR:Rows.ScriptBackSaid:=
 OpenClaim.holds_of_cond 4 Tryd.f4 rfl rfl rfl rfl rfl rfl rfl ⟨rfl,rfl,rfl,rfl,rfl⟩ rfl rfl rfl rfl rfl (by kernel_rfl) Tryd.func4 (by kernel_rfl)
  (of_decide_eq_true (by kernel_rfl)) (by unfold Func.isWrapper;first|(rw[if_pos (by decide+kernel)];kernel_rfl)|(rw[if_neg (by decide+kernel)];exact⟨rfl,rfl⟩))
  (fun os started H enc _ F=>by rw[OpenClaim.pre_eq_preRow];exact Kg os started H enc F)
theorem ck(f:FuncId)(fn:Func)(hf:Tryd.pinned.checked.prog.funcNamed "turnout/turnoutlaw39.ScriptBack" =some f)(hfn:Tryd.pinned.checked.prog.funcs[f]?=some fn):
  true=Tryd.pinned.checked.prog.looks []/\∀(j:Nat)t,fn.params[j]?=some t->Tryd.pinned.checked.prog.wantsStandIn t=false:=by
 obtain rfl:f=4:=aa ((show Tryd.prog.funcNamed "turnout/turnoutlaw39.ScriptBack" =some 4 by kernel_rfl).symm.trans hf)|>.symm;obtain rfl:fn=Tryd.f4:=(aa (Tryd.func4.symm.trans hfn)).symm;refine⟨by kernel_rfl,fun j t ht=>?_⟩;rw[Tryd.params4]at ht;have w3:Tryd.prog.wantsStandIn 3=false:=by kernel_rfl
 have w9:Tryd.prog.wantsStandIn 9=false:=by kernel_rfl
 have w22:Tryd.prog.wantsStandIn 22=false:=by kernel_rfl
 have hm:t∈[22,3,9]:=by have:=Array.mem_of_getElem? ht;simpa using this
 simp only[List.mem_cons,List.not_mem_nil,or_false]at hm;rcases hm with rfl|rfl|rfl
 .exact w22
 .exact w3
 .exact w9
theorem scriptBack_holds:Rows.ScriptBackCardSaid:=Claim7.holds_tied_plain_at .later [] _ _ _ _ MR (fun _ h=>by cases h) (by kernel_rfl) (fun _ h=>by cases h) scriptBack_row_tie rfl ⟨rfl,rfl⟩ (by kernel_rfl) rfl ck (by kernel_rfl)
#print axioms scriptBack_holds
end Go.Proofs.YtbcmbckpebpijaaDoor.C
