/- The statement JudgeFindsCardSaid: from the law's program to what is asked. Conditions: none. -/
import Derived.Test.YthcplpfiidlinaaDoorJQ
import Derived.Test.YthcplpfiidlinaaDoorJI
import Derived.Test.YthcplpfiidlinaaDoorKm
import Derived.Test.YthcplpfiidlinaaDoorCards
import Derived.Test.YthcplpfiidlinaaDoorTie
import Derived.ProofKit
import Derived.OpenShut
import Derived.Deep.DeepHandedRow
import Derived.Lib.LaidTab
open Option.some renaming inj->aa
open Go.Ev Go
open Go.ChangeShapes Go.WideShapes Go.ChangeAt Go.RowKit
noncomputable section
namespace Go.Proofs.YthcplpfiidlinaaDoor.J
theorem xB{H:Type}{en:TypeId×Value->H}{W:World}{args:Array Value}(ds gs:List (DataW H)){ff:List MemPlace}(hW:DataW.Whole en Tryd.prog Tryd.f7.params.toList Rows.judgeFindsSpec.vars false W args.toList ds gs ff):
  (Rows.judgeFindsSpec.fn H (ds++gs)).results=[.lit (.bool true)]/\(Rows.judgeFindsSpec.fn H (ds++gs)).args=ds/\(Rows.judgeFindsSpec.fn H (ds++gs)).vars=[]:=by
 obtain⟨p,q,hA0,hV,_⟩:=hW;have hA:DataW.TrodAll en Tryd.prog W 0 (fun _=>true) true Tryd.f7.params.toList args.toList ds p:=hA0;rw[Tryd.params7]at hA;obtain⟨v0,vs0,d0,ds0,p0,q0,_,rfl,rfl,h0,r0⟩:=trodAll_cons hA;obtain⟨v1,vs1,d1,ds1,p1,q1,_,rfl,rfl,h1,r1⟩:=trodAll_cons r0;obtain⟨v2,vs2,d2,ds2,p2,q2,_,rfl,rfl,h2,r2⟩:=trodAll_cons r1;obtain⟨v3,vs3,d3,ds3,p3,q3,_,rfl,rfl,h3,r3⟩:=trodAll_cons r2;obtain⟨v4,vs4,d4,ds4,p4,q4,_,rfl,rfl,h4,r4⟩:=trodAll_cons r3;obtain⟨v5,vs5,d5,ds5,p5,q5,_,rfl,rfl,h5,r5⟩:=trodAll_cons r4;obtain⟨v6,vs6,d6,ds6,p6,q6,_,rfl,rfl,h6,r6⟩:=trodAll_cons r5;obtain⟨_,rfl,rfl⟩:=trodAll_nil r6;obtain⟨rfl,rfl⟩:=trodVars_none hV;exact⟨rfl,rfl,rfl⟩
theorem Sz:Tryd.prog.globalNamed "math/bits.deBruijn32tab" =some 0:=by kernel_rfl
theorem L8:(Tryd.prog.globals[0]?).map (·.type)=some 141:=by kernel_rfl
theorem Rc:Tryd.prog.cellsOf 141=32:=by kernel_rfl
theorem Rb:Tryd.prog.cellsOf 5=1:=by kernel_rfl
theorem R3{W:World}(h:laidMetH Tryd.prog Rows.judgeFindsRow.laid W):Lib.TabIs Tryd.prog W "math/bits.deBruijn32tab" .u8 [0,1,28,2,29,14,24,3,30,22,20,15,25,17,4,8,31,27,13,23,21,19,16,7,26,12,18,6,11,5,10,9]:=Lib.tabIs_of_head (rest:=[]) Sz L8 Tryd.underlying141 Tryd.underlying5 Rb Rc h
theorem L5{W:World}(h:laidMetH Tryd.prog Rows.judgeFindsRow.laid W):u4 (S0 W) W:=by
 have hc:=fun j hj=>(R3 h).cell Sz j hj;refine L4 (k:=.u8) (l:=[0,1,28,2,29,14,24,3,30,22,20,15,25,17,4,8,31,27,13,23,21,19,16,7,26,12,18,6,11,5,10,9]) (fun g d hg=>?_) ?_ (fun j x hx=>?_)
 .unfold QO at hg;split at hg
  .rename_i h0;exact⟨h0,(aa hg).symm⟩
  .simp at hg
 .have h0:=hc 0 (by decide);cases hs:W.heap[0]?with
  |none=>simp[World.cell?,hs]at h0
  |some o=>exact(Array.getElem?_eq_some_iff.1 hs).1
 .obtain ⟨hj,e⟩:=List.getElem?_eq_some_iff.1 hx;rw[hc j hj,List.getD_eq_getElem?_getD,hx];rfl
set_option maxRecDepth 100000 in
theorem uf(H:Type)(en:TypeId×Value->H)(W:World)(aR:Nat)(args:Array Value)(ds gs:List (DataW H))(ff:List MemPlace)
  (hval:∀(j:Nat)t v,Tryd.f7.params[j]?=some t->args[j]?=some v->Value.okWide Tryd.prog W .any aR t v)
  (hW:DataW.Whole en Tryd.prog Tryd.f7.params.toList Rows.judgeFindsSpec.vars false W args.toList ds gs ff) (hL:laidMetH Tryd.prog Rows.judgeFindsRow.laid W):
  Calls Tryd.prog 7 args W fun e W'=>∃v,e=.returned v/\Rows.judgeFindsSpec.post en Tryd.prog Tryd.f7 false true false false W args v W':=
 JL (by kernel_rfl) Tryd.func7 rfl (by kernel_rfl) (by kernel_rfl) rfl Tryd.underlying4 rfl hW
  (xB ds gs hW) (L5 hL) hval (tys:=[y0,(.sl (.sl (.i .i64))),(.sl (.sl (.i .i64))),(.i .i64),(.i .i64),(.i .i64),(.i .i64)]) (by kernel_rfl) (by kernel_rfl) Ud (fun p hfit=>Jr p.1 p.2.1 p.2.2.1 p.2.2.2.1 p.2.2.2.2.1 p.2.2.2.2.2.1 p.2.2.2.2.2.2 (HL (Mm (Mm hfit rfl).2 rfl).1) (HL (Mm (Mm (Mm hfit rfl).2 rfl).2 rfl).1))
theorem bv:ownKnob Tryd.prog.godebug=none:=by kernel_rfl
def wx(os:Os):World:=
 {World.holding Tryd.prog os ⟨#[], #[],[]⟩with heap:=(World.holding Tryd.prog os ⟨#[], #[],[]⟩).heap.modify 0 fun
   |.cells _ t frozen=>.cells #[.int .u8 0,.int .u8 1,.int .u8 28,.int .u8 2,.int .u8 29,.int .u8 14,.int .u8 24,.int .u8 3,.int .u8 30,.int .u8 22,.int .u8 20,.int .u8 15,.int .u8 25,.int .u8 17,.int .u8 4,.int .u8 8,.int .u8 31,.int .u8 27,.int .u8 13,.int .u8 23,.int .u8 21,.int .u8 19,.int .u8 16,.int .u8 7,.int .u8 26,.int .u8 12,.int .u8 18,.int .u8 6,.int .u8 11,.int .u8 5,.int .u8 10,.int .u8 9] t frozen
   |o=>o}
theorem LF(os:Os):laidMet Tryd.prog Rows.judgeFindsRow.laid ((wx os).forCall (fun _ _=>0) ⟨#[], #[(.agg #[(.int .i64 0),(.slice none 0 0),(.slice none 0 0)]),(.slice none 0 0),(.slice none 0 0),(.int .i64 0),(.int .i64 0),(.int .i64 0),(.int .i64 0)],[]⟩).memory:=laidMet_of_run' 8 (by kernel_rfl) (by kernel_rfl)
theorem R9(os:Os){H:Type}(enc:TypeId×Value->H):∃places,DataW.whole enc Tryd.prog ((wx os).forCall (fun _ _=>0) ⟨#[], #[(.agg #[(.int .i64 0),(.slice none 0 0),(.slice none 0 0)]),(.slice none 0 0),(.slice none 0 0),(.int .i64 0),(.int .i64 0),(.int .i64 0),(.int .i64 0)],[]⟩).memory Tryd.f7.params.toList Rows.judgeFindsSpec.vars false (#[(.agg #[(.int .i64 0),(.slice none 0 0),(.slice none 0 0)]),(.slice none 0 0),(.slice none 0 0),(.int .i64 0),(.int .i64 0),(.int .i64 0),(.int .i64 0)]:Array Value).toList 8=some ([.agg [.lit (.int .i64 0),.nil,.nil],.nil,.nil,.lit (.int .i64 0),.lit (.int .i64 0),.lit (.int .i64 0),.lit (.int .i64 0)],[],places):=⟨[],by kernel_rfl⟩
set_option maxRecDepth 100000 in
theorem QG(os:Os)(started:os.Started)(H:Type)(enc:TypeId×Value->H)(F:Stop.Interp):
  ReturnsInHanded {} Tryd.checked os 7 .any ((OpenSpec.ofChange Rows.judgeFindsSpec).preRow enc Tryd.prog Tryd.f7 Rows.judgeFindsRow.domain false Rows.judgeFindsRow.laid) (((OpenSpec.ofChange Rows.judgeFindsSpec).at F).post enc Tryd.prog Tryd.f7 false true false false):=by
 obtain⟨places,hx⟩:=R9 os enc
 refine returnsInHanded_of_row (C:=Tryd.checked) (s:=OpenSpec.ofChange Rows.judgeFindsSpec) bv started (by kernel_rfl) Tryd.func7
  (witness_row_at (enc:=enc) (C:=Tryd.checked) false (wx os) #[(.agg #[(.int .i64 0),(.slice none 0 0),(.slice none 0 0)]),(.slice none 0 0),(.slice none 0 0),(.int .i64 0),(.int .i64 0),(.int .i64 0),(.int .i64 0)] rfl (by kernel_rfl) (by kernel_rfl) (by kernel_rfl)
   (OpenSpec.preRow_of_cond 8 hx (by kernel_rfl) (fun k hk=>by cases hk) (by kernel_rfl) (LF os))) ?_
 intro W aR args ds gs ff hval hW _ _ _ hL _ _;exact uf H enc W aR args ds gs ff hval hW hL
set_option maxRecDepth 100000 in
theorem T9:Rows.JudgeFindsSaid:=
 OpenClaim.holds_of_cond 7 Tryd.f7 rfl rfl rfl rfl rfl rfl rfl ⟨rfl,rfl,rfl,rfl,rfl⟩ rfl rfl rfl rfl rfl (by kernel_rfl) Tryd.func7 (by kernel_rfl)
  (of_decide_eq_true (by kernel_rfl)) (by unfold Func.isWrapper;first|(rw[if_pos (by decide+kernel)];kernel_rfl)|(rw[if_neg (by decide+kernel)];exact⟨rfl,rfl⟩))
  (fun os started H enc _ F=>by rw[OpenClaim.pre_eq_preRow];exact QG os started H enc F)
theorem eu(f:FuncId)(fn:Func)(hf:Tryd.pinned.checked.prog.funcNamed "turnout/turnoutlaw25.JudgeFinds" =some f)(hfn:Tryd.pinned.checked.prog.funcs[f]?=some fn):
  false=Tryd.pinned.checked.prog.looks []/\∀(j:Nat)t,fn.params[j]?=some t->Tryd.pinned.checked.prog.wantsStandIn t=false:=by
 obtain rfl:f=7:=aa ((show Tryd.prog.funcNamed "turnout/turnoutlaw25.JudgeFinds" =some 7 by kernel_rfl).symm.trans hf)|>.symm;obtain rfl:fn=Tryd.f7:=(aa (Tryd.func7.symm.trans hfn)).symm;refine⟨by kernel_rfl,fun j t ht=>?_⟩;rw[Tryd.params7]at ht;have w25:Tryd.prog.wantsStandIn 25=false:=by kernel_rfl
 have w27:Tryd.prog.wantsStandIn 27=false:=by kernel_rfl
 have w3:Tryd.prog.wantsStandIn 3=false:=by kernel_rfl
 have hm:t∈[25,27,27,3,3,3,3]:=by have:=Array.mem_of_getElem? ht;simpa using this
 simp only[List.mem_cons,List.not_mem_nil,or_false]at hm;rcases hm with rfl|rfl|rfl|rfl|rfl|rfl|rfl
 .exact w25
 .exact w27
 .exact w27
 .exact w3
 .exact w3
 .exact w3
 .exact w3
theorem judgeFinds_holds:Rows.JudgeFindsCardSaid:=Claim7.holds_tied_plain_at .later [] _ _ _ _ T9 (fun _ h=>by cases h) (by kernel_rfl) (fun _ h=>by cases h) judgeFinds_row_tie rfl ⟨rfl,rfl⟩ (by kernel_rfl) rfl eu (by kernel_rfl)
#print axioms judgeFinds_holds
end Go.Proofs.YthcplpfiidlinaaDoor.J
