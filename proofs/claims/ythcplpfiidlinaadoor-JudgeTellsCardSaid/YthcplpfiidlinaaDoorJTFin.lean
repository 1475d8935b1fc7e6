/- The statement JudgeTellsCardSaid: from the law's program to what is asked. Conditions: none. -/
import Derived.Test.YthcplpfiidlinaaDoorJF
import Derived.Test.YthcplpfiidlinaaDoorJI
import Derived.Test.YthcplpfiidlinaaDoorKm
import Derived.Test.YthcplpfiidlinaaDoorCards
import Derived.Test.YthcplpfiidlinaaDoorTie
import Derived.ProofKit
import Derived.OpenShut
import Derived.Deep.DeepHandedRow
import Derived.Lib.LaidTab
open Go.Ev Go
open Go.ChangeShapes Go.WideShapes Go.ChangeAt Go.RowKit
noncomputable section
open Option.some renaming inj->aa
namespace Go.Proofs.YthcplpfiidlinaaDoor.J
theorem xL{H:Type}{en:TypeId×Value->H}{W:World}{args:Array Value}(ds gs:List (DataW H)){eX:List MemPlace}(hW:DataW.Whole en Tryd.prog Tryd.f3.params.toList Rows.judgeTellsSpec.vars false W args.toList ds gs eX):
  (Rows.judgeTellsSpec.fn H (ds++gs)).results=[.lit (.bool true)]/\(Rows.judgeTellsSpec.fn H (ds++gs)).args=ds/\(Rows.judgeTellsSpec.fn H (ds++gs)).vars=[]:=by
 obtain⟨p,q,hA0,hV,_⟩:=hW;have hA:DataW.TrodAll en Tryd.prog W 0 (fun _=>true) true Tryd.f3.params.toList args.toList ds p:=hA0;rw[Tryd.params3]at hA;obtain⟨v0,vs0,d0,ds0,p0,q0,_,rfl,rfl,h0,r0⟩:=trodAll_cons hA;obtain⟨v1,vs1,d1,ds1,p1,q1,_,rfl,rfl,h1,r1⟩:=trodAll_cons r0;obtain⟨v2,vs2,d2,ds2,p2,q2,_,rfl,rfl,h2,r2⟩:=trodAll_cons r1;obtain⟨v3,vs3,d3,ds3,p3,q3,_,rfl,rfl,h3,r3⟩:=trodAll_cons r2;obtain⟨v4,vs4,d4,ds4,p4,q4,_,rfl,rfl,h4,r4⟩:=trodAll_cons r3;obtain⟨_,rfl,rfl⟩:=trodAll_nil r4;obtain⟨rfl,rfl⟩:=trodVars_none hV;exact⟨rfl,rfl,rfl⟩
theorem QG:Tryd.prog.globalNamed "math/bits.deBruijn32tab" =some 0:=by kernel_rfl
theorem K9:(Tryd.prog.globals[0]?).map (·.type)=some 141:=by kernel_rfl
theorem PI:Tryd.prog.cellsOf 141=32:=by kernel_rfl
theorem PH:Tryd.prog.cellsOf 5=1:=by kernel_rfl
theorem Qj{W:World}(h:laidMetH Tryd.prog Rows.judgeTellsRow.laid W):Lib.TabIs Tryd.prog W "math/bits.deBruijn32tab" .u8 [0,1,28,2,29,14,24,3,30,22,20,15,25,17,4,8,31,27,13,23,21,19,16,7,26,12,18,6,11,5,10,9]:=Lib.tabIs_of_head (rest:=[]) QG K9 Tryd.underlying141 Tryd.underlying5 PH PI h
theorem K7{W:World}(h:laidMetH Tryd.prog Rows.judgeTellsRow.laid W):Ay (S0 W) W:=by
 have hc:=fun j hj=>(Qj h).cell QG j hj;refine K6 (k:=.u8) (l:=[0,1,28,2,29,14,24,3,30,22,20,15,25,17,4,8,31,27,13,23,21,19,16,7,26,12,18,6,11,5,10,9]) (fun g d hg=>?_) ?_ (fun j x hx=>?_)
 .unfold Pj at hg;split at hg
  .rename_i h0;exact⟨h0,(aa hg).symm⟩
  .simp at hg
 .have h0:=hc 0 (by decide);cases hs:W.heap[0]?with
  |none=>simp[World.cell?,hs]at h0
  |some o=>exact(Array.getElem?_eq_some_iff.1 hs).1
 .obtain ⟨hj,e⟩:=List.getElem?_eq_some_iff.1 hx;rw[hc j hj,List.getD_eq_getElem?_getD,hx];rfl
set_option maxRecDepth 100000 in
theorem uw(H:Type)(en:TypeId×Value->H)(W:World)(aT:Nat)(args:Array Value)(ds gs:List (DataW H))(eX:List MemPlace)
  (hval:∀(j:Nat)t v,Tryd.f3.params[j]?=some t->args[j]?=some v->Value.okWide Tryd.prog W .any aT t v)
  (hW:DataW.Whole en Tryd.prog Tryd.f3.params.toList Rows.judgeTellsSpec.vars false W args.toList ds gs eX) (hL:laidMetH Tryd.prog Rows.judgeTellsRow.laid W):
  Calls Tryd.prog 3 args W fun e W'=>∃v,e=.returned v/\Rows.judgeTellsSpec.post en Tryd.prog Tryd.f3 false true false false W args v W':=
 I1 (by kernel_rfl) Tryd.func3 rfl (by kernel_rfl) (by kernel_rfl) rfl Tryd.underlying4 rfl hW
  (xL ds gs hW) (K7 hL) hval (tys:=[y0,(.sl (.sl (.i .i64))),(.sl (.sl (.i .i64))),y3,(.i .i64)]) (by kernel_rfl) (by kernel_rfl) Sy (fun p hfit=>HH p.1 p.2.1 p.2.2.1 p.2.2.2.1 p.2.2.2.2 (Cc (Cb (Cb hfit rfl).2 rfl).1) (Cc (Cb (Cb (Cb hfit rfl).2 rfl).2 rfl).1) (Cc (Cb (Cb (Cb (Cb hfit rfl).2 rfl).2 rfl).2 rfl).1.2.1))
theorem bG:ownKnob Tryd.prog.godebug=none:=by kernel_rfl
def wL(os:Os):World:=
 {World.holding Tryd.prog os ⟨#[], #[],[]⟩with heap:=(World.holding Tryd.prog os ⟨#[], #[],[]⟩).heap.modify 0 fun
   |.cells _ t frozen=>.cells #[.int .u8 0,.int .u8 1,.int .u8 28,.int .u8 2,.int .u8 29,.int .u8 14,.int .u8 24,.int .u8 3,.int .u8 30,.int .u8 22,.int .u8 20,.int .u8 15,.int .u8 25,.int .u8 17,.int .u8 4,.int .u8 8,.int .u8 31,.int .u8 27,.int .u8 13,.int .u8 23,.int .u8 21,.int .u8 19,.int .u8 16,.int .u8 7,.int .u8 26,.int .u8 12,.int .u8 18,.int .u8 6,.int .u8 11,.int .u8 5,.int .u8 10,.int .u8 9] t frozen
   |o=>o}
theorem KH(os:Os):laidMet Tryd.prog Rows.judgeTellsRow.laid ((wL os).forCall (fun _ _=>0) ⟨#[], #[(.agg #[(.int .i64 0),(.slice none 0 0),(.slice none 0 0)]),(.slice none 0 0),(.slice none 0 0),(.agg #[(.slice none 0 0),(.slice none 0 0),(.int .i64 0),(.int .i64 0),(.int .i64 0),(.int .i64 0)]),(.int .i64 0)],[]⟩).memory:=laidMet_of_run' 8 (by kernel_rfl) (by kernel_rfl)
theorem Qm(os:Os){H:Type}(enc:TypeId×Value->H):∃places,DataW.whole enc Tryd.prog ((wL os).forCall (fun _ _=>0) ⟨#[], #[(.agg #[(.int .i64 0),(.slice none 0 0),(.slice none 0 0)]),(.slice none 0 0),(.slice none 0 0),(.agg #[(.slice none 0 0),(.slice none 0 0),(.int .i64 0),(.int .i64 0),(.int .i64 0),(.int .i64 0)]),(.int .i64 0)],[]⟩).memory Tryd.f3.params.toList Rows.judgeTellsSpec.vars false (#[(.agg #[(.int .i64 0),(.slice none 0 0),(.slice none 0 0)]),(.slice none 0 0),(.slice none 0 0),(.agg #[(.slice none 0 0),(.slice none 0 0),(.int .i64 0),(.int .i64 0),(.int .i64 0),(.int .i64 0)]),(.int .i64 0)]:Array Value).toList 8=some ([.agg [.lit (.int .i64 0),.nil,.nil],.nil,.nil,.agg [.nil,.nil,.lit (.int .i64 0),.lit (.int .i64 0),.lit (.int .i64 0),.lit (.int .i64 0)],.lit (.int .i64 0)],[],places):=⟨[],by kernel_rfl⟩
set_option maxRecDepth 100000 in
theorem O9(os:Os)(started:os.Started)(H:Type)(enc:TypeId×Value->H)(F:Stop.Interp):
  ReturnsInHanded {} Tryd.checked os 3 .any ((OpenSpec.ofChange Rows.judgeTellsSpec).preRow enc Tryd.prog Tryd.f3 Rows.judgeTellsRow.domain false Rows.judgeTellsRow.laid) (((OpenSpec.ofChange Rows.judgeTellsSpec).at F).post enc Tryd.prog Tryd.f3 false true false false):=by
 obtain⟨places,hx⟩:=Qm os enc
 refine returnsInHanded_of_row (C:=Tryd.checked) (s:=OpenSpec.ofChange Rows.judgeTellsSpec) bG started (by kernel_rfl) Tryd.func3
  (witness_row_at (enc:=enc) (C:=Tryd.checked) false (wL os) #[(.agg #[(.int .i64 0),(.slice none 0 0),(.slice none 0 0)]),(.slice none 0 0),(.slice none 0 0),(.agg #[(.slice none 0 0),(.slice none 0 0),(.int .i64 0),(.int .i64 0),(.int .i64 0),(.int .i64 0)]),(.int .i64 0)] rfl (by kernel_rfl) (by kernel_rfl) (by kernel_rfl)
   (OpenSpec.preRow_of_cond 8 hx (by kernel_rfl) (fun k hk=>by cases hk) (by kernel_rfl) (KH os))) ?_
 intro W aT args ds gs eX hval hW _ _ _ hL _ _;exact uw H enc W aT args ds gs eX hval hW hL
set_option maxRecDepth 100000 in
theorem Sr:Rows.JudgeTellsSaid:=
 OpenClaim.holds_of_cond 3 Tryd.f3 rfl rfl rfl rfl rfl rfl rfl ⟨rfl,rfl,rfl,rfl,rfl⟩ rfl rfl rfl rfl rfl (by kernel_rfl) Tryd.func3 (by kernel_rfl)
  (of_decide_eq_true (by kernel_rfl)) (by unfold Func.isWrapper;first|(rw[if_pos (by decide+kernel)];kernel_rfl)|(rw[if_neg (by decide+kernel)];exact⟨rfl,rfl⟩))
  (fun os started H enc _ F=>by rw[OpenClaim.pre_eq_preRow];exact O9 os started H enc F)
theorem fB(f:FuncId)(fn:Func)(hf:Tryd.pinned.checked.prog.funcNamed "turnout/turnoutlaw25.JudgeTells" =some f)(hfn:Tryd.pinned.checked.prog.funcs[f]?=some fn):
  false=Tryd.pinned.checked.prog.looks []/\∀(j:Nat)t,fn.params[j]?=some t->Tryd.pinned.checked.prog.wantsStandIn t=false:=by
 obtain rfl:f=3:=aa ((show Tryd.prog.funcNamed "turnout/turnoutlaw25.JudgeTells" =some 3 by kernel_rfl).symm.trans hf)|>.symm;obtain rfl:fn=Tryd.f3:=(aa (Tryd.func3.symm.trans hfn)).symm;refine⟨by kernel_rfl,fun j t ht=>?_⟩;rw[Tryd.params3]at ht;have w25:Tryd.prog.wantsStandIn 25=false:=by kernel_rfl
 have w27:Tryd.prog.wantsStandIn 27=false:=by kernel_rfl
 have w31:Tryd.prog.wantsStandIn 31=false:=by kernel_rfl
 have w3:Tryd.prog.wantsStandIn 3=false:=by kernel_rfl
 have hm:t∈[25,27,27,31,3]:=by have:=Array.mem_of_getElem? ht;simpa using this
 simp only[List.mem_cons,List.not_mem_nil,or_false]at hm;rcases hm with rfl|rfl|rfl|rfl|rfl
 .exact w25
 .exact w27
 .exact w27
 .exact w31
 .exact w3
theorem judgeTells_holds:Rows.JudgeTellsCardSaid:=Claim7.holds_tied_plain_at .later [] _ _ _ _ Sr (fun _ h=>by cases h) (by kernel_rfl) (fun _ h=>by cases h) judgeTells_row_tie rfl ⟨rfl,rfl⟩ (by kernel_rfl) rfl fB (by kernel_rfl)
#print axioms judgeTells_holds
end Go.Proofs.YthcplpfiidlinaaDoor.J
