/- The statement LevelUnionCardSaid: from the law's program to what is asked. Conditions: none. -/
import Derived.Test.YtpnnnoagjcpmhaaDoorUL
import Derived.Test.YtpnnnoagjcpmhaaDoorFit
import Derived.Test.YtpnnnoagjcpmhaaDoorKm
import Derived.Test.YtpnnnoagjcpmhaaDoorCards
import Derived.Test.YtpnnnoagjcpmhaaDoorTie
import Derived.ProofKit
import Derived.OpenShut
import Derived.Deep.DeepHandedRow
import Derived.Lib.LaidTab
open Option.some renaming inj->aa
open Go.Ev Go
open Go.ChangeShapes Go.WideShapes Go.ChangeAt Go.RowKit
noncomputable section
namespace Go.Proofs.YtpnnnoagjcpmhaaDoor.U
theorem vd{H:Type}{en:TypeId×Value->H}{W:World}{args:Array Value}(ds gs:List (DataW H)){eB:List MemPlace}(hW:DataW.Whole en Tryd.prog Tryd.f3.params.toList Rows.levelUnionSpec.vars false W args.toList ds gs eB):
  (Rows.levelUnionSpec.fn H (ds++gs)).results=[.lit (.bool true)]/\(Rows.levelUnionSpec.fn H (ds++gs)).args=ds/\(Rows.levelUnionSpec.fn H (ds++gs)).vars=[]:=by
 obtain⟨p,q,hA0,hV,_⟩:=hW;have hA:DataW.TrodAll en Tryd.prog W 0 (fun _=>true) true Tryd.f3.params.toList args.toList ds p:=hA0;rw[Tryd.params3]at hA;obtain⟨v0,vs0,d0,ds0,p0,q0,_,rfl,rfl,h0,r0⟩:=trodAll_cons hA;obtain⟨v1,vs1,d1,ds1,p1,q1,_,rfl,rfl,h1,r1⟩:=trodAll_cons r0;obtain⟨v2,vs2,d2,ds2,p2,q2,_,rfl,rfl,h2,r2⟩:=trodAll_cons r1;obtain⟨v3,vs3,d3,ds3,p3,q3,_,rfl,rfl,h3,r3⟩:=trodAll_cons r2;obtain⟨v4,vs4,d4,ds4,p4,q4,_,rfl,rfl,h4,r4⟩:=trodAll_cons r3;obtain⟨_,rfl,rfl⟩:=trodAll_nil r4;obtain⟨rfl,rfl⟩:=trodVars_none hV;exact⟨rfl,rfl,rfl⟩
theorem PK:Tryd.prog.globalNamed "math/bits.deBruijn32tab" =some 0:=by kernel_rfl
theorem Jx:(Tryd.prog.globals[0]?).map (·.type)=some 83:=by kernel_rfl
theorem OJ:Tryd.prog.cellsOf 83=32:=by kernel_rfl
theorem OI:Tryd.prog.cellsOf 5=1:=by kernel_rfl
theorem Pk{W:World}(h:laidMetH Tryd.prog Rows.levelUnionRow.laid W):Lib.TabIs Tryd.prog W "math/bits.deBruijn32tab" .u8 [0,1,28,2,29,14,24,3,30,22,20,15,25,17,4,8,31,27,13,23,21,19,16,7,26,12,18,6,11,5,10,9]:=Lib.tabIs_of_head (rest:=[]) PK Jx Tryd.underlying83 Tryd.underlying5 OI OJ h
theorem Ju{W:World}(h:laidMetH Tryd.prog Rows.levelUnionRow.laid W):sE (S0 W) W:=by
 have hc:=fun j hj=>(Pk h).cell PK j hj;refine Jt (k:=.u8) (l:=[0,1,28,2,29,14,24,3,30,22,20,15,25,17,4,8,31,27,13,23,21,19,16,7,26,12,18,6,11,5,10,9]) (fun g d hg=>?_) ?_ (fun j x hx=>?_)
 .unfold Oe at hg;split at hg
  .rename_i h0;exact⟨h0,(aa hg).symm⟩
  .simp at hg
 .have h0:=hc 0 (by decide);cases hs:W.heap[0]?with
  |none=>simp[World.cell?,hs]at h0
  |some o=>exact(Array.getElem?_eq_some_iff.1 hs).1
 .obtain ⟨hj,e⟩:=List.getElem?_eq_some_iff.1 hx;rw[hc j hj,List.getD_eq_getElem?_getD,hx];rfl
set_option maxRecDepth 100000 in
theorem rB(H:Type)(en:TypeId×Value->H)(W:World)(aL:Nat)(args:Array Value)(ds gs:List (DataW H))(eB:List MemPlace)
  (hval:∀(j:Nat)t v,Tryd.f3.params[j]?=some t->args[j]?=some v->Value.okWide Tryd.prog W .any aL t v)
  (hW:DataW.Whole en Tryd.prog Tryd.f3.params.toList Rows.levelUnionSpec.vars false W args.toList ds gs eB) (hL:laidMetH Tryd.prog Rows.levelUnionRow.laid W):
  Calls Tryd.prog 3 args W fun e W'=>∃v,e=.returned v/\Rows.levelUnionSpec.post en Tryd.prog Tryd.f3 false true false false W args v W':=
 Hb (by kernel_rfl) Tryd.func3 rfl (by kernel_rfl) (by kernel_rfl) rfl Tryd.underlying4 rfl hW
  (vd ds gs hW) (Ju hL) hval (tys:=[y0,(.sl (.sl (.i .i64))),(.sl (.sl (.i .i64))),(.i .i64),(.i .i64)]) (by kernel_rfl) (by kernel_rfl) QZ (fun p hfit=>FH p.1 p.2.1 p.2.2.1 p.2.2.2.1 p.2.2.2.2 (Fi (JL (JL hfit rfl).2 rfl).1) (Fi (JL (JL (JL hfit rfl).2 rfl).2 rfl).1))
theorem bn:ownKnob Tryd.prog.godebug=none:=by kernel_rfl
def ui(os:Os):World:=
 {World.holding Tryd.prog os ⟨#[], #[],[]⟩with heap:=(World.holding Tryd.prog os ⟨#[], #[],[]⟩).heap.modify 0 fun
   |.cells _ t frozen=>.cells #[.int .u8 0,.int .u8 1,.int .u8 28,.int .u8 2,.int .u8 29,.int .u8 14,.int .u8 24,.int .u8 3,.int .u8 30,.int .u8 22,.int .u8 20,.int .u8 15,.int .u8 25,.int .u8 17,.int .u8 4,.int .u8 8,.int .u8 31,.int .u8 27,.int .u8 13,.int .u8 23,.int .u8 21,.int .u8 19,.int .u8 16,.int .u8 7,.int .u8 26,.int .u8 12,.int .u8 18,.int .u8 6,.int .u8 11,.int .u8 5,.int .u8 10,.int .u8 9] t frozen
   |o=>o}
theorem I8(os:Os):laidMet Tryd.prog Rows.levelUnionRow.laid ((ui os).forCall (fun _ _=>0) ⟨#[], #[(.agg #[(.int .i64 0),(.slice none 0 0),(.slice none 0 0)]),(.slice none 0 0),(.slice none 0 0),(.int .i64 0),(.int .i64 0)],[]⟩).memory:=laidMet_of_run' 8 (by kernel_rfl) (by kernel_rfl)
theorem Pr(os:Os){H:Type}(enc:TypeId×Value->H):∃places,DataW.whole enc Tryd.prog ((ui os).forCall (fun _ _=>0) ⟨#[], #[(.agg #[(.int .i64 0),(.slice none 0 0),(.slice none 0 0)]),(.slice none 0 0),(.slice none 0 0),(.int .i64 0),(.int .i64 0)],[]⟩).memory Tryd.f3.params.toList Rows.levelUnionSpec.vars false (#[(.agg #[(.int .i64 0),(.slice none 0 0),(.slice none 0 0)]),(.slice none 0 0),(.slice none 0 0),(.int .i64 0),(.int .i64 0)]:Array Value).toList 8=some ([.agg [.lit (.int .i64 0),.nil,.nil],.nil,.nil,.lit (.int .i64 0),.lit (.int .i64 0)],[],places):=⟨[],by kernel_rfl⟩
set_option maxRecDepth 100000 in
theorem N4(os:Os)(started:os.Started)(H:Type)(enc:TypeId×Value->H)(F:Stop.Interp):
  ReturnsInHanded {} Tryd.checked os 3 .any ((OpenSpec.ofChange Rows.levelUnionSpec).preRow enc Tryd.prog Tryd.f3 Rows.levelUnionRow.domain false Rows.levelUnionRow.laid) (((OpenSpec.ofChange Rows.levelUnionSpec).at F).post enc Tryd.prog Tryd.f3 false true false false):=by
 obtain⟨places,hx⟩:=Pr os enc
 refine returnsInHanded_of_row (C:=Tryd.checked) (s:=OpenSpec.ofChange Rows.levelUnionSpec) bn started (by kernel_rfl) Tryd.func3
  (witness_row_at (enc:=enc) (C:=Tryd.checked) false (ui os) #[(.agg #[(.int .i64 0),(.slice none 0 0),(.slice none 0 0)]),(.slice none 0 0),(.slice none 0 0),(.int .i64 0),(.int .i64 0)] rfl (by kernel_rfl) (by kernel_rfl) (by kernel_rfl)
   (OpenSpec.preRow_of_cond 8 hx (by kernel_rfl) (fun k hk=>by cases hk) (by kernel_rfl) (I8 os))) ?_
 intro W aL args ds gs eB hval hW _ _ _ hL _ _;exact rB H enc W aL args ds gs eB hval hW hL
set_option maxRecDepth 100000 in
theorem QU:Rows.LevelUnionSaid:=
 OpenClaim.holds_of_cond 3 Tryd.f3 rfl rfl rfl rfl rfl rfl rfl ⟨rfl,rfl,rfl,rfl,rfl⟩ rfl rfl rfl rfl rfl (by kernel_rfl) Tryd.func3 (by kernel_rfl)
  (of_decide_eq_true (by kernel_rfl)) (by unfold Func.isWrapper;first|(rw[if_pos (by decide+kernel)];kernel_rfl)|(rw[if_neg (by decide+kernel)];exact⟨rfl,rfl⟩))
  (fun os started H enc _ F=>by rw[OpenClaim.pre_eq_preRow];exact N4 os started H enc F)
theorem dP(f:FuncId)(fn:Func)(hf:Tryd.pinned.checked.prog.funcNamed "turnout/turnoutlaw23.LevelUnion" =some f)(hfn:Tryd.pinned.checked.prog.funcs[f]?=some fn):
  false=Tryd.pinned.checked.prog.looks []/\∀(j:Nat)t,fn.params[j]?=some t->Tryd.pinned.checked.prog.wantsStandIn t=false:=by
 obtain rfl:f=3:=aa ((show Tryd.prog.funcNamed "turnout/turnoutlaw23.LevelUnion" =some 3 by kernel_rfl).symm.trans hf)|>.symm;obtain rfl:fn=Tryd.f3:=(aa (Tryd.func3.symm.trans hfn)).symm;refine⟨by kernel_rfl,fun j t ht=>?_⟩;rw[Tryd.params3]at ht;have w25:Tryd.prog.wantsStandIn 25=false:=by kernel_rfl
 have w27:Tryd.prog.wantsStandIn 27=false:=by kernel_rfl
 have w3:Tryd.prog.wantsStandIn 3=false:=by kernel_rfl
 have hm:t∈[25,27,27,3,3]:=by have:=Array.mem_of_getElem? ht;simpa using this
 simp only[List.mem_cons,List.not_mem_nil,or_false]at hm;rcases hm with rfl|rfl|rfl|rfl|rfl
 .exact w25
 .exact w27
 .exact w27
 .exact w3
 .exact w3
theorem levelUnion_holds:Rows.LevelUnionCardSaid:=Claim7.holds_tied_plain_at .later [] _ _ _ _ QU (fun _ h=>by cases h) (by kernel_rfl) (fun _ h=>by cases h) levelUnion_row_tie rfl ⟨rfl,rfl⟩ (by kernel_rfl) rfl dP (by kernel_rfl)
#print axioms levelUnion_holds
end Go.Proofs.YtpnnnoagjcpmhaaDoor.U
