/- The statement CtlJournalSaid: from the law's program to what is asked. Conditions: none. -/
import Derived.Test.YtoekkpmeeclpeaaGreatJL
import Derived.Test.YtoekkpmeeclpeaaGreatAw
import Derived.Test.YtoekkpmeeclpeaaGreatRows
import Derived.JoinedOf
import Derived.Handed
import Derived.SizedLaws
open Go.Ev Go
open Go.ChangeShapes Go.WideShapes Go.ChangeAt Go.RowKit
namespace Go.Proofs.YtoekkpmeeclpeaaGreat.S
theorem CH{H:Type}{en:TypeId×Value->H}{W:World}{args:Array Value}(ds gs:List (DataW H)){fR:List MemPlace}(hW:DataW.Whole en Tryz.prog Tryz.f4.params.toList Rows.ctlJournalSpec.vars false W args.toList ds gs fR):
  (Rows.ctlJournalSpec.fn H (ds++gs)).results=[.lit (.bool true)]/\(Rows.ctlJournalSpec.fn H (ds++gs)).args=ds/\(Rows.ctlJournalSpec.fn H (ds++gs)).vars=[]:=by
 obtain⟨p,q,hA0,hV,_⟩:=hW;have hA:DataW.TrodAll en Tryz.prog W 0 (fun _=>true) true Tryz.f4.params.toList args.toList ds p:=hA0;rw[Tryz.params4]at hA;obtain⟨v0,vs0,d0,ds0,p0,q0,_,rfl,rfl,h0,r0⟩:=trodAll_cons hA;obtain⟨v1,vs1,d1,ds1,p1,q1,_,rfl,rfl,h1,r1⟩:=trodAll_cons r0;obtain⟨_,rfl,rfl⟩:=trodAll_nil r1;obtain⟨rfl,rfl⟩:=trodVars_none hV;exact⟨rfl,rfl,rfl⟩
set_option maxRecDepth 100000 in
theorem yC(H:Type)(en:TypeId×Value->H)(W:World)(gV:Nat)(args:Array Value)(ds gs:List (DataW H))(fR:List MemPlace)
  (hval:∀(j:Nat)t v,Tryz.f4.params[j]?=some t->args[j]?=some v->Value.okWide Tryz.prog W .any gV t v)
  (hW:DataW.Whole en Tryz.prog Tryz.f4.params.toList Rows.ctlJournalSpec.vars false W args.toList ds gs fR)
  (hwt:(DataW.weightsEach Tryz.prog (Tryz.f4.params.toList++Rows.ctlJournalSpec.plain.varTypes Tryz.prog) (ds++gs)).all (·<=reachBytes)=true):
  Calls Tryz.prog 4 args W fun e W'=>∃v,e=.returned v/\Rows.ctlJournalSpec.post en Tryz.prog Tryz.f4 false true false false W args v W':=
 OU (by kernel_rfl) Tryz.func4 rfl (by kernel_rfl) (by kernel_rfl) rfl Tryz.underlying4 rfl hW
  (CH ds gs hW) (OI fun _=>rfl) hwt hval (tys:=[y4,.sl y16]) (by kernel_rfl) (by kernel_rfl) aaH (fun p hfit=>I5 Bz (acN (UX hfit rfl).1) (Nat.le_of_lt_succ (MG (UX hfit rfl).1.2.1)) (Nat.le_of_lt_succ (MG (UX (UX hfit rfl).2 rfl).1)))
theorem Em:ownKnob Tryz.prog.godebug=none:=by kernel_rfl
set_option maxRecDepth 100000 in
theorem AV(os:Os)(started:os.Started)(H:Type)(en:TypeId×Value->H):
  ReturnsInHanded {} Tryz.checked os 4 .any (Rows.ctlJournalSpec.pre6 en Tryz.prog Tryz.f4 Rows.ctlJournalRow.domain false) (Rows.ctlJournalSpec.post en Tryz.prog Tryz.f4 false true false false):=by
 refine returnsInHanded_of_change_sized (C:=Tryz.checked) Em started (by kernel_rfl) Tryz.func4
  (ChangeSpec.witness6 (enc:=en) (C:=Tryz.checked) false ⟨#[], #[(.agg #[(.int .i64 0),(.slice none 0 0),(.slice none 0 0),(.slice none 0 0),(.slice none 0 0),(.int .i64 0),(.int .i64 0),(.int .i64 0),(.int .i64 0),(.int .i64 0),(.int .i64 0)]),(.slice none 0 0)],[]⟩ 8 (by kernel_rfl) (by kernel_rfl) (by kernel_rfl) (by kernel_rfl)) ?_
 intro W gV args ds gs fR hval hW _ hwt _;exact yC H en W gV args ds gs fR hval hW hwt
theorem ab6:(Rows.ctlJournalRow.inPlace==Tryz.prog.inPlace 4)=true:=by kernel_rfl
theorem ab5:(Rows.ctlJournalRow.unfollowed==Tryz.prog.unfollowed 4)=true:=by kernel_rfl
theorem ab4:(Rows.ctlJournalRow.recurses==Tryz.prog.recurses 4)=true:=by kernel_rfl
theorem ab3:(Rows.ctlJournalRow.named==Tryz.prog.varsNamed 4)=true:=by kernel_rfl
theorem ab2:joinedFacts Tryz.prog 4 Tryz.f4 Rows.ctlJournalSpec Rows.ctlJournalRow=true:=by unfold joinedFacts;rw[ab6,ab5,ab4,ab3];kernel_rfl
theorem ctlJournal_holds:Rows.CtlJournalSaid:=
 OpenClaim.holds_of_wide 4 Tryz.f4 rfl rfl rfl rfl rfl rfl rfl ⟨rfl,rfl,rfl,rfl,rfl⟩ rfl rfl rfl rfl rfl (by kernel_rfl) Tryz.func4 ab2
  (of_decide_eq_true (by kernel_rfl)) (by unfold Func.isWrapper;first|(rw[if_pos (by decide+kernel)];kernel_rfl)|(rw[if_neg (by decide+kernel)];exact⟨rfl,rfl⟩))
  (fun os started H en _=>AV os started H en)
#print axioms ctlJournal_holds
end Go.Proofs.YtoekkpmeeclpeaaGreat.S
