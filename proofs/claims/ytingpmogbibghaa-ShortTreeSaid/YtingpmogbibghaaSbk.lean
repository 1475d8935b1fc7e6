/- slices.Backward of a row of ints, and a loop over it: weigh.Walk. Conditions: as stated. -/
import Derived.RangeFuncBox
import Derived.RangeFuncNested
import Derived.RangeFuncLeaves
import Derived.Shelf.Abstract
import Derived.WalkKit
import Derived.OwnWalkIn
import Derived.TacticsInMore
import Derived.LoopNIn
import Derived.LoopIn
import Derived.Shelf.RegionOpen
import Derived.Test.YtingpmogbibghaaChecked
import Derived.Test.YtingpmogbibghaaKo
open Array renaming replicate_succ->YY,replicate_zero->YX
open List renaming append_toArray->YZ,cons_append->aU,length_cons->cg,length_nil->iU,nil_append->bi,push_toArray->Y0,size_toArray->iP
open Go Go.RowKit Go.Shelf
namespace Go.Proofs.Ytingpmogbibghaa.S
attribute [local go_sem] Oper.semAt_some
def dn(zs:List Int)(k:Nat):List (Fin zs.length):=(List.finRange zs.length).reverse.take k
theorem ZE{zs:List Int}{k:Nat}(h:k<zs.length):dn zs (k+1)=dn zs k++[⟨zs.length-1-k,by omega⟩]:=by unfold dn;rw[<-List.take_append_getElem (i:=k) (by simpa using h)];congr 2;simp[List.getElem_reverse]
theorem ZL{zs:List Int}{k:Nat}(h:k<=zs.length):(dn zs k).length=k:=by simp[dn];omega
def Kb(n₀ Bs:Nat)(A B:World):Prop:=Below n₀ A B/\B.heap[Bs]?=A.heap[Bs]?
theorem Kb.refl(n₀ Bs:Nat)(A:World):Kb n₀ Bs A A:=⟨Below.refl _ _,rfl⟩
theorem Kb.trans{n₀ Bs:Nat}{A B C:World}(h:Kb n₀ Bs A B)(k:Kb n₀ Bs B C):Kb n₀ Bs A C:=⟨h.1.trans k.1,k.2.trans h.2⟩
theorem ZW{n₀ Bs:Nat}{w:World}(hn:n₀<=w.heap.size)(hB:Bs<w.heap.size)(W:World)(l:Nat)(o o':Obj)(hl:w.heap.size<=l)(h:W.heap[l]?=some o)(h1:o.isCells=false)(h2:o.isWalk=false):Kb n₀ Bs W (W.putObj l o'):=⟨belowK_b hn W l o o' hl h h1 h2,World.putObj_heap_other (by omega)⟩
set_option maxRecDepth 100000 in
set_option maxHeartbeats 2000000 in
theorem Zx(l Bs n₀ b off cap:Nat)(zs:List Int)(hreach:zs.length*8<=140737488351232)(hb:b<n₀)(J Jx:List (Fin zs.length)->World->Prop)
  (hY:∀pre x W,J pre W->pre.length<zs.length->YieldAt Fence.wide 2 Try.prog l #[.int .i64 ((x.val:Nat):Int),.int .i64 (zs[x.val]?.getD 0)] W fun e W'=>(e=.returned (.bool true)/\J (pre++[x]) W'/\Kb n₀ Bs W W')\/(e=.returned (.bool false)/\Jx (pre++[x]) W'))
  (W:World) (hBs:W.cell? ⟨Bs,0,none⟩=some (.slice (some ⟨b,off,none⟩) zs.length cap)) (hc:∀j,j<zs.length->W.cell? ⟨b,off+j,none⟩=some (.int .i64 (zs[j]?.getD 0))) (h0:J [] W):
  CallsIn Fence.wide 3 Try.prog 142 #[.func (.yield l) #[] #[],.pointer (some ⟨Bs,0,none⟩)] W fun e W'=>(∃v,e=.returned v)/\
   ((∃ys,ys=dn zs zs.length/\J ys W')\/(∃pre,Jx pre W')):=by
 refine callsIn_of_wp Try.func142 rfl trivial ?_ rfl;simp only[Try.ntmps142,iP,cg,iU,Nat.reduceAdd,Nat.reduceSub,YY,YX,Y0,YZ,bi,aU]
 gi_wp2
 gi_loopw [3] (fun i wr=>∃k:Nat,k<=zs.length/\i=.int .i64 ((zs.length:Int)-1-k)/\J (dn zs k) wr/\Kb n₀ Bs W wr)
  (fun i _=>(intOf i+1).toNat)
 case atStart=>exact⟨0,Nat.zero_le _,by simp,h0,Kb.refl _ _ _⟩
 case round=>
  obtain⟨k,hk,rfl,hJs,hnx⟩:=hrel;have hBs':wr.cell? ⟨Bs,0,none⟩=some (.slice (some ⟨b,off,none⟩) zs.length cap):=(World.cell?_of_block (w:=W) (a:=⟨Bs,0,none⟩) hnx.2).trans hBs;by_cases hlt:k<zs.length
  .have hcx:=(hnx.1.cell (p:=⟨b,off+(zs.length-1-k),none⟩) hb).trans (hc (zs.length-1-k) (by omega));obtain⟨fn,tmps,assign,body,hy,hR⟩:=hY _ ⟨zs.length-1-k,by omega⟩ wr hJs (by rw[ZL hk];exact hlt);dsimp only at hy;have e1:((zs.length:Int)-1-k)=((zs.length-1-k:Nat):Int):=by omega
   rw[e1];obtain⟨v,hv⟩:∃v,zs[zs.length-1-k]?.getD 0=v:=⟨_,rfl⟩
   rw[hv]at hy hcx;have e2:((zs.length-1-k:Nat):Int)-1=(zs.length:Int)-1-((k+1:Nat):Int):=by omega
   gi_wp2
   refine hR.mono ?_;rintro e W3 (⟨rfl,hJ3,hk3⟩|⟨rfl,hJx3⟩)
   .gi_wp2
    go_roundw
    case rel=>exact⟨k+1,by omega,by simp<;>omega,by rw[ZE hlt];exact hJ3,hnx.trans hk3⟩
    case measure=>simp[intOf]<;>omega
   .gi_wp2
    refine bodyPost_ret (results_none rfl _ _ _) rfl ?_;exact⟨⟨_,rfl⟩,.inr ⟨_,hJx3⟩⟩
  .obtain rfl:k=zs.length:=by omega
   have e1:((zs.length:Int)-1-zs.length)=-1:=by omega
   rw[e1]
   gi_wp2
   go_end0
   exact⟨⟨_,rfl⟩,.inl ⟨_,rfl,hJs⟩⟩
set_option maxRecDepth 100000 in
set_option maxHeartbeats 1000000 in
theorem Zq(l Bs:Nat){β:Type}(J:List β->World->Prop)(W:World)(hBs:W.cell? ⟨Bs,0,none⟩=some (.slice none 0 0))(h0:J [] W):
  CallsIn Fence.wide 3 Try.prog 142 #[.func (.yield l) #[] #[],.pointer (some ⟨Bs,0,none⟩)] W fun e W'=>(∃v,e=.returned v)/\J [] W':=by
 refine callsIn_of_wp Try.func142 rfl trivial ?_ rfl;simp only[Try.ntmps142,iP,cg,iU,Nat.reduceAdd,Nat.reduceSub,YY,YX,Y0,YZ,bi,aU]
 gi_wp2
 gi_loopw [3] (fun i wr=>i=.int .i64 (-1)/\J [] wr) (fun _ _=>0)
 case atStart=>exact⟨rfl,h0⟩
 case round=>
  obtain⟨rfl,hJs⟩:=hrel
  gi_wp2
  go_end0
  exact⟨⟨_,rfl⟩,hJs⟩
theorem Zr(l Bs:Nat)(a:Addr){β:Type}(J:List β->World->Prop)(W:World)(hBs:W.cell? ⟨Bs,0,none⟩=some (.slice (some a) 0 0))(h0:J [] W):
  CallsIn Fence.wide 3 Try.prog 142 #[.func (.yield l) #[] #[],.pointer (some ⟨Bs,0,none⟩)] W fun e W'=>(∃v,e=.returned v)/\J [] W':=by
 refine callsIn_of_wp Try.func142 rfl trivial ?_ rfl;simp only[Try.ntmps142,iP,cg,iU,Nat.reduceAdd,Nat.reduceSub,YY,YX,Y0,YZ,bi,aU]
 gi_wp2
 gi_loopw [3] (fun i wr=>i=.int .i64 (-1)/\J [] wr) (fun _ _=>0)
 case atStart=>exact⟨rfl,h0⟩
 case round=>
  obtain⟨rfl,hJs⟩:=hrel
  gi_wp2
  go_end0
  exact⟨⟨_,rfl⟩,hJs⟩
set_option maxHeartbeats 1000000 in
theorem ZG(a:Option Addr)(len cap:Nat)(w:World):
  CallsIn Fence.wide 3 Try.prog 122 #[.slice a len cap] w fun e w'=>e=.returned (.func (.func 142) #[] #[.pointer (some ⟨w.heap.size,0,none⟩)])/\w'=w.alloc (.cells #[.slice a len cap] 82):=by
 refine callsIn_of_wp Try.func122 rfl trivial ?_ rfl;simp only[Try.ntmps122,iP,cg,iU,Nat.reduceAdd,Nat.reduceSub,YY,YX,Y0,YZ,bi,aU]
 gi_wp2
 go_ret
 exact⟨rfl,rfl⟩
def Y7(n₀:Nat)(W:World)(v:Value)(zs:List Int):Prop:=(zs=[]/\(v=.slice none 0 0\/∃a,v=.slice (some a) 0 0))\/∃b off cap,v=.slice (some ⟨b,off,none⟩) zs.length cap/\b<n₀/\∀j,j<zs.length->W.cell? ⟨b,off+j,none⟩=some (.int .i64 (zs[j]?.getD 0))
theorem Y7.below{n₀:Nat}{W W':World}{v:Value}{zs:List Int}(h:Y7 n₀ W v zs)(hb:Below n₀ W W'):Y7 n₀ W' v zs:=by
 rcases h with h|⟨b,off,cap,rfl,hlt,hc⟩
 .exact .inl h
 .exact .inr ⟨b,off,cap,rfl,hlt,fun j hj=>(hb.cell (p:=⟨b,off+j,none⟩) hlt).trans (hc j hj)⟩
theorem Zw(Bs n₀:Nat)(sv:Value)(zs:List Int)(hreach:zs.length*8<=140737488351232)(w:World)(hBs:Bs<w.heap.size)(hn₀:n₀<=w.heap.size)
  (hc:w.cell? ⟨Bs,0,none⟩=some sv) (hI:Y7 n₀ w sv zs) (l:Nat) (J:List (Fin zs.length)->World->Prop) (W:World) (hW:Below w.heap.size w W)
  (hY:∀pre x W1,J pre W1->pre.length<zs.length->YieldAt Fence.wide 2 Try.prog l #[.int .i64 ((x.val:Nat):Int),.int .i64 (zs[x.val]?.getD 0)] W1 fun e W'=>(e=.returned (.bool true)/\J (pre++[x]) W'/\Kb n₀ Bs W1 W')\/(e=.returned (.bool false)/\False)) (h0:J [] W):
  CallsIn Fence.wide 3 Try.prog 142 (#[.func (.yield l) #[] #[]]++ #[.pointer (some ⟨Bs,0,none⟩)]) W fun e W'=>(∃v,e=.returned v)/\J (dn zs zs.length) W':=by
 have hc':=(hW.cell (p:=⟨Bs,0,none⟩) hBs).trans hc;rcases hI.below (hW.mono hn₀)with⟨rfl,rfl|⟨a,rfl⟩⟩|⟨b,off,cap,rfl,hb,hcs⟩
 .exact (Zq l Bs J W hc' h0).mono fun e W'⟨he,hj⟩=>⟨he,hj⟩
 .exact (Zr l Bs a J W hc' h0).mono fun e W'⟨he,hj⟩=>⟨he,hj⟩
 .refine (Zx l Bs n₀ b off cap zs hreach hb J (fun _ _=>False) hY W hc' hcs h0).mono ?_;rintro e W' ⟨he,⟨ys,rfl,hj⟩|⟨pre,hj⟩⟩
  .exact ⟨he,hj⟩
  .exact hj.elim
end Go.Proofs.Ytingpmogbibghaa.S
