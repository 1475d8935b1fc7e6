/- Staged, Armed: the walks through the run. Conditions: a map that reads, of few entries. -/
import Derived.Test.YtjjajcecekocdaaGreatAsh
open List renaming cons_append->aU,length_cons->c_,length_nil->abI,nil_append->bE,size_toArray->iF
open Nat renaming le_refl->am
namespace Go.Proofs.YtjjajcecekocdaaGreat.A
open Go Go.Proofs Go.RowKit Go.Maps Go.Sort Go.Shelf
theorem aal(m:Nat):AnyZI.SortsIn Tryz.prog ZT Fence.wide m:=
 ⟨fun dj off cap ss W hH hblk hsz=>callsIn_wide.2 (AnyM.slices_Sort_int aae dj off cap ss W hH hblk hsz),
  fun p cap W=>callsIn_wide.2 (AnyM.slices_Sort_int_none aae p cap W)⟩
set_option maxHeartbeats 1000000 in
theorem aaN{H:Type}(B b nn:Nat)(D0:DataW H)(R:Value->Option (DataW H×List MemPlace))(w:World)(hB:w.cell? ⟨B,6,none⟩=some (.map (some b)))(hown:w.ownsMap Tryz.prog 3 R b nn D0)(hmax:Maps.size D0<=maxLen)(hbytes:Maps.size D0*8<=140737488355328):
  Calls Tryz.prog 24 #[.pointer (some ⟨B,0,none⟩)] w fun e w'=>∃(v:Value)(ss:List Int),e=.returned v/\ss.Perm (intKeys D0)/\
   w'.ownsRow w.heap.size 3 1 v ss.length ((ss.mergeSort (fun x y=>decide (x<=y))).map encZ)/\(v=.slice none 0 0<->ss=[])/\Below w.heap.size w w':=by
 refine(callsIn_wide (n:=6)).1 ?_;have hbl:=hown.lt;have hseq:SeqGives Fence.wide 2 Tryz.prog 84 #[.pointer (some ⟨w.heap.size,0,none⟩)] encZ (fun ss=>ss.Perm (intKeys D0)) (Maps.size D0) (w.alloc (.cells #[.map (some b)] 68)):=AnyZI.keys_gives (ρ:=aaF) {aaR with} Fence.wide _ trivial rfl (by omega) w.heap.size b nn D0 _ (by simp) (by simp) (by obtain⟨es,bP,hb,Ft,hs,hD⟩:=hown;exact⟨es,bP,(Below.heap_alloc _ _ b hbl).trans hb,Ft,hs,hD⟩);have cK:∀mb W,CallsIn Fence.wide 5 Tryz.prog 47 #[.map mb] W fun e w'=>e=.returned (.func (.func 84) #[] #[.pointer (some ⟨W.heap.size,0,none⟩)])/\w'=W.alloc (.cells #[.map mb] 68):=fun mb W=>AnyZI.keys_in aaR Fence.wide 5 trivial rfl mb W;have cS:=AnyZI.sorted_in aah Fence.wide 5 trivial trivial trivial trivial rfl (by omega) (aal _) (enters_of Tryz.func71 (by kernel_rfl) rfl) 84 #[.pointer (some ⟨w.heap.size,0,none⟩)] trivial (enters_of Tryz.func84 (by kernel_rfl) rfl) _ _ hmax hbytes _ hseq;change CallsIn _ _ Tryz.prog 43 _ _ _ at cS;have hfK:Fence.wide.fn 47:=trivial;have hfS:Fence.wide.fn 43:=trivial;refine callsIn_of_wp Tryz.func24 rfl trivial ?_ rfl;simp only[Tryz.ntmps24,iF,c_,abI,Nat.reduceAdd,Nat.reduceSub,Array.replicate_succ,Array.replicate_zero,List.push_toArray,List.append_toArray,bE,aU]
 gi_wp2_with (first
  |(gi_at_call 47;refine(cK _ _).mono ?_;rintro e w' ⟨rfl,rfl⟩)
  |(gi_at_call 43;refine cS.mono ?_;rintro e w' ⟨v,ss,rfl,hS,hrow,hnil,hb⟩))
 go_ret
 exact⟨v,ss,rfl,hS,ownsRow_base_a hrow (by simp),hnil,((Below.refl _ w).alloc (am _) _).trans (hb.mono (by simp))⟩
set_option maxHeartbeats 1000000 in
theorem Z7{H:Type}(B b nn:Nat)(D0:DataW H)(R:Value->Option (DataW H×List MemPlace))(w:World)(hB:w.cell? ⟨B,7,none⟩=some (.map (some b)))(hown:w.ownsMap Tryz.prog 3 R b nn D0)(hmax:Maps.size D0<=maxLen)(hbytes:Maps.size D0*8<=140737488355328):
  Calls Tryz.prog 22 #[.pointer (some ⟨B,0,none⟩)] w fun e w'=>∃(v:Value)(ss:List Int),e=.returned v/\ss.Perm (intKeys D0)/\
   w'.ownsRow w.heap.size 3 1 v ss.length ((ss.mergeSort (fun x y=>decide (x<=y))).map encZ)/\(v=.slice none 0 0<->ss=[])/\Below w.heap.size w w':=by
 refine(callsIn_wide (n:=6)).1 ?_;have hbl:=hown.lt;have hseq:SeqGives Fence.wide 2 Tryz.prog 72 #[.pointer (some ⟨w.heap.size,0,none⟩)] encZ (fun ss=>ss.Perm (intKeys D0)) (Maps.size D0) (w.alloc (.cells #[.map (some b)] 69)):=AnyZI.keys_gives (ρ:=ZV) {Z9 with} Fence.wide _ trivial rfl (by omega) w.heap.size b nn D0 _ (by simp) (by simp) (by obtain⟨es,bP,hb,Ft,hs,hD⟩:=hown;exact⟨es,bP,(Below.heap_alloc _ _ b hbl).trans hb,Ft,hs,hD⟩);have cK:∀mb W,CallsIn Fence.wide 5 Tryz.prog 44 #[.map mb] W fun e w'=>e=.returned (.func (.func 72) #[] #[.pointer (some ⟨W.heap.size,0,none⟩)])/\w'=W.alloc (.cells #[.map mb] 69):=fun mb W=>AnyZI.keys_in Z9 Fence.wide 5 trivial rfl mb W;have cS:=AnyZI.sorted_in aah Fence.wide 5 trivial trivial trivial trivial rfl (by omega) (aal _) (enters_of Tryz.func71 (by kernel_rfl) rfl) 72 #[.pointer (some ⟨w.heap.size,0,none⟩)] trivial (enters_of Tryz.func72 (by kernel_rfl) rfl) _ _ hmax hbytes _ hseq;change CallsIn _ _ Tryz.prog 43 _ _ _ at cS;have hfK:Fence.wide.fn 44:=trivial;have hfS:Fence.wide.fn 43:=trivial;refine callsIn_of_wp Tryz.func22 rfl trivial ?_ rfl;simp only[Tryz.ntmps22,iF,c_,abI,Nat.reduceAdd,Nat.reduceSub,Array.replicate_succ,Array.replicate_zero,List.push_toArray,List.append_toArray,bE,aU]
 gi_wp2_with (first
  |(gi_at_call 44;refine(cK _ _).mono ?_;rintro e w' ⟨rfl,rfl⟩)
  |(gi_at_call 43;refine cS.mono ?_;rintro e w' ⟨v,ss,rfl,hS,hrow,hnil,hb⟩))
 go_ret
 exact⟨v,ss,rfl,hS,ownsRow_base_a hrow (by simp),hnil,((Below.refl _ w).alloc (am _) _).trans (hb.mono (by simp))⟩
end Go.Proofs.YtjjajcecekocdaaGreat.A
