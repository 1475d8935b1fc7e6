/- The library's sorts of at most one, and Compact. Conditions: none. -/
import Derived.Test.YtpnnnoagjcpmhaaDoorU
import Derived.Test.YtpnnnoagjcpmhaaDoorTwin
open List renaming take_length->er
open Nat renaming blt->gH,blt_eq->gr
open Go.Ev Go
namespace Go.Proofs.YtpnnnoagjcpmhaaDoor.U
def qz{α:Type}(s:Sl α):Option (Sl α):=bif Nat.ble s.l.length 1 then some s else none
theorem vZ{α:Type}{s z:Sl α}(h:qz s=some z):s=z/\s.l.length<=1:=by unfold qz at h;cases hc:Nat.ble s.l.length 1 with|false=>rw[hc]at h;simp at h|true=>rw[hc]at h;exact⟨by simpa using h,by simpa using hc⟩
theorem vY{α:Type}{a b:List α}(h:a.Perm b)(hl:b.length<=1):a=b:=by
 cases b with
 |nil=>exact List.perm_nil.1 h
 |cons x b=>cases b with|nil=>exact List.perm_singleton.1 h|cons _ _=>simp at hl
theorem HZ{α:Type}(s:Sl α):s.to s.l=s:=by cases s<;>rfl
theorem H5{s:Sl ap}:fU (qz s) (ny kq s):=by
 intro z h;obtain⟨rfl,hl⟩:=vZ h;have e:=(oe s.l.toArray).1
 have e2:(kq s.l.toArray).toList=s.l:=by
  refine vY ?_ hl;have:=e.2.2;have h1:=e.1;have h2:(kq s.l.toArray).size=s.l.length:=by simpa using h1
  simp only[List.size_toArray,Array.toList_extract,List.extract_eq_take_drop,Nat.sub_zero,List.drop_zero,er]at this;rwa[<-h2,<-Array.length_toList,er]at this
 unfold ny;rw[show gH s.l.length 4611686018427387904=true by rw[gr];omega,e2,HZ];rfl
theorem Lg{s:Sl Int}:fU (qz s) (ny pJ s):=by
 intro z h;obtain⟨rfl,hl⟩:=vZ h;have e2:(pJ s.l.toArray).toList=s.l:=by refine vY ?_ hl;exact List.mergeSort_perm _ _
 unfold ny;rw[show gH s.l.length 4611686018427387904=true by rw[gr];omega,e2,HZ];rfl
theorem Lh{s:Sl Int}:fU (qz s) (Ce pw s):=by
 intro z h;obtain⟨rfl,hl⟩:=vZ h
 have e2:pw s.l=s.l:=by
  generalize s.l=l at hl;cases l with
  |nil=>rfl
  |cons x l=>cases l with|nil=>rfl|cons _ _=>simp at hl
 unfold Ce;rw[show gH s.l.length 4611686018427387904=true by rw[gr];omega,e2,HZ];rfl
end Go.Proofs.YtpnnnoagjcpmhaaDoor.U
