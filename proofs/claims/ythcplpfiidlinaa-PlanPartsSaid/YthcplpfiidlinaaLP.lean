/- The library's sorts of at most one, and Compact. Conditions: none. -/
import Derived.Test.YthcplpfiidlinaaL
import Derived.Test.YthcplpfiidlinaaTwin
open Go.Ev Go
namespace Go.Proofs.Ythcplpfiidlinaa.L
def qa1{α:Type}(s:Sl α):Option (Sl α):=bif Nat.ble s.l.length 1 then some s else none
theorem qeg{α:Type}{s z:Sl α}(h:qa1 s=some z):s=z/\s.l.length<=1:=by
 unfold qa1 at h
 cases hc:Nat.ble s.l.length 1 with
 | false=>rw [hc]at h; simp at h
 | true=>rw [hc]at h; exact ⟨by simpa using h,by simpa using hc⟩
theorem qct{α:Type}{a b:List α}(h:a.Perm b)(hl:b.length<=1):a=b:=by
 cases b with
 | nil=>exact List.perm_nil.1 h
 | cons x b=>cases b with
  | nil=>exact List.perm_singleton.1 h
  | cons _ _=>simp at hl
theorem sl_to{α:Type}(s:Sl α):s.to s.l=s:=by cases s <;> rfl
theorem qpw{s:Sl level_Move}:OLe (qa1 s) (sortF srtMv s):=by
 intro z h
 obtain ⟨rfl,hl⟩:=qeg h
 have e:=(q3m s.l.toArray).1
 have e2:(srtMv s.l.toArray).toList=s.l:=by
  refine qct ?_ hl
  have:=e.2.2
  have h1:=e.1
  have h2:(srtMv s.l.toArray).size=s.l.length:=by simpa using h1
  simp only [List.size_toArray,Array.toList_extract,List.extract_eq_take_drop,Nat.sub_zero,List.drop_zero,List.take_length]at this
  rwa [<- h2,<- Array.length_toList,List.take_length]at this
 unfold sortF
 rw [show Nat.blt s.l.length 4611686018427387904=true by rw [Nat.blt_eq]; omega,e2,sl_to]; rfl
theorem qtp{s:Sl Int}:OLe (qa1 s) (sortF srtI s):=by
 intro z h
 obtain ⟨rfl,hl⟩:=qeg h
 have e2:(srtI s.l.toArray).toList=s.l:=by
  refine qct ?_ hl
  exact List.mergeSort_perm _ _
 unfold sortF
 rw [show Nat.blt s.l.length 4611686018427387904=true by rw [Nat.blt_eq]; omega,e2,sl_to]; rfl
theorem qun{s:Sl Int}:OLe (qa1 s) (cutF compI s):=by
 intro z h
 obtain ⟨rfl,hl⟩:=qeg h
 have e2:compI s.l=s.l:=by
  generalize s.l=l at hl
  cases l with
  | nil=>rfl
  | cons x l=>cases l with
   | nil=>rfl
   | cons _ _=>simp at hl
 unfold cutF
 rw [show Nat.blt s.l.length 4611686018427387904=true by rw [Nat.blt_eq]; omega,e2,sl_to]; rfl
end Go.Proofs.Ythcplpfiidlinaa.L
