/- The library's sorts and Compact in this program: what they do. Conditions: none. -/
import Derived.Test.YthcplpfiidlinaaKs
import Derived.Test.YthcplpfiidlinaaKm
import Derived.Test.YthcplpfiidlinaaLa
import Derived.Test.YthcplpfiidlinaaLSh
import Derived.Lib.RowBridge
namespace Go.Proofs.Ythcplpfiidlinaa.L
open Go Go.Ev Go.Proofs Go.Shelf Go.RowKit Go.Lib Go.Sort
def cmpI(a b:Int):Int:=if a < b then -1 else if a > b then 1 else 0
def ordM(x y:O.level_Move):Int:=if cmpI x.2.2.2 y.2.2.2≠0 then cmpI x.2.2.2 y.2.2.2 else if cmpI x.1 y.1≠0 then cmpI x.1 y.1 else cmpI x.2.1 y.2.1
theorem qvz(a b:Int):O.cmp_Compare_int a b=some (cmpI a b):=by
 simp only [O.cmp_Compare_int,O.cmp_isNaN_int,Option.bind_some,bne_self_eq_false,cond_false,cmpI]
 by_cases h1:a < b
 ·rw [decide_eq_true h1,if_pos h1]; rfl
 ·rw [decide_eq_false h1,if_neg h1,cond_false]
  by_cases h2:a > b
  ·rw [decide_eq_true h2,if_pos h2]; rfl
  ·rw [decide_eq_false h2,if_neg h2]; rfl
theorem or_eq(a b c:Int):O.cmp_Or_int (Sl.mk [a,b,c])=some (if a≠0 then a else if b≠0 then b else c):=by
 have st:∀(i:Nat) (x:Int), [a,b,c][i]? =some x->O.cmp_Or_int_L1 (Sl.mk [a,b,c]) (i:Int)=if x≠0 then some (.inr (.inl x))else some (.inl ((i+1:Nat):Int)):=by
  intro i x hx
  obtain ⟨hi,he⟩:=List.getElem?_eq_some_iff.1 hx
  have hi3:i < 3:=hi
  simp only [O.cmp_Or_int_L1]
  rw [decide_eq_true (show (i:Int) < ((Sl.mk [a,b,c]).l.length:Int) by show (i:Int) < 3; omega),cond_true,q08 (show i < (Sl.mk [a,b,c]).l.length from hi3)]
  simp only [Option.bind_some]
  have hg:gt (Sl.mk [a,b,c]).l i=x:=by rw [gt_eq (show i < (Sl.mk [a,b,c]).l.length from hi3)]; exact he
  rw [hg]
  by_cases h:x=0
  ·subst h
   have:wr .i64 ((i:Int)+1)=((i+1:Nat):Int):=by simp [wr,IntKind.wrap,IntKind.bits,IntKind.signed]; omega
   rw [this]; rfl
  ·rw [if_pos h,show (x != 0)=true by simpa using h]; rfl
 unfold O.cmp_Or_int
 by_cases h1:a=0
 case neg=>
  rw [q0u (b:= .inl a) (by have:=st 0 a rfl; rw [if_pos h1]at this; exact this),if_pos h1]; rfl
 rw [q1f (a':=((1:Nat):Int)) (by have:=st 0 a rfl; rw [if_neg (not_not_intro h1)]at this; exact this),if_neg (not_not_intro h1)]
 by_cases h2:b=0
 case neg=>
  rw [q0u (b:= .inl b) (by have:=st 1 b rfl; rw [if_pos h2]at this; exact this),if_pos h2]; rfl
 rw [q1f (a':=((2:Nat):Int)) (by have:=st 1 b rfl; rw [if_neg (not_not_intro h2)]at this; exact this),if_neg (not_not_intro h2)]
 by_cases h3:c=0
 case neg=>rw [q0u (b:= .inl c) (by have:=st 2 c rfl; rw [if_pos h3]at this; exact this)]; rfl
 rw [q1f (a':=((3:Nat):Int)) (by have:=st 2 c rfl; rw [if_neg (not_not_intro h3)]at this; exact this),q0u (b:= .inr ()) rfl,h3]; rfl
theorem qpo(x y:O.level_Move):O.level_order x y=some (ordM x y):=by
 simp only [O.level_order,qvz,or_eq,Option.bind_some,ordM]
theorem qdo{a b:Int}:cmpI a b < 0↔a < b:=by unfold cmpI; split <;> (try split) <;> omega
theorem q8y{a b:Int}:cmpI a b=0↔a=b:=by unfold cmpI; split <;> (try split) <;> omega
def Bef(x y:O.level_Move):Prop:=x.2.2.2 < y.2.2.2\/x.2.2.2=y.2.2.2/\(x.1 < y.1\/x.1=y.1/\x.2.1 < y.2.1)
theorem qel{x y:O.level_Move}:Go.Proofs.ltOf ordM x y=true↔Bef x y:=by
 unfold Go.Proofs.ltOf ordM Bef
 rw [decide_eq_true_eq]
 by_cases h1:cmpI x.2.2.2 y.2.2.2=0
 ·rw [if_neg (not_not_intro h1)]
  have e1:=q8y.1 h1
  by_cases h2:cmpI x.1 y.1=0
  ·rw [if_neg (not_not_intro h2),qdo]
   have e2:=q8y.1 h2
   omega
  ·rw [if_pos h2,qdo]
   have e2:x.1≠y.1:=λh=>h2 (q8y.2 h)
   omega
 ·rw [if_pos h1,qdo]
  have e1:x.2.2.2≠y.2.2.2:=λh=>h1 (q8y.2 h)
  omega
theorem swoM:Go.Sort.SWO (Go.Proofs.ltOf ordM) where
 irrefl x:=by
  cases h:Go.Proofs.ltOf ordM x x
  ·rfl
  ·have:=qel.1 h; unfold Bef at this; omega
 trans x y z h1 h2:=by rw [qel]at *; unfold Bef at *; omega
 ntrans x y z h1 h2:=by
  rw [<- Bool.not_eq_true,qel]at *
  unfold Bef at *; omega
noncomputable def srtMv(d:Array O.level_Move):Array O.level_Move:=Go.Sort.pdq (Go.Proofs.ltOf ordM) d 0 d.size (Lib.bitLen d.size) true true
theorem q3m(d:Array O.level_Move):Go.Sort.PermIn 0 d.size d (srtMv d)/\Go.Sort.SortedIn (Go.Proofs.ltOf ordM) 0 d.size (srtMv d):=
 Go.Sort.pdq_sorts (Go.Proofs.ltOf ordM) swoM d 0 d.size (Lib.bitLen d.size) true true (Nat.zero_le _) (Nat.le_refl _) (Or.inl rfl)
def valsM(x:O.level_Move):List Value:= [.int .i64 x.1, .int .i64 x.2.1, .int .i64 x.2.2.1, .int .i64 x.2.2.2]
theorem qf0(x:O.level_Move):encE O.y0 x=litsD (valsM x):=rfl
theorem qbu(x:O.level_Move):∀v∈valsM x,plain v=true:=by
 intro v hv
 simp only [valsM,List.mem_cons,List.not_mem_nil,or_false]at hv
 rcases hv with rfl | rfl | rfl | rfl <;> rfl
theorem qkn(x y:O.level_Move):Go.Ev.Good Try.prog 36 [.agg (encE O.y0 x), .agg (encE O.y0 y)] [.c (.d (.lit (.int .i64 (ordM x y))))] []:=
 O.ok3.2 (x,y) (ordM x y) (qpo x y)
theorem qp3(args:Array Value)(w:World):(callFunc 36 args).run Try.prog w= .ok (.enter 36 args) w:=enters_of Try.func36 (by kernel_rfl) rfl args w
theorem qt2(args:Array Value)(w:World):(callFunc 35 args).run Try.prog w= .ok (.enter 35 args) w:=enters_of Try.func35 (by kernel_rfl) rfl args w
theorem glob0(w:World):Glob (λ_=>False) w:=qg7 λ_=>rfl
theorem qld(p:Option Addr)(cap:Nat)(fv:Value)(w:World):Calls Try.prog 35 #[.slice p 0 cap,fv] w λe w'=>e= .returned (.tuple #[])/\w'=w:=by
 have:= @AnyF.slices_SortFunc_none _ _ qny p cap fv w
 exact this
theorem cmpM(x y:O.level_Move)(w:World):Calls Try.prog 36 #[.agg (valsM x).toArray, .agg (valsM y).toArray] w λe w'=>e= .returned (.int .i64 (ordM x y))/\∃q os,w'=grow (w.drewN q) os:=
 qq4 (t:=O.y0) qf0 qbu qkn qp3 glob0 x y w
theorem qn1:SpcOk Try.prog 35 (qhr O.y0 36 srtMv):=
 qtv λs hs=>qof (t:=O.y0) qf0 qbu (by decide) srtMv (λd=>(q3m d).1.1) qt2
  (λblk off cap d w hH hb hd=>AnyQ.slices_SortFunc_eq qny 4 Try.isAgg35 Try.sizeOf35 valsM (λ_=>rfl) (λx v hv=>by
   simp only [valsM,List.mem_cons,List.not_mem_nil,or_false]at hv
   rcases hv with rfl | rfl | rfl | rfl <;> rfl) ordM swoM 36 #[] blk off cap d w qp3
   (λm os dk _ x y=>cmpM x y _) hH hb hd)
  qld s hs
def valsI(x:Int):List Value:= [.int .i64 x]
theorem flat1(d:Array Int){j:Nat}(hj:j < d.size):(flatK valsI 1 d)[j]! = .int .i64 d[j]! :=by
 rw [get_flatK _ _ _ _ (by omega),Nat.div_one,Nat.mod_one]; rfl
theorem qsz{w:World}{blk off:Nat}{d:Array Int}(h:HoldsK valsI 1 w blk off d):Holds (Value.int .i64) w blk off d:=by
 intro j hj
 have:=h j (by rw [size_flatK]; omega)
 rw [flat1 d hj]at this
 exact this
theorem put1(w:World)(blk off:Nat)(d:Array Int):putRow (Value.int .i64) w blk off d=putRowK valsI 1 w blk off d:=by
 unfold putRowK putRow putCells
 rw [size_flatK,Nat.mul_one]
 congr 1
 funext c
 apply Array.ext
 ·simp
 ·intro i h1 h2
  simp only [Array.getElem_mapIdx]
  by_cases h:off<=i/\i < off+d.size
  ·rw [if_pos h,if_pos h,flat1 d (by omega)]; rfl
  ·rw [if_neg h,if_neg h]
theorem qwe(w:World)(blk off n:Nat)(d:Array Int)(os:Array Obj):grow (putRow (Value.int .i64) (Go.Sort.ahead w n) blk off d) os=sortWorldK valsI 1 w blk off n d os:=by
 rw [put1]; rfl
theorem qwf(w:World)(blk off n:Nat)(d:Array Int):putRow (Value.int .i64) (Go.Sort.ahead w n) blk off d=sortWorldK valsI 1 w blk off n d #[]:=by
 rw [put1]
 unfold sortWorldK
 rw [grow_empty]
def leI(x y:Int):Bool:=decide (x<=y)
noncomputable def srtI(d:Array Int):Array Int:=(d.toList.mergeSort leI).toArray
theorem qo5(d:Array Int):(srtI d).size=d.size:=by simp [srtI]
theorem qt6(args:Array Value)(w:World):(callFunc 54 args).run Try.prog w= .ok (.enter 54 args) w:=enters_of Try.func54 (by kernel_rfl) rfl args w
theorem qu0(args:Array Value)(w:World):(callFunc 55 args).run Try.prog w= .ok (.enter 55 args) w:=enters_of Try.func55 (by kernel_rfl) rfl args w
theorem qss(x:Int):∀v∈valsI x,plain v=true:=by
 intro v hv
 obtain rfl:=List.mem_singleton.1 hv
 rfl
theorem qly(blk off cap:Nat)(d:Array Int)(w:World)(hH:HoldsK valsI 1 w blk off d)(hb:blk < w.heap.size)(hd:d.size < 4611686018427387904):
  Calls Try.prog 54 #[.slice (some ⟨blk,off,none⟩) d.size cap] w λe w'=>e= .returned (.tuple #[])/\∃n os,w'=sortWorldK valsI 1 w blk off n (srtI d) os:=by
 have h:Calls Try.prog 54 _ w _:=Any.slices_Sort_int qsu blk off cap d.toList w (by simpa using qsz hH) hb (by simpa using hd)
 rw [Array.length_toList]at h
 refine h.mono ?_
 rintro e w' ⟨rfl,n,os,rfl⟩
 exact ⟨rfl,n,os,qwe w blk off n _ os⟩
theorem qoz(p:Option Addr)(cap:Nat)(w:World):Calls Try.prog 54 #[.slice p 0 cap] w λe w'=>e= .returned (.tuple #[])/\w'=w:=by
 have:= @Any.slices_Sort_int_none _ _ qsu p cap w
 exact this
theorem qpp:SpcOk Try.prog 54 (qdy (.i .i64) srtI):=
 qr2 λs hs=>qkx (t:= .i .i64) (vals:=valsI) (λ_=>rfl) qss (by decide) srtI qo5 qt6 qly qoz s hs
theorem qpi(blk off cap:Nat)(l:List Int)(w:World)(hH:HoldsK valsI 1 w blk off l.toArray)(_:blk < w.heap.size)(hd:l.length < 4611686018427387904)(hc:l.length<=cap):
  Calls Try.prog 55 #[.slice (some ⟨blk,off,none⟩) l.length cap] w λe w'=>e= .returned (.slice (some ⟨blk,off,none⟩) (Lib.compact l).length cap)/\∃n os rest,(Lib.compact l++rest).length=l.length/\w'=sortWorldK valsI 1 w blk off n (Lib.compact l++rest).toArray os:=by
 have h:Calls Try.prog 55 _ w _:=Any.slices_Compact_int cutIL blk off cap l w (qsz hH) (by omega) hc
 refine h.mono ?_
 rintro e w' ⟨rfl,q,rfl⟩
 refine ⟨rfl,q,#[],List.replicate (l.length - (Lib.compact l).length) 0, ?_,qwf w blk off q _⟩
 have:=Lib.compact_length_le l
 rw [List.length_append,List.length_replicate]
 omega
theorem qrw(p:Option Addr)(cap:Nat)(w:World):Calls Try.prog 55 #[.slice p 0 cap] w λe w'=>e= .returned (.slice p 0 cap)/\w'=w:=by
 have:= @Any.slices_Compact_int_empty _ _ cutIL p cap w
 exact this
theorem qum:SpcOk Try.prog 55 (qiy (.i .i64) Lib.compact):=
 qwi λs hs=>qq7 (t:= .i .i64) (vals:=valsI) (λ_=>rfl) qss (by decide) Lib.compact qu0 qpi qrw s hs
def compI(l:List Int):List Int:=Lib.compact l
theorem qrn:SpcOk Try.prog 55 (qiy (.i .i64) compI):=qum
end Go.Proofs.Ythcplpfiidlinaa.L
