/- The library's sorts and Compact in this program: what they do. Conditions: none. -/
import Derived.Test.YtpnnnoagjcpmhaaDoorKs
import Derived.Test.YtpnnnoagjcpmhaaDoorKm
import Derived.Test.YtpnnnoagjcpmhaaDoorUa
import Derived.Test.YtpnnnoagjcpmhaaDoorUSh
import Derived.Lib.RowBridge
open Go.Proofs renaming ltOf->iQ
open List renaming mem_cons->aF,not_mem_nil->cV
open Option renaming bind_some->ae
noncomputable section
namespace Go.Proofs.YtpnnnoagjcpmhaaDoor.U
open Go Go.Ev Go.Proofs Go.Shelf Go.RowKit Go.Lib Go.Sort
def uw(a b:Int):Int:=if a<b then-1 else if a>b then 1 else 0
def t_(x y:O.ap):Int:=if uw x.2.2.2 y.2.2.2≠0 then uw x.2.2.2 y.2.2.2 else if uw x.1 y.1≠0 then uw x.1 y.1 else uw x.2.1 y.2.1
theorem OH(a b:Int):O.ii a b=some (uw a b):=by
 simp only[O.ii,O.mi,ae,bne_self_eq_false,cond_false,uw];by_cases h1:a<b
 .rw [decide_eq_true h1,if_pos h1];rfl
 .rw [decide_eq_false h1,if_neg h1,cond_false];by_cases h2:a>b
  .rw [decide_eq_true h2,if_pos h2];rfl
  .rw [decide_eq_false h2,if_neg h2];rfl
theorem Pv(a b c:Int):O.qa (Sl.mk [a,b,c])=some (if a≠0 then a else if b≠0 then b else c):=by
 have st:∀(i:Nat)(x:Int),[a,b,c][i]?=some x->O.oT (Sl.mk [a,b,c]) (i:Int)=if x≠0 then some (.inr (.inl x))else some (.inl ((i+1:Nat):Int)):=by
  intro i x hx;obtain⟨hi,he⟩:=List.getElem?_eq_some_iff.1 hx;have hi3:i<3:=hi;simp only[O.oT];rw[decide_eq_true (show(i:Int)<((Sl.mk [a,b,c]).l.length:Int)by show(i:Int)<3;omega),cond_true,bP (show i<(Sl.mk [a,b,c]).l.length from hi3)];simp only[ae];have hg:gt (Sl.mk [a,b,c]).l i=x:=by rw[eu (show i<(Sl.mk [a,b,c]).l.length from hi3)];exact he
  rw[hg];by_cases h:x=0
  .subst h;have:wr .i64 ((i:Int)+1)=((i+1:Nat):Int):=by simp[wr,IntKind.wrap,IntKind.bits,IntKind.signed];omega
   rw[this];rfl
  .rw [if_pos h,show(x !=0)=true by simpa using h];rfl
 unfold O.qa;by_cases h1:a=0
 case neg=>rw[cS (b:=.inl a) (by have:=st 0 a rfl;rw[if_pos h1]at this;exact this),if_pos h1];rfl
 rw[dV (a':=((1:Nat):Int)) (by have:=st 0 a rfl;rw[if_neg (not_not_intro h1)]at this;exact this),if_neg (not_not_intro h1)];by_cases h2:b=0
 case neg=>rw[cS (b:=.inl b) (by have:=st 1 b rfl;rw[if_pos h2]at this;exact this),if_pos h2];rfl
 rw[dV (a':=((2:Nat):Int)) (by have:=st 1 b rfl;rw[if_neg (not_not_intro h2)]at this;exact this),if_neg (not_not_intro h2)];by_cases h3:c=0
 case neg=>rw[cS (b:=.inl c) (by have:=st 2 c rfl;rw[if_pos h3]at this;exact this)];rfl
 rw[dV (a':=((3:Nat):Int)) (by have:=st 2 c rfl;rw[if_neg (not_not_intro h3)]at this;exact this),cS (b:=.inr ()) rfl,h3];rfl
theorem Ip(x y:O.ap):O.qH x y=some (t_ x y):=by simp only[O.qH,OH,Pv,ae,t_]
theorem xg{a b:Int}:uw a b<0<->a<b:=by unfold uw;split<;>(try split)<;>omega
theorem rp{a b:Int}:uw a b=0<->a=b:=by unfold uw;split<;>(try split)<;>omega
def P9(x y:O.ap):Prop:=x.2.2.2<y.2.2.2\/x.2.2.2=y.2.2.2/\(x.1<y.1\/x.1=y.1/\x.2.1<y.2.1)
theorem Am{x y:O.ap}:iQ t_ x y=true<->P9 x y:=by
 unfold iQ t_ P9;rw[decide_eq_true_eq];by_cases h1:uw x.2.2.2 y.2.2.2=0
 .rw [if_neg (not_not_intro h1)];have e1:=rp.1 h1;by_cases h2:uw x.1 y.1=0
  .rw [if_neg (not_not_intro h2),xg];have e2:=rp.1 h2;omega
  .rw [if_pos h2,xg];have e2:x.1≠y.1:=fun h=>h2 (rp.2 h);omega
 .rw [if_pos h1,xg];have e1:x.2.2.2≠y.2.2.2:=fun h=>h1 (rp.2 h);omega
theorem Pm:Go.Sort.SWO (iQ t_)where
 irrefl x:=by
  cases h:iQ t_ x x
  .rfl
  .have:=Am.1 h;unfold P9 at this;omega
 trans x y z h1 h2:=by rw[Am]at*;unfold P9 at*;omega
 ntrans x y z h1 h2:=by rw[<-Bool.not_eq_true,Am]at*;unfold P9 at*;omega
def kq(d:Array O.ap):Array O.ap:=Go.Sort.pdq (iQ t_) d 0 d.size (Lib.bitLen d.size) true true
theorem oe(d:Array O.ap):Go.Sort.PermIn 0 d.size d (kq d)/\Go.Sort.SortedIn (iQ t_) 0 d.size (kq d):=Go.Sort.pdq_sorts (iQ t_) Pm d 0 d.size (Lib.bitLen d.size) true true (Nat.zero_le _) (Nat.le_refl _) (Or.inl rfl)
def vF(x:O.ap):List Value:=[.int .i64 x.1,.int .i64 x.2.1,.int .i64 x.2.2.1,.int .i64 x.2.2.2]
theorem yf(x:O.ap):aM O.y0 x=ce (vF x):=rfl
theorem uJ(x:O.ap):∀v∈vF x,u9 v=true:=by intro v hv;simp only[vF,aF,cV,or_false]at hv;rcases hv with rfl|rfl|rfl|rfl<;>rfl
theorem Dv(x y:O.ap):Go.Ev.qV Tryd.prog 18 [.agg (aM O.y0 x),.agg (aM O.y0 y)] [.c (.d (.lit (.int .i64 (t_ x y))))] []:=O.Qc.2 (x,y) (t_ x y) (Ip x y)
theorem B8(args:Array Value)(w:World):(callFunc 18 args).run Tryd.prog w=.ok (.enter 18 args) w:=enters_of Tryd.func18 (by kernel_rfl) rfl args w
theorem JW(args:Array Value)(w:World):(callFunc 17 args).run Tryd.prog w=.ok (.enter 17 args) w:=enters_of Tryd.func17 (by kernel_rfl) rfl args w
theorem C1(p:Option Addr)(cap:Nat)(fv:Value)(w:World):Calls Tryd.prog 17 #[.slice p 0 cap,fv] w fun e w'=>e=.returned (.tuple #[])/\w'=w:=by have:=@AnyF.slices_SortFunc_none _ _ EH p cap fv w;exact this
theorem RL(x y:O.ap){S:Nat->Prop}{w:World}(hS:∀c,S c->c<w.heap.size)(hgl:sE S w):Calls Tryd.prog 18 #[.agg (vF x).toArray,.agg (vF y).toArray] w fun e w'=>e=.returned (.int .i64 (t_ x y))/\∃q os,w'=grow (w.drewN q) os:=Js (t:=O.y0) yf uJ Dv B8 x y hS hgl
theorem FS:dq Tryd.prog 17 (zt O.y0 18 kq):=
 Le fun s hs=>FR (t:=O.y0) yf uJ (by decide) kq (fun d=>(oe d).1.1) JW
  (fun S bA off cap d w hH hb hd hS hSb hgl=>AnyQ.slices_SortFunc_eq EH 4 Tryd.isAgg51 Tryd.sizeOf51 vF (fun _=>rfl) (fun x v hv=>by
   simp only[vF,aF,cV,or_false]at hv;rcases hv with rfl|rfl|rfl|rfl<;>rfl) t_ Pm 18 #[] bA off cap d w B8
   (fun m os dk _ x y=>RL x y (Pn hS) (Lb hS hSb hgl)) hH hb hd)
  C1 s hs
def qe(x:Int):List Value:=[.int .i64 x]
theorem MZ(d:Array Int){j:Nat}(hj:j<d.size):(flatK qe 1 d)[j]! =.int .i64 d[j]!:=by rw[get_flatK _ _ _ _ (by omega),Nat.div_one,Nat.mod_one];rfl
theorem Jp{w:World}{bA off:Nat}{d:Array Int}(h:HoldsK qe 1 w bA off d):Holds (Value.int .i64) w bA off d:=by intro j hj;have:=h j (by rw[size_flatK];omega);rw[MZ d hj]at this;exact this
theorem Ps(w:World)(bA off:Nat)(d:Array Int):putRow (Value.int .i64) w bA off d=putRowK qe 1 w bA off d:=by
 unfold putRowK putRow putCells;rw[size_flatK,Nat.mul_one];congr 1;funext c;apply Array.ext
 .simp
 .intro i h1 h2;simp only[Array.getElem_mapIdx];by_cases h:off<=i/\i<off+d.size
  .rw [if_pos h,if_pos h,MZ d (by omega)];rfl
  .rw [if_neg h,if_neg h]
theorem Nh(w:World)(bA off n:Nat)(d:Array Int)(os:Array Obj):grow (putRow (Value.int .i64) (Go.Sort.ahead w n) bA off d) os=sortWorldK qe 1 w bA off n d os:=by rw[Ps];rfl
theorem Ng(w:World)(bA off n:Nat)(d:Array Int):putRow (Value.int .i64) (Go.Sort.ahead w n) bA off d=sortWorldK qe 1 w bA off n d #[]:=by rw[Ps];unfold sortWorldK;rw[grow_empty]
def MV(x y:Int):Bool:=decide (x<=y)
def pJ(d:Array Int):Array Int:=(d.toList.mergeSort MV).toArray
theorem FQ(d:Array Int):(pJ d).size=d.size:=by simp[pJ]
theorem JU(args:Array Value)(w:World):(callFunc 21 args).run Tryd.prog w=.ok (.enter 21 args) w:=enters_of Tryd.func21 (by kernel_rfl) rfl args w
theorem JT(args:Array Value)(w:World):(callFunc 22 args).run Tryd.prog w=.ok (.enter 22 args) w:=enters_of Tryd.func22 (by kernel_rfl) rfl args w
theorem Ij(x:Int):∀v∈qe x,u9 v=true:=by intro v hv;obtain rfl:=List.mem_singleton.1 hv;rfl
theorem FU(bA off cap:Nat)(d:Array Int)(w:World)(hH:HoldsK qe 1 w bA off d)(hb:bA<w.heap.size)(hd:d.size<4611686018427387904):
  Calls Tryd.prog 21 #[.slice (some ⟨bA,off,none⟩) d.size cap] w fun e w'=>e=.returned (.tuple #[])/\∃n os,w'=sortWorldK qe 1 w bA off n (pJ d) os:=by
 have h:Calls Tryd.prog 21 _ w _:=Any.slices_Sort_int HW bA off cap d.toList w (by simpa using Jp hH) hb (by simpa using hd);rw[Array.length_toList]at h;refine h.mono ?_;rintro e w' ⟨rfl,n,os,rfl⟩;exact⟨rfl,n,os,Nh w bA off n _ os⟩
theorem FT(p:Option Addr)(cap:Nat)(w:World):Calls Tryd.prog 21 #[.slice p 0 cap] w fun e w'=>e=.returned (.tuple #[])/\w'=w:=by have:=@Any.slices_Sort_int_none _ _ HW p cap w;exact this
theorem HV:dq Tryd.prog 21 (vS (.i .i64) pJ):=HU fun s hs=>C0 (t:=.i .i64) (vals:=qe) (fun _=>rfl) Ij (by decide) pJ FQ JU FU FT s hs
theorem J7(bA off cap:Nat)(l:List Int)(w:World)(hH:HoldsK qe 1 w bA off l.toArray)(_:bA<w.heap.size)(hd:l.length<4611686018427387904)(hc:l.length<=cap):
  Calls Tryd.prog 22 #[.slice (some ⟨bA,off,none⟩) l.length cap] w fun e w'=>e=.returned (.slice (some ⟨bA,off,none⟩) (Lib.compact l).length cap)/\∃n os rest,(Lib.compact l++rest).length=l.length/\w'=sortWorldK qe 1 w bA off n (Lib.compact l++rest).toArray os:=by
 have h:Calls Tryd.prog 22 _ w _:=Any.slices_Compact_int M2 bA off cap l w (Jp hH) (by omega) hc;refine h.mono ?_;rintro e w' ⟨rfl,q,rfl⟩;refine⟨rfl,q, #[],List.replicate (l.length-(Lib.compact l).length) 0,?_,Ng w bA off q _⟩;have:=Lib.compact_length_le l;rw[List.length_append,List.length_replicate];omega
theorem J6(p:Option Addr)(cap:Nat)(w:World):Calls Tryd.prog 22 #[.slice p 0 cap] w fun e w'=>e=.returned (.slice p 0 cap)/\w'=w:=by have:=@Any.slices_Compact_int_empty _ _ M2 p cap w;exact this
theorem Mi:dq Tryd.prog 22 (Af (.i .i64) Lib.compact):=OD fun s hs=>J4 (t:=.i .i64) (vals:=qe) (fun _=>rfl) Ij (by decide) Lib.compact JT J7 J6 s hs
def pw(l:List Int):List Int:=Lib.compact l
theorem Ka:dq Tryd.prog 22 (Af (.i .i64) pw):=Mi
end Go.Proofs.YtpnnnoagjcpmhaaDoor.U
