/- The library's sorts and Compact in this program: what they do. Conditions: none. -/
import Derived.Test.YthcplpfiidlinaaDoorKs
import Derived.Test.YthcplpfiidlinaaDoorKm
import Derived.Test.YthcplpfiidlinaaDoorJa
import Derived.Test.YthcplpfiidlinaaDoorJSh
import Derived.Lib.RowBridge
noncomputable section
open Go.Proofs renaming ltOf->kf
open List renaming mem_cons->aN,not_mem_nil->gj
open Option renaming bind_some->af
namespace Go.Proofs.YthcplpfiidlinaaDoor.J
open Go Go.Ev Go.Proofs Go.Shelf Go.RowKit Go.Lib Go.Sort
def wK(a b:Int):Int:=if a<b then-1 else if a>b then 1 else 0
def wh(x y:O.ae):Int:=if wK x.2.2.2 y.2.2.2≠0 then wK x.2.2.2 y.2.2.2 else if wK x.1 y.1≠0 then wK x.1 y.1 else wK x.2.1 y.2.1
theorem Q9(a b:Int):O.jp a b=some (wK a b):=by
 simp only[O.jp,O.nY,af,bne_self_eq_false,cond_false,wK];by_cases h1:a<b
 .rw [decide_eq_true h1,if_pos h1];rfl
 .rw [decide_eq_false h1,if_neg h1,cond_false];by_cases h2:a>b
  .rw [decide_eq_true h2,if_pos h2];rfl
  .rw [decide_eq_false h2,if_neg h2];rfl
theorem R_(a b c:Int):O.rN (Sl.mk [a,b,c])=some (if a≠0 then a else if b≠0 then b else c):=by
 have st:∀(i:Nat)(x:Int),[a,b,c][i]?=some x->O.qC (Sl.mk [a,b,c]) (i:Int)=if x≠0 then some (.inr (.inl x))else some (.inl ((i+1:Nat):Int)):=by
  intro i x hx;obtain⟨hi,he⟩:=List.getElem?_eq_some_iff.1 hx;have hi3:i<3:=hi;simp only[O.qC];rw[decide_eq_true (show(i:Int)<((Sl.mk [a,b,c]).l.length:Int)by show(i:Int)<3;omega),cond_true,bp (show i<(Sl.mk [a,b,c]).l.length from hi3)];simp only[af];have hg:gt (Sl.mk [a,b,c]).l i=x:=by rw[cQ (show i<(Sl.mk [a,b,c]).l.length from hi3)];exact he
  rw[hg];by_cases h:x=0
  .subst h;have:wr .i64 ((i:Int)+1)=((i+1:Nat):Int):=by simp[wr,IntKind.wrap,IntKind.bits,IntKind.signed];omega
   rw[this];rfl
  .rw [if_pos h,show(x !=0)=true by simpa using h];rfl
 unfold O.rN;by_cases h1:a=0
 case neg=>rw[cA (b:=.inl a) (by have:=st 0 a rfl;rw[if_pos h1]at this;exact this),if_pos h1];rfl
 rw[dl (a':=((1:Nat):Int)) (by have:=st 0 a rfl;rw[if_neg (not_not_intro h1)]at this;exact this),if_neg (not_not_intro h1)];by_cases h2:b=0
 case neg=>rw[cA (b:=.inl b) (by have:=st 1 b rfl;rw[if_pos h2]at this;exact this),if_pos h2];rfl
 rw[dl (a':=((2:Nat):Int)) (by have:=st 1 b rfl;rw[if_neg (not_not_intro h2)]at this;exact this),if_neg (not_not_intro h2)];by_cases h3:c=0
 case neg=>rw[cA (b:=.inl c) (by have:=st 2 c rfl;rw[if_pos h3]at this;exact this)];rfl
 rw[dl (a':=((3:Nat):Int)) (by have:=st 2 c rfl;rw[if_neg (not_not_intro h3)]at this;exact this),cA (b:=.inr ()) rfl,h3];rfl
theorem KQ(x y:O.ae):O.sQ x y=some (wh x y):=by simp only[O.sQ,Q9,R_,af,wh]
theorem zy{a b:Int}:wK a b<0<->a<b:=by unfold wK;split<;>(try split)<;>omega
theorem tX{a b:Int}:wK a b=0<->a=b:=by unfold wK;split<;>(try split)<;>omega
def Ng(x y:O.ae):Prop:=x.2.2.2<y.2.2.2\/x.2.2.2=y.2.2.2/\(x.1<y.1\/x.1=y.1/\x.2.1<y.2.1)
theorem xQ{x y:O.ae}:kf wh x y=true<->Ng x y:=by
 unfold kf wh Ng;rw[decide_eq_true_eq];by_cases h1:wK x.2.2.2 y.2.2.2=0
 .rw [if_neg (not_not_intro h1)];have e1:=tX.1 h1;by_cases h2:wK x.1 y.1=0
  .rw [if_neg (not_not_intro h2),zy];have e2:=tX.1 h2;omega
  .rw [if_pos h2,zy];have e2:x.1≠y.1:=fun h=>h2 (tX.2 h);omega
 .rw [if_pos h1,zy];have e1:x.2.2.2≠y.2.2.2:=fun h=>h1 (tX.2 h);omega
theorem RY:Go.Sort.SWO (kf wh)where
 irrefl x:=by
  cases h:kf wh x x
  .rfl
  .have:=xQ.1 h;unfold Ng at this;omega
 trans x y z h1 h2:=by rw[xQ]at*;unfold Ng at*;omega
 ntrans x y z h1 h2:=by rw[<-Bool.not_eq_true,xQ]at*;unfold Ng at*;omega
def jM(d:Array O.ae):Array O.ae:=Go.Sort.pdq (kf wh) d 0 d.size (Lib.bitLen d.size) true true
theorem oc(d:Array O.ae):Go.Sort.PermIn 0 d.size d (jM d)/\Go.Sort.SortedIn (kf wh) 0 d.size (jM d):=Go.Sort.pdq_sorts (kf wh) RY d 0 d.size (Lib.bitLen d.size) true true (Nat.zero_le _) (Nat.le_refl _) (Or.inl rfl)
def xV(x:O.ae):List Value:=[.int .i64 x.1,.int .i64 x.2.1,.int .i64 x.2.2.1,.int .i64 x.2.2.2]
theorem Az(x:O.ae):aS O.y0 x=cE (xV x):=rfl
theorem wU(x:O.ae):∀v∈xV x,ei v=true:=by intro v hv;simp only[xV,aN,gj,or_false]at hv;rcases hv with rfl|rfl|rfl|rfl<;>rfl
theorem FK(x y:O.ae):Go.Ev.sq Tryd.prog 43 [.agg (aS O.y0 x),.agg (aS O.y0 y)] [.c (.d (.lit (.int .i64 (wh x y))))] []:=O.Ux.2 (x,y) (wh x y) (KQ x y)
theorem Eh(args:Array Value)(w:World):(callFunc 43 args).run Tryd.prog w=.ok (.enter 43 args) w:=enters_of Tryd.func43 (by kernel_rfl) rfl args w
theorem Mt(args:Array Value)(w:World):(callFunc 42 args).run Tryd.prog w=.ok (.enter 42 args) w:=enters_of Tryd.func42 (by kernel_rfl) rfl args w
theorem Fd(p:Option Addr)(cap:Nat)(fv:Value)(w:World):Calls Tryd.prog 42 #[.slice p 0 cap,fv] w fun e w'=>e=.returned (.tuple #[])/\w'=w:=by have:=@AnyF.slices_SortFunc_none _ _ G4 p cap fv w;exact this
theorem UW(x y:O.ae){S:Nat->Prop}{w:World}(hS:∀c,S c->c<w.heap.size)(hgl:uV S w):Calls Tryd.prog 43 #[.agg (xV x).toArray,.agg (xV y).toArray] w fun e w'=>e=.returned (.int .i64 (wh x y))/\∃q os,w'=grow (w.drewN q) os:=LY (t:=O.y0) Az wU FK Eh x y hS hgl
theorem Ie:cZ Tryd.prog 42 (BG O.y0 43 jM):=
 NJ fun s hs=>Ic (t:=O.y0) Az wU (by decide) jM (fun d=>(oc d).1.1) Mt
  (fun S bW off cap d w hH hb hd hS hSb hgl=>AnyQ.slices_SortFunc_eq G4 4 Tryd.isAgg71 Tryd.sizeOf71 xV (fun _=>rfl) (fun x v hv=>by
   simp only[xV,aN,gj,or_false]at hv;rcases hv with rfl|rfl|rfl|rfl<;>rfl) wh RY 43 #[] bW off cap d w Eh
   (fun m os dk _ x y=>UW x y (RZ hS) (NF hS hSb hgl)) hH hb hd)
  Fd s hs
def rS(x:Int):List Value:=[.int .i64 x]
theorem Pz(d:Array Int){j:Nat}(hj:j<d.size):(flatK rS 1 d)[j]! =.int .i64 d[j]!:=by rw[get_flatK _ _ _ _ (by omega),Nat.div_one,Nat.mod_one];rfl
theorem LV{w:World}{bW off:Nat}{d:Array Int}(h:HoldsK rS 1 w bW off d):Holds (Value.int .i64) w bW off d:=by intro j hj;have:=h j (by rw[size_flatK];omega);rw[Pz d hj]at this;exact this
theorem R5(w:World)(bW off:Nat)(d:Array Int):putRow (Value.int .i64) w bW off d=putRowK rS 1 w bW off d:=by
 unfold putRowK putRow putCells;rw[size_flatK,Nat.mul_one];congr 1;funext c;apply Array.ext
 .simp
 .intro i h1 h2;simp only[Array.getElem_mapIdx];by_cases h:off<=i/\i<off+d.size
  .rw [if_pos h,if_pos h,Pz d (by omega)];rfl
  .rw [if_neg h,if_neg h]
theorem PS(w:World)(bW off n:Nat)(d:Array Int)(os:Array Obj):grow (putRow (Value.int .i64) (Go.Sort.ahead w n) bW off d) os=sortWorldK rS 1 w bW off n d os:=by rw[R5];rfl
theorem PR(w:World)(bW off n:Nat)(d:Array Int):putRow (Value.int .i64) (Go.Sort.ahead w n) bW off d=sortWorldK rS 1 w bW off n d #[]:=by rw[R5];unfold sortWorldK;rw[grow_empty]
def J5(x y:Int):Bool:=decide (x<=y)
def rm(d:Array Int):Array Int:=(d.toList.mergeSort J5).toArray
theorem Ib(d:Array Int):(rm d).size=d.size:=by simp[rm]
theorem Ms(args:Array Value)(w:World):(callFunc 45 args).run Tryd.prog w=.ok (.enter 45 args) w:=enters_of Tryd.func45 (by kernel_rfl) rfl args w
theorem Mr(args:Array Value)(w:World):(callFunc 46 args).run Tryd.prog w=.ok (.enter 46 args) w:=enters_of Tryd.func46 (by kernel_rfl) rfl args w
theorem KM(x:Int):∀v∈rS x,ei v=true:=by intro v hv;obtain rfl:=List.mem_singleton.1 hv;rfl
theorem Ig(bW off cap:Nat)(d:Array Int)(w:World)(hH:HoldsK rS 1 w bW off d)(hb:bW<w.heap.size)(hd:d.size<4611686018427387904):
  Calls Tryd.prog 45 #[.slice (some ⟨bW,off,none⟩) d.size cap] w fun e w'=>e=.returned (.tuple #[])/\∃n os,w'=sortWorldK rS 1 w bW off n (rm d) os:=by
 have h:Calls Tryd.prog 45 _ w _:=Any.slices_Sort_int Kr bW off cap d.toList w (by simpa using LV hH) hb (by simpa using hd);rw[Array.length_toList]at h;refine h.mono ?_;rintro e w' ⟨rfl,n,os,rfl⟩;exact⟨rfl,n,os,PS w bW off n _ os⟩
theorem If(p:Option Addr)(cap:Nat)(w:World):Calls Tryd.prog 45 #[.slice p 0 cap] w fun e w'=>e=.returned (.tuple #[])/\w'=w:=by have:=@Any.slices_Sort_int_none _ _ Kr p cap w;exact this
theorem Kq:cZ Tryd.prog 45 (ye (.i .i64) rm):=Kp fun s hs=>Fc (t:=.i .i64) (vals:=rS) (fun _=>rfl) KM (by decide) rm Ib Ms Ig If s hs
theorem MF(bW off cap:Nat)(l:List Int)(w:World)(hH:HoldsK rS 1 w bW off l.toArray)(_:bW<w.heap.size)(hd:l.length<4611686018427387904)(hc:l.length<=cap):
  Calls Tryd.prog 46 #[.slice (some ⟨bW,off,none⟩) l.length cap] w fun e w'=>e=.returned (.slice (some ⟨bW,off,none⟩) (Lib.compact l).length cap)/\∃n os rest,(Lib.compact l++rest).length=l.length/\w'=sortWorldK rS 1 w bW off n (Lib.compact l++rest).toArray os:=by
 have h:Calls Tryd.prog 46 _ w _:=Any.slices_Compact_int PC bW off cap l w (LV hH) (by omega) hc;refine h.mono ?_;rintro e w' ⟨rfl,q,rfl⟩;refine⟨rfl,q, #[],List.replicate (l.length-(Lib.compact l).length) 0,?_,PR w bW off q _⟩;have:=Lib.compact_length_le l;rw[List.length_append,List.length_replicate];omega
theorem ME(p:Option Addr)(cap:Nat)(w:World):Calls Tryd.prog 46 #[.slice p 0 cap] w fun e w'=>e=.returned (.slice p 0 cap)/\w'=w:=by have:=@Any.slices_Compact_int_empty _ _ PC p cap w;exact this
theorem OO:cZ Tryd.prog 46 (Cf (.i .i64) Lib.compact):=Q5 fun s hs=>MC (t:=.i .i64) (vals:=rS) (fun _=>rfl) KM (by decide) Lib.compact Mr MF ME s hs
def r_(l:List Int):List Int:=Lib.compact l
theorem MM:cZ Tryd.prog 46 (Cf (.i .i64) r_):=OO
end Go.Proofs.YthcplpfiidlinaaDoor.J
