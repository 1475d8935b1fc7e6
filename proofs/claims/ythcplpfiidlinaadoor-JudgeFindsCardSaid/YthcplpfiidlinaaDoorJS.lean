/- The library's sorts and Compact in this program: what they do. Conditions: none. -/
import Derived.Test.YthcplpfiidlinaaDoorKs
import Derived.Test.YthcplpfiidlinaaDoorKm
import Derived.Test.YthcplpfiidlinaaDoorJa
import Derived.Test.YthcplpfiidlinaaDoorJSh
import Derived.Lib.RowBridge
open Go.Proofs renaming ltOf->kg
open List renaming mem_cons->aN,not_mem_nil->gj
open Option renaming bind_some->af
noncomputable section
namespace Go.Proofs.YthcplpfiidlinaaDoor.J
open Go Go.Ev Go.Proofs Go.Shelf Go.RowKit Go.Lib Go.Sort
def wP(a b:Int):Int:=if a<b then-1 else if a>b then 1 else 0
def wn(x y:O.ae):Int:=if wP x.2.2.2 y.2.2.2≠0 then wP x.2.2.2 y.2.2.2 else if wP x.1 y.1≠0 then wP x.1 y.1 else wP x.2.1 y.2.1
theorem Ra(a b:Int):O.jr a b=some (wP a b):=by
 simp only[O.jr,O.oh,af,bne_self_eq_false,cond_false,wP];by_cases h1:a<b
 .rw [decide_eq_true h1,if_pos h1];rfl
 .rw [decide_eq_false h1,if_neg h1,cond_false];by_cases h2:a>b
  .rw [decide_eq_true h2,if_pos h2];rfl
  .rw [decide_eq_false h2,if_neg h2];rfl
theorem Se(a b c:Int):O.rR (Sl.mk [a,b,c])=some (if a≠0 then a else if b≠0 then b else c):=by
 have st:∀(i:Nat)(x:Int),[a,b,c][i]?=some x->O.qF (Sl.mk [a,b,c]) (i:Int)=if x≠0 then some (.inr (.inl x))else some (.inl ((i+1:Nat):Int)):=by
  intro i x hx;obtain⟨hi,he⟩:=List.getElem?_eq_some_iff.1 hx;have hi3:i<3:=hi;simp only[O.qF];rw[decide_eq_true (show(i:Int)<((Sl.mk [a,b,c]).l.length:Int)by show(i:Int)<3;omega),cond_true,bq (show i<(Sl.mk [a,b,c]).l.length from hi3)];simp only[af];have hg:gt (Sl.mk [a,b,c]).l i=x:=by rw[cR (show i<(Sl.mk [a,b,c]).l.length from hi3)];exact he
  rw[hg];by_cases h:x=0
  .subst h;have:wr .i64 ((i:Int)+1)=((i+1:Nat):Int):=by simp[wr,IntKind.wrap,IntKind.bits,IntKind.signed];omega
   rw[this];rfl
  .rw [if_pos h,show(x !=0)=true by simpa using h];rfl
 unfold O.rR;by_cases h1:a=0
 case neg=>rw[cB (b:=.inl a) (by have:=st 0 a rfl;rw[if_pos h1]at this;exact this),if_pos h1];rfl
 rw[dm (a':=((1:Nat):Int)) (by have:=st 0 a rfl;rw[if_neg (not_not_intro h1)]at this;exact this),if_neg (not_not_intro h1)];by_cases h2:b=0
 case neg=>rw[cB (b:=.inl b) (by have:=st 1 b rfl;rw[if_pos h2]at this;exact this),if_pos h2];rfl
 rw[dm (a':=((2:Nat):Int)) (by have:=st 1 b rfl;rw[if_neg (not_not_intro h2)]at this;exact this),if_neg (not_not_intro h2)];by_cases h3:c=0
 case neg=>rw[cB (b:=.inl c) (by have:=st 2 c rfl;rw[if_pos h3]at this;exact this)];rfl
 rw[dm (a':=((3:Nat):Int)) (by have:=st 2 c rfl;rw[if_neg (not_not_intro h3)]at this;exact this),cB (b:=.inr ()) rfl,h3];rfl
theorem KV(x y:O.ae):O.sW x y=some (wn x y):=by simp only[O.sW,Ra,Se,af,wn]
theorem zF{a b:Int}:wP a b<0<->a<b:=by unfold wP;split<;>(try split)<;>omega
theorem t8{a b:Int}:wP a b=0<->a=b:=by unfold wP;split<;>(try split)<;>omega
def Nl(x y:O.ae):Prop:=x.2.2.2<y.2.2.2\/x.2.2.2=y.2.2.2/\(x.1<y.1\/x.1=y.1/\x.2.1<y.2.1)
theorem xW{x y:O.ae}:kg wn x y=true<->Nl x y:=by
 unfold kg wn Nl;rw[decide_eq_true_eq];by_cases h1:wP x.2.2.2 y.2.2.2=0
 .rw [if_neg (not_not_intro h1)];have e1:=t8.1 h1;by_cases h2:wP x.1 y.1=0
  .rw [if_neg (not_not_intro h2),zF];have e2:=t8.1 h2;omega
  .rw [if_pos h2,zF];have e2:x.1≠y.1:=fun h=>h2 (t8.2 h);omega
 .rw [if_pos h1,zF];have e1:x.2.2.2≠y.2.2.2:=fun h=>h1 (t8.2 h);omega
theorem R4:Go.Sort.SWO (kg wn)where
 irrefl x:=by
  cases h:kg wn x x
  .rfl
  .have:=xW.1 h;unfold Nl at this;omega
 trans x y z h1 h2:=by rw[xW]at*;unfold Nl at*;omega
 ntrans x y z h1 h2:=by rw[<-Bool.not_eq_true,xW]at*;unfold Nl at*;omega
def jN(d:Array O.ae):Array O.ae:=Go.Sort.pdq (kg wn) d 0 d.size (Lib.bitLen d.size) true true
theorem ot(d:Array O.ae):Go.Sort.PermIn 0 d.size d (jN d)/\Go.Sort.SortedIn (kg wn) 0 d.size (jN d):=Go.Sort.pdq_sorts (kg wn) R4 d 0 d.size (Lib.bitLen d.size) true true (Nat.zero_le _) (Nat.le_refl _) (Or.inl rfl)
def x7(x:O.ae):List Value:=[.int .i64 x.1,.int .i64 x.2.1,.int .i64 x.2.2.1,.int .i64 x.2.2.2]
theorem AH(x:O.ae):aS O.y0 x=cF (x7 x):=rfl
theorem wZ(x:O.ae):∀v∈x7 x,eu v=true:=by intro v hv;simp only[x7,aN,gj,or_false]at hv;rcases hv with rfl|rfl|rfl|rfl<;>rfl
theorem FR(x y:O.ae):Go.Ev.sy Tryd.prog 43 [.agg (aS O.y0 x),.agg (aS O.y0 y)] [.c (.d (.lit (.int .i64 (wn x y))))] []:=O.UC.2 (x,y) (wn x y) (KV x y)
theorem Ep(args:Array Value)(w:World):(callFunc 43 args).run Tryd.prog w=.ok (.enter 43 args) w:=enters_of Tryd.func43 (by kernel_rfl) rfl args w
theorem My(args:Array Value)(w:World):(callFunc 42 args).run Tryd.prog w=.ok (.enter 42 args) w:=enters_of Tryd.func42 (by kernel_rfl) rfl args w
theorem Fl(p:Option Addr)(cap:Nat)(fv:Value)(w:World):Calls Tryd.prog 42 #[.slice p 0 cap,fv] w fun e w'=>e=.returned (.tuple #[])/\w'=w:=by have:=@AnyF.slices_SortFunc_none _ _ G_ p cap fv w;exact this
theorem U0(x y:O.ae){S:Nat->Prop}{w:World}(hS:∀c,S c->c<w.heap.size)(hgl:u4 S w):Calls Tryd.prog 43 #[.agg (x7 x).toArray,.agg (x7 y).toArray] w fun e w'=>e=.returned (.int .i64 (wn x y))/\∃q os,w'=grow (w.drewN q) os:=L3 (t:=O.y0) AH wZ FR Ep x y hS hgl
theorem Im:cY Tryd.prog 42 (BP O.y0 43 jN):=
 NO fun s hs=>Il (t:=O.y0) AH wZ (by decide) jN (fun d=>(ot d).1.1) My
  (fun S bY off cap d w hH hb hd hS hSb hgl=>AnyQ.slices_SortFunc_eq G_ 4 Tryd.isAgg71 Tryd.sizeOf71 x7 (fun _=>rfl) (fun x v hv=>by
   simp only[x7,aN,gj,or_false]at hv;rcases hv with rfl|rfl|rfl|rfl<;>rfl) wn R4 43 #[] bY off cap d w Ep
   (fun m os dk _ x y=>U0 x y (R5 hS) (NK hS hSb hgl)) hH hb hd)
  Fl s hs
def rX(x:Int):List Value:=[.int .i64 x]
theorem PB(d:Array Int){j:Nat}(hj:j<d.size):(flatK rX 1 d)[j]! =.int .i64 d[j]!:=by rw[get_flatK _ _ _ _ (by omega),Nat.div_one,Nat.mod_one];rfl
theorem L0{w:World}{bY off:Nat}{d:Array Int}(h:HoldsK rX 1 w bY off d):Holds (Value.int .i64) w bY off d:=by intro j hj;have:=h j (by rw[size_flatK];omega);rw[PB d hj]at this;exact this
theorem R_(w:World)(bY off:Nat)(d:Array Int):putRow (Value.int .i64) w bY off d=putRowK rX 1 w bY off d:=by
 unfold putRowK putRow putCells;rw[size_flatK,Nat.mul_one];congr 1;funext c;apply Array.ext
 .simp
 .intro i h1 h2;simp only[Array.getElem_mapIdx];by_cases h:off<=i/\i<off+d.size
  .rw [if_pos h,if_pos h,PB d (by omega)];rfl
  .rw [if_neg h,if_neg h]
theorem PU(w:World)(bY off n:Nat)(d:Array Int)(os:Array Obj):grow (putRow (Value.int .i64) (Go.Sort.ahead w n) bY off d) os=sortWorldK rX 1 w bY off n d os:=by rw[R_];rfl
theorem PT(w:World)(bY off n:Nat)(d:Array Int):putRow (Value.int .i64) (Go.Sort.ahead w n) bY off d=sortWorldK rX 1 w bY off n d #[]:=by rw[R_];unfold sortWorldK;rw[grow_empty]
def Ka(x y:Int):Bool:=decide (x<=y)
def rq(d:Array Int):Array Int:=(d.toList.mergeSort Ka).toArray
theorem Ik(d:Array Int):(rq d).size=d.size:=by simp[rq]
theorem Mx(args:Array Value)(w:World):(callFunc 45 args).run Tryd.prog w=.ok (.enter 45 args) w:=enters_of Tryd.func45 (by kernel_rfl) rfl args w
theorem Mw(args:Array Value)(w:World):(callFunc 46 args).run Tryd.prog w=.ok (.enter 46 args) w:=enters_of Tryd.func46 (by kernel_rfl) rfl args w
theorem KR(x:Int):∀v∈rX x,eu v=true:=by intro v hv;obtain rfl:=List.mem_singleton.1 hv;rfl
theorem Iq(bY off cap:Nat)(d:Array Int)(w:World)(hH:HoldsK rX 1 w bY off d)(hb:bY<w.heap.size)(hd:d.size<4611686018427387904):
  Calls Tryd.prog 45 #[.slice (some ⟨bY,off,none⟩) d.size cap] w fun e w'=>e=.returned (.tuple #[])/\∃n os,w'=sortWorldK rX 1 w bY off n (rq d) os:=by
 have h:Calls Tryd.prog 45 _ w _:=Any.slices_Sort_int Kw bY off cap d.toList w (by simpa using L0 hH) hb (by simpa using hd);rw[Array.length_toList]at h;refine h.mono ?_;rintro e w' ⟨rfl,n,os,rfl⟩;exact⟨rfl,n,os,PU w bY off n _ os⟩
theorem Ip(p:Option Addr)(cap:Nat)(w:World):Calls Tryd.prog 45 #[.slice p 0 cap] w fun e w'=>e=.returned (.tuple #[])/\w'=w:=by have:=@Any.slices_Sort_int_none _ _ Kw p cap w;exact this
theorem Kv:cY Tryd.prog 45 (yl (.i .i64) rq):=Ku fun s hs=>Fk (t:=.i .i64) (vals:=rX) (fun _=>rfl) KR (by decide) rq Ik Mx Iq Ip s hs
theorem MK(bY off cap:Nat)(l:List Int)(w:World)(hH:HoldsK rX 1 w bY off l.toArray)(_:bY<w.heap.size)(hd:l.length<4611686018427387904)(hc:l.length<=cap):
  Calls Tryd.prog 46 #[.slice (some ⟨bY,off,none⟩) l.length cap] w fun e w'=>e=.returned (.slice (some ⟨bY,off,none⟩) (Lib.compact l).length cap)/\∃n os rest,(Lib.compact l++rest).length=l.length/\w'=sortWorldK rX 1 w bY off n (Lib.compact l++rest).toArray os:=by
 have h:Calls Tryd.prog 46 _ w _:=Any.slices_Compact_int PE bY off cap l w (L0 hH) (by omega) hc;refine h.mono ?_;rintro e w' ⟨rfl,q,rfl⟩;refine⟨rfl,q, #[],List.replicate (l.length-(Lib.compact l).length) 0,?_,PT w bY off q _⟩;have:=Lib.compact_length_le l;rw[List.length_append,List.length_replicate];omega
theorem MJ(p:Option Addr)(cap:Nat)(w:World):Calls Tryd.prog 46 #[.slice p 0 cap] w fun e w'=>e=.returned (.slice p 0 cap)/\w'=w:=by have:=@Any.slices_Compact_int_empty _ _ PE p cap w;exact this
theorem OS:cY Tryd.prog 46 (Cp (.i .i64) Lib.compact):=Q7 fun s hs=>MH (t:=.i .i64) (vals:=rX) (fun _=>rfl) KR (by decide) Lib.compact Mw MK MJ s hs
def sh(l:List Int):List Int:=Lib.compact l
theorem MR:cY Tryd.prog 46 (Cp (.i .i64) sh):=OS
end Go.Proofs.YthcplpfiidlinaaDoor.J
