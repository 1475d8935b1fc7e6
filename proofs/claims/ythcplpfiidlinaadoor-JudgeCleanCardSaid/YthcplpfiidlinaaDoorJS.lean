/- The library's sorts and Compact in this program: what they do. Conditions: none. -/
import Derived.Test.YthcplpfiidlinaaDoorKs
import Derived.Test.YthcplpfiidlinaaDoorKm
import Derived.Test.YthcplpfiidlinaaDoorJa
import Derived.Test.YthcplpfiidlinaaDoorJSh
import Derived.Lib.RowBridge
noncomputable section
open Go.Proofs renaming ltOf->j7
open List renaming mem_cons->aM,not_mem_nil->fZ
open Option renaming bind_some->af
namespace Go.Proofs.YthcplpfiidlinaaDoor.J
open Go Go.Ev Go.Proofs Go.Shelf Go.RowKit Go.Lib Go.Sort
def wB(a b:Int):Int:=if a<b then-1 else if a>b then 1 else 0
def vZ(x y:O.ae):Int:=if wB x.2.2.2 y.2.2.2≠0 then wB x.2.2.2 y.2.2.2 else if wB x.1 y.1≠0 then wB x.1 y.1 else wB x.2.1 y.2.1
theorem QR(a b:Int):O.jj a b=some (wB a b):=by
 simp only[O.jj,O.nP,af,bne_self_eq_false,cond_false,wB];by_cases h1:a<b
 .rw [decide_eq_true h1,if_pos h1];rfl
 .rw [decide_eq_false h1,if_neg h1,cond_false];by_cases h2:a>b
  .rw [decide_eq_true h2,if_pos h2];rfl
  .rw [decide_eq_false h2,if_neg h2];rfl
theorem RM(a b c:Int):O.rE (Sl.mk [a,b,c])=some (if a≠0 then a else if b≠0 then b else c):=by
 have st:∀(i:Nat)(x:Int),[a,b,c][i]?=some x->O.qr (Sl.mk [a,b,c]) (i:Int)=if x≠0 then some (.inr (.inl x))else some (.inl ((i+1:Nat):Int)):=by
  intro i x hx;obtain⟨hi,he⟩:=List.getElem?_eq_some_iff.1 hx;have hi3:i<3:=hi;simp only[O.qr];rw[decide_eq_true (show(i:Int)<((Sl.mk [a,b,c]).l.length:Int)by show(i:Int)<3;omega),cond_true,bA (show i<(Sl.mk [a,b,c]).l.length from hi3)];simp only[af];have hg:gt (Sl.mk [a,b,c]).l i=x:=by rw[cY (show i<(Sl.mk [a,b,c]).l.length from hi3)];exact he
  rw[hg];by_cases h:x=0
  .subst h;have:wr .i64 ((i:Int)+1)=((i+1:Nat):Int):=by simp[wr,IntKind.wrap,IntKind.bits,IntKind.signed];omega
   rw[this];rfl
  .rw [if_pos h,show(x !=0)=true by simpa using h];rfl
 unfold O.rE;by_cases h1:a=0
 case neg=>rw[ct (b:=.inl a) (by have:=st 0 a rfl;rw[if_pos h1]at this;exact this),if_pos h1];rfl
 rw[dh (a':=((1:Nat):Int)) (by have:=st 0 a rfl;rw[if_neg (not_not_intro h1)]at this;exact this),if_neg (not_not_intro h1)];by_cases h2:b=0
 case neg=>rw[ct (b:=.inl b) (by have:=st 1 b rfl;rw[if_pos h2]at this;exact this),if_pos h2];rfl
 rw[dh (a':=((2:Nat):Int)) (by have:=st 1 b rfl;rw[if_neg (not_not_intro h2)]at this;exact this),if_neg (not_not_intro h2)];by_cases h3:c=0
 case neg=>rw[ct (b:=.inl c) (by have:=st 2 c rfl;rw[if_pos h3]at this;exact this)];rfl
 rw[dh (a':=((3:Nat):Int)) (by have:=st 2 c rfl;rw[if_neg (not_not_intro h3)]at this;exact this),ct (b:=.inr ()) rfl,h3];rfl
theorem Kv(x y:O.ae):O.sH x y=some (vZ x y):=by simp only[O.sH,QR,RM,af,vZ]
theorem zn{a b:Int}:wB a b<0<->a<b:=by unfold wB;split<;>(try split)<;>omega
theorem tN{a b:Int}:wB a b=0<->a=b:=by unfold wB;split<;>(try split)<;>omega
def MY(x y:O.ae):Prop:=x.2.2.2<y.2.2.2\/x.2.2.2=y.2.2.2/\(x.1<y.1\/x.1=y.1/\x.2.1<y.2.1)
theorem xH{x y:O.ae}:j7 vZ x y=true<->MY x y:=by
 unfold j7 vZ MY;rw[decide_eq_true_eq];by_cases h1:wB x.2.2.2 y.2.2.2=0
 .rw [if_neg (not_not_intro h1)];have e1:=tN.1 h1;by_cases h2:wB x.1 y.1=0
  .rw [if_neg (not_not_intro h2),zn];have e2:=tN.1 h2;omega
  .rw [if_pos h2,zn];have e2:x.1≠y.1:=fun h=>h2 (tN.2 h);omega
 .rw [if_pos h1,zn];have e1:x.2.2.2≠y.2.2.2:=fun h=>h1 (tN.2 h);omega
theorem Ry:Go.Sort.SWO (j7 vZ)where
 irrefl x:=by
  cases h:j7 vZ x x
  .rfl
  .have:=xH.1 h;unfold MY at this;omega
 trans x y z h1 h2:=by rw[xH]at*;unfold MY at*;omega
 ntrans x y z h1 h2:=by rw[<-Bool.not_eq_true,xH]at*;unfold MY at*;omega
def jH(d:Array O.ae):Array O.ae:=Go.Sort.pdq (j7 vZ) d 0 d.size (Lib.bitLen d.size) true true
theorem nT(d:Array O.ae):Go.Sort.PermIn 0 d.size d (jH d)/\Go.Sort.SortedIn (j7 vZ) 0 d.size (jH d):=Go.Sort.pdq_sorts (j7 vZ) Ry d 0 d.size (Lib.bitLen d.size) true true (Nat.zero_le _) (Nat.le_refl _) (Or.inl rfl)
def xM(x:O.ae):List Value:=[.int .i64 x.1,.int .i64 x.2.1,.int .i64 x.2.2.1,.int .i64 x.2.2.2]
theorem Al(x:O.ae):aR O.y0 x=cB (xM x):=rfl
theorem wM(x:O.ae):∀v∈xM x,d_ v=true:=by intro v hv;simp only[xM,aM,fZ,or_false]at hv;rcases hv with rfl|rfl|rfl|rfl<;>rfl
theorem Fu(x y:O.ae):Go.Ev.r_ Tryd.prog 43 [.agg (aR O.y0 x),.agg (aR O.y0 y)] [.c (.d (.lit (.int .i64 (vZ x y))))] []:=O.Ue.2 (x,y) (vZ x y) (Kv x y)
theorem D1(args:Array Value)(w:World):(callFunc 43 args).run Tryd.prog w=.ok (.enter 43 args) w:=enters_of Tryd.func43 (by kernel_rfl) rfl args w
theorem L8(args:Array Value)(w:World):(callFunc 42 args).run Tryd.prog w=.ok (.enter 42 args) w:=enters_of Tryd.func42 (by kernel_rfl) rfl args w
theorem EX(p:Option Addr)(cap:Nat)(fv:Value)(w:World):Calls Tryd.prog 42 #[.slice p 0 cap,fv] w fun e w'=>e=.returned (.tuple #[])/\w'=w:=by have:=@AnyF.slices_SortFunc_none _ _ GM p cap fv w;exact this
theorem UD(x y:O.ae){S:Nat->Prop}{w:World}(hS:∀c,S c->c<w.heap.size)(hgl:uM S w):Calls Tryd.prog 43 #[.agg (xM x).toArray,.agg (xM y).toArray] w fun e w'=>e=.returned (.int .i64 (vZ x y))/\∃q os,w'=grow (w.drewN q) os:=LC (t:=O.y0) Al wM Fu D1 x y hS hgl
theorem HQ:cV Tryd.prog 42 (Bu O.y0 43 jH):=
 Nn fun s hs=>HP (t:=O.y0) Al wM (by decide) jH (fun d=>(nT d).1.1) L8
  (fun S bU off cap d w hH hb hd hS hSb hgl=>AnyQ.slices_SortFunc_eq GM 4 Tryd.isAgg71 Tryd.sizeOf71 xM (fun _=>rfl) (fun x v hv=>by
   simp only[xM,aM,fZ,or_false]at hv;rcases hv with rfl|rfl|rfl|rfl<;>rfl) vZ Ry 43 #[] bU off cap d w D1
   (fun m os dk _ x y=>UD x y (Rz hS) (Nj hS hSb hgl)) hH hb hd)
  EX s hs
def rK(x:Int):List Value:=[.int .i64 x]
theorem Pg(d:Array Int){j:Nat}(hj:j<d.size):(flatK rK 1 d)[j]! =.int .i64 d[j]!:=by rw[get_flatK _ _ _ _ (by omega),Nat.div_one,Nat.mod_one];rfl
theorem Ly{w:World}{bU off:Nat}{d:Array Int}(h:HoldsK rK 1 w bU off d):Holds (Value.int .i64) w bU off d:=by intro j hj;have:=h j (by rw[size_flatK];omega);rw[Pg d hj]at this;exact this
theorem RH(w:World)(bU off:Nat)(d:Array Int):putRow (Value.int .i64) w bU off d=putRowK rK 1 w bU off d:=by
 unfold putRowK putRow putCells;rw[size_flatK,Nat.mul_one];congr 1;funext c;apply Array.ext
 .simp
 .intro i h1 h2;simp only[Array.getElem_mapIdx];by_cases h:off<=i/\i<off+d.size
  .rw [if_pos h,if_pos h,Pg d (by omega)];rfl
  .rw [if_neg h,if_neg h]
theorem PA(w:World)(bU off n:Nat)(d:Array Int)(os:Array Obj):grow (putRow (Value.int .i64) (Go.Sort.ahead w n) bU off d) os=sortWorldK rK 1 w bU off n d os:=by rw[RH];rfl
theorem Pz(w:World)(bU off n:Nat)(d:Array Int):putRow (Value.int .i64) (Go.Sort.ahead w n) bU off d=sortWorldK rK 1 w bU off n d #[]:=by rw[RH];unfold sortWorldK;rw[grow_empty]
def JI(x y:Int):Bool:=decide (x<=y)
def rb(d:Array Int):Array Int:=(d.toList.mergeSort JI).toArray
theorem HO(d:Array Int):(rb d).size=d.size:=by simp[rb]
theorem L7(args:Array Value)(w:World):(callFunc 45 args).run Tryd.prog w=.ok (.enter 45 args) w:=enters_of Tryd.func45 (by kernel_rfl) rfl args w
theorem L6(args:Array Value)(w:World):(callFunc 46 args).run Tryd.prog w=.ok (.enter 46 args) w:=enters_of Tryd.func46 (by kernel_rfl) rfl args w
theorem Kr(x:Int):∀v∈rK x,d_ v=true:=by intro v hv;obtain rfl:=List.mem_singleton.1 hv;rfl
theorem HT(bU off cap:Nat)(d:Array Int)(w:World)(hH:HoldsK rK 1 w bU off d)(hb:bU<w.heap.size)(hd:d.size<4611686018427387904):
  Calls Tryd.prog 45 #[.slice (some ⟨bU,off,none⟩) d.size cap] w fun e w'=>e=.returned (.tuple #[])/\∃n os,w'=sortWorldK rK 1 w bU off n (rb d) os:=by
 have h:Calls Tryd.prog 45 _ w _:=Any.slices_Sort_int J5 bU off cap d.toList w (by simpa using Ly hH) hb (by simpa using hd);rw[Array.length_toList]at h;refine h.mono ?_;rintro e w' ⟨rfl,n,os,rfl⟩;exact⟨rfl,n,os,PA w bU off n _ os⟩
theorem HS(p:Option Addr)(cap:Nat)(w:World):Calls Tryd.prog 45 #[.slice p 0 cap] w fun e w'=>e=.returned (.tuple #[])/\w'=w:=by have:=@Any.slices_Sort_int_none _ _ J5 p cap w;exact this
theorem J4:cV Tryd.prog 45 (xY (.i .i64) rb):=J3 fun s hs=>EW (t:=.i .i64) (vals:=rK) (fun _=>rfl) Kr (by decide) rb HO L7 HT HS s hs
theorem Mj(bU off cap:Nat)(l:List Int)(w:World)(hH:HoldsK rK 1 w bU off l.toArray)(_:bU<w.heap.size)(hd:l.length<4611686018427387904)(hc:l.length<=cap):
  Calls Tryd.prog 46 #[.slice (some ⟨bU,off,none⟩) l.length cap] w fun e w'=>e=.returned (.slice (some ⟨bU,off,none⟩) (Lib.compact l).length cap)/\∃n os rest,(Lib.compact l++rest).length=l.length/\w'=sortWorldK rK 1 w bU off n (Lib.compact l++rest).toArray os:=by
 have h:Calls Tryd.prog 46 _ w _:=Any.slices_Compact_int Pk bU off cap l w (Ly hH) (by omega) hc;refine h.mono ?_;rintro e w' ⟨rfl,q,rfl⟩;refine⟨rfl,q, #[],List.replicate (l.length-(Lib.compact l).length) 0,?_,Pz w bU off q _⟩;have:=Lib.compact_length_le l;rw[List.length_append,List.length_replicate];omega
theorem Mi(p:Option Addr)(cap:Nat)(w:World):Calls Tryd.prog 46 #[.slice p 0 cap] w fun e w'=>e=.returned (.slice p 0 cap)/\w'=w:=by have:=@Any.slices_Compact_int_empty _ _ Pk p cap w;exact this
theorem Ov:cV Tryd.prog 46 (B5 (.i .i64) Lib.compact):=QN fun s hs=>Mg (t:=.i .i64) (vals:=rK) (fun _=>rfl) Kr (by decide) Lib.compact L6 Mj Mi s hs
def rR(l:List Int):List Int:=Lib.compact l
theorem Mr:cV Tryd.prog 46 (B5 (.i .i64) rR):=Ov
end Go.Proofs.YthcplpfiidlinaaDoor.J
