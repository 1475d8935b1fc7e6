/- The library's sorts and Compact in this program: what they do. Conditions: none. -/
import Derived.Test.YthcplpfiidlinaaDoorKs
import Derived.Test.YthcplpfiidlinaaDoorKm
import Derived.Test.YthcplpfiidlinaaDoorJa
import Derived.Test.YthcplpfiidlinaaDoorJSh
import Derived.Lib.RowBridge
noncomputable section
open Go.Proofs renaming ltOf->j8
open List renaming mem_cons->aP,not_mem_nil->gf
open Option renaming bind_some->af
namespace Go.Proofs.YthcplpfiidlinaaDoor.J
open Go Go.Ev Go.Proofs Go.Shelf Go.RowKit Go.Lib Go.Sort
def wC(a b:Int):Int:=if a<b then-1 else if a>b then 1 else 0
def vZ(x y:O.ae):Int:=if wC x.2.2.2 y.2.2.2≠0 then wC x.2.2.2 y.2.2.2 else if wC x.1 y.1≠0 then wC x.1 y.1 else wC x.2.1 y.2.1
theorem QW(a b:Int):O.jo a b=some (wC a b):=by
 simp only[O.jo,O.nX,af,bne_self_eq_false,cond_false,wC];by_cases h1:a<b
 .rw [decide_eq_true h1,if_pos h1];rfl
 .rw [decide_eq_false h1,if_neg h1,cond_false];by_cases h2:a>b
  .rw [decide_eq_true h2,if_pos h2];rfl
  .rw [decide_eq_false h2,if_neg h2];rfl
theorem RW(a b c:Int):O.rE (Sl.mk [a,b,c])=some (if a≠0 then a else if b≠0 then b else c):=by
 have st:∀(i:Nat)(x:Int),[a,b,c][i]?=some x->O.qs (Sl.mk [a,b,c]) (i:Int)=if x≠0 then some (.inr (.inl x))else some (.inl ((i+1:Nat):Int)):=by
  intro i x hx;obtain⟨hi,he⟩:=List.getElem?_eq_some_iff.1 hx;have hi3:i<3:=hi;simp only[O.qs];rw[decide_eq_true (show(i:Int)<((Sl.mk [a,b,c]).l.length:Int)by show(i:Int)<3;omega),cond_true,bp (show i<(Sl.mk [a,b,c]).l.length from hi3)];simp only[af];have hg:gt (Sl.mk [a,b,c]).l i=x:=by rw[cP (show i<(Sl.mk [a,b,c]).l.length from hi3)];exact he
  rw[hg];by_cases h:x=0
  .subst h;have:wr .i64 ((i:Int)+1)=((i+1:Nat):Int):=by simp[wr,IntKind.wrap,IntKind.bits,IntKind.signed];omega
   rw[this];rfl
  .rw [if_pos h,show(x !=0)=true by simpa using h];rfl
 unfold O.rE;by_cases h1:a=0
 case neg=>rw[cA (b:=.inl a) (by have:=st 0 a rfl;rw[if_pos h1]at this;exact this),if_pos h1];rfl
 rw[dl (a':=((1:Nat):Int)) (by have:=st 0 a rfl;rw[if_neg (not_not_intro h1)]at this;exact this),if_neg (not_not_intro h1)];by_cases h2:b=0
 case neg=>rw[cA (b:=.inl b) (by have:=st 1 b rfl;rw[if_pos h2]at this;exact this),if_pos h2];rfl
 rw[dl (a':=((2:Nat):Int)) (by have:=st 1 b rfl;rw[if_neg (not_not_intro h2)]at this;exact this),if_neg (not_not_intro h2)];by_cases h3:c=0
 case neg=>rw[cA (b:=.inl c) (by have:=st 2 c rfl;rw[if_pos h3]at this;exact this)];rfl
 rw[dl (a':=((3:Nat):Int)) (by have:=st 2 c rfl;rw[if_neg (not_not_intro h3)]at this;exact this),cA (b:=.inr ()) rfl,h3];rfl
theorem KI(x y:O.ae):O.sI x y=some (vZ x y):=by simp only[O.sI,QW,RW,af,vZ]
theorem zk{a b:Int}:wC a b<0<->a<b:=by unfold wC;split<;>(try split)<;>omega
theorem tM{a b:Int}:wC a b=0<->a=b:=by unfold wC;split<;>(try split)<;>omega
def M9(x y:O.ae):Prop:=x.2.2.2<y.2.2.2\/x.2.2.2=y.2.2.2/\(x.1<y.1\/x.1=y.1/\x.2.1<y.2.1)
theorem xG{x y:O.ae}:j8 vZ x y=true<->M9 x y:=by
 unfold j8 vZ M9;rw[decide_eq_true_eq];by_cases h1:wC x.2.2.2 y.2.2.2=0
 .rw [if_neg (not_not_intro h1)];have e1:=tM.1 h1;by_cases h2:wC x.1 y.1=0
  .rw [if_neg (not_not_intro h2),zk];have e2:=tM.1 h2;omega
  .rw [if_pos h2,zk];have e2:x.1≠y.1:=fun h=>h2 (tM.2 h);omega
 .rw [if_pos h1,zk];have e1:x.2.2.2≠y.2.2.2:=fun h=>h1 (tM.2 h);omega
theorem RH:Go.Sort.SWO (j8 vZ)where
 irrefl x:=by
  cases h:j8 vZ x x
  .rfl
  .have:=xG.1 h;unfold M9 at this;omega
 trans x y z h1 h2:=by rw[xG]at*;unfold M9 at*;omega
 ntrans x y z h1 h2:=by rw[<-Bool.not_eq_true,xG]at*;unfold M9 at*;omega
def jH(d:Array O.ae):Array O.ae:=Go.Sort.pdq (j8 vZ) d 0 d.size (Lib.bitLen d.size) true true
theorem n_(d:Array O.ae):Go.Sort.PermIn 0 d.size d (jH d)/\Go.Sort.SortedIn (j8 vZ) 0 d.size (jH d):=Go.Sort.pdq_sorts (j8 vZ) RH d 0 d.size (Lib.bitLen d.size) true true (Nat.zero_le _) (Nat.le_refl _) (Or.inl rfl)
def xK(x:O.ae):List Value:=[.int .i64 x.1,.int .i64 x.2.1,.int .i64 x.2.2.1,.int .i64 x.2.2.2]
theorem Ap(x:O.ae):aT O.y0 x=cE (xK x):=rfl
theorem wM(x:O.ae):∀v∈xK x,dY v=true:=by intro v hv;simp only[xK,aP,gf,or_false]at hv;rcases hv with rfl|rfl|rfl|rfl<;>rfl
theorem Fz(x y:O.ae):Go.Ev.r_ Tryd.prog 43 [.agg (aT O.y0 x),.agg (aT O.y0 y)] [.c (.d (.lit (.int .i64 (vZ x y))))] []:=O.Uj.2 (x,y) (vZ x y) (KI x y)
theorem D4(args:Array Value)(w:World):(callFunc 43 args).run Tryd.prog w=.ok (.enter 43 args) w:=enters_of Tryd.func43 (by kernel_rfl) rfl args w
theorem Ml(args:Array Value)(w:World):(callFunc 42 args).run Tryd.prog w=.ok (.enter 42 args) w:=enters_of Tryd.func42 (by kernel_rfl) rfl args w
theorem E1(p:Option Addr)(cap:Nat)(fv:Value)(w:World):Calls Tryd.prog 42 #[.slice p 0 cap,fv] w fun e w'=>e=.returned (.tuple #[])/\w'=w:=by have:=@AnyF.slices_SortFunc_none _ _ GT p cap fv w;exact this
theorem UK(x y:O.ae){S:Nat->Prop}{w:World}(hS:∀c,S c->c<w.heap.size)(hgl:uK S w):Calls Tryd.prog 43 #[.agg (xK x).toArray,.agg (xK y).toArray] w fun e w'=>e=.returned (.int .i64 (vZ x y))/\∃q os,w'=grow (w.drewN q) os:=LP (t:=O.y0) Ap wM Fz D4 x y hS hgl
theorem H6:cZ Tryd.prog 42 (Bw O.y0 43 jH):=
 Nz fun s hs=>H5 (t:=O.y0) Ap wM (by decide) jH (fun d=>(n_ d).1.1) Ml
  (fun S bW off cap d w hH hb hd hS hSb hgl=>AnyQ.slices_SortFunc_eq GT 4 Tryd.isAgg71 Tryd.sizeOf71 xK (fun _=>rfl) (fun x v hv=>by
   simp only[xK,aP,gf,or_false]at hv;rcases hv with rfl|rfl|rfl|rfl<;>rfl) vZ RH 43 #[] bW off cap d w D4
   (fun m os dk _ x y=>UK x y (RI hS) (Nu hS hSb hgl)) hH hb hd)
  E1 s hs
def rJ(x:Int):List Value:=[.int .i64 x]
theorem Pm(d:Array Int){j:Nat}(hj:j<d.size):(flatK rJ 1 d)[j]! =.int .i64 d[j]!:=by rw[get_flatK _ _ _ _ (by omega),Nat.div_one,Nat.mod_one];rfl
theorem LM{w:World}{bW off:Nat}{d:Array Int}(h:HoldsK rJ 1 w bW off d):Holds (Value.int .i64) w bW off d:=by intro j hj;have:=h j (by rw[size_flatK];omega);rw[Pm d hj]at this;exact this
theorem RN(w:World)(bW off:Nat)(d:Array Int):putRow (Value.int .i64) w bW off d=putRowK rJ 1 w bW off d:=by
 unfold putRowK putRow putCells;rw[size_flatK,Nat.mul_one];congr 1;funext c;apply Array.ext
 .simp
 .intro i h1 h2;simp only[Array.getElem_mapIdx];by_cases h:off<=i/\i<off+d.size
  .rw [if_pos h,if_pos h,Pm d (by omega)];rfl
  .rw [if_neg h,if_neg h]
theorem PG(w:World)(bW off n:Nat)(d:Array Int)(os:Array Obj):grow (putRow (Value.int .i64) (Go.Sort.ahead w n) bW off d) os=sortWorldK rJ 1 w bW off n d os:=by rw[RN];rfl
theorem PF(w:World)(bW off n:Nat)(d:Array Int):putRow (Value.int .i64) (Go.Sort.ahead w n) bW off d=sortWorldK rJ 1 w bW off n d #[]:=by rw[RN];unfold sortWorldK;rw[grow_empty]
def JW(x y:Int):Bool:=decide (x<=y)
def rb(d:Array Int):Array Int:=(d.toList.mergeSort JW).toArray
theorem H4(d:Array Int):(rb d).size=d.size:=by simp[rb]
theorem Mj(args:Array Value)(w:World):(callFunc 45 args).run Tryd.prog w=.ok (.enter 45 args) w:=enters_of Tryd.func45 (by kernel_rfl) rfl args w
theorem Mi(args:Array Value)(w:World):(callFunc 46 args).run Tryd.prog w=.ok (.enter 46 args) w:=enters_of Tryd.func46 (by kernel_rfl) rfl args w
theorem KE(x:Int):∀v∈rJ x,dY v=true:=by intro v hv;obtain rfl:=List.mem_singleton.1 hv;rfl
theorem H8(bW off cap:Nat)(d:Array Int)(w:World)(hH:HoldsK rJ 1 w bW off d)(hb:bW<w.heap.size)(hd:d.size<4611686018427387904):
  Calls Tryd.prog 45 #[.slice (some ⟨bW,off,none⟩) d.size cap] w fun e w'=>e=.returned (.tuple #[])/\∃n os,w'=sortWorldK rJ 1 w bW off n (rb d) os:=by
 have h:Calls Tryd.prog 45 _ w _:=Any.slices_Sort_int Ki bW off cap d.toList w (by simpa using LM hH) hb (by simpa using hd);rw[Array.length_toList]at h;refine h.mono ?_;rintro e w' ⟨rfl,n,os,rfl⟩;exact⟨rfl,n,os,PG w bW off n _ os⟩
theorem H7(p:Option Addr)(cap:Nat)(w:World):Calls Tryd.prog 45 #[.slice p 0 cap] w fun e w'=>e=.returned (.tuple #[])/\w'=w:=by have:=@Any.slices_Sort_int_none _ _ Ki p cap w;exact this
theorem Kh:cZ Tryd.prog 45 (xW (.i .i64) rb):=Kg fun s hs=>E0 (t:=.i .i64) (vals:=rJ) (fun _=>rfl) KE (by decide) rb H4 Mj H8 H7 s hs
theorem My(bW off cap:Nat)(l:List Int)(w:World)(hH:HoldsK rJ 1 w bW off l.toArray)(_:bW<w.heap.size)(hd:l.length<4611686018427387904)(hc:l.length<=cap):
  Calls Tryd.prog 46 #[.slice (some ⟨bW,off,none⟩) l.length cap] w fun e w'=>e=.returned (.slice (some ⟨bW,off,none⟩) (Lib.compact l).length cap)/\∃n os rest,(Lib.compact l++rest).length=l.length/\w'=sortWorldK rJ 1 w bW off n (Lib.compact l++rest).toArray os:=by
 have h:Calls Tryd.prog 46 _ w _:=Any.slices_Compact_int Pp bW off cap l w (LM hH) (by omega) hc;refine h.mono ?_;rintro e w' ⟨rfl,q,rfl⟩;refine⟨rfl,q, #[],List.replicate (l.length-(Lib.compact l).length) 0,?_,PF w bW off q _⟩;have:=Lib.compact_length_le l;rw[List.length_append,List.length_replicate];omega
theorem Mx(p:Option Addr)(cap:Nat)(w:World):Calls Tryd.prog 46 #[.slice p 0 cap] w fun e w'=>e=.returned (.slice p 0 cap)/\w'=w:=by have:=@Any.slices_Compact_int_empty _ _ Pp p cap w;exact this
theorem OD:cZ Tryd.prog 46 (B5 (.i .i64) Lib.compact):=QS fun s hs=>Mv (t:=.i .i64) (vals:=rJ) (fun _=>rfl) KE (by decide) Lib.compact Mi My Mx s hs
def rR(l:List Int):List Int:=Lib.compact l
theorem MF:cZ Tryd.prog 46 (B5 (.i .i64) rR):=OD
end Go.Proofs.YthcplpfiidlinaaDoor.J
