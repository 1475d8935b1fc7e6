/- The library's sorts and Compact in this program: what they do. Conditions: none. -/
import Derived.Test.YthcplpfiidlinaaDoorKs
import Derived.Test.YthcplpfiidlinaaDoorKm
import Derived.Test.YthcplpfiidlinaaDoorJa
import Derived.Test.YthcplpfiidlinaaDoorJSh
import Derived.Lib.RowBridge
noncomputable section
open Go.Proofs renaming ltOf->j_
open List renaming mem_cons->aP,not_mem_nil->gf
open Option renaming bind_some->af
namespace Go.Proofs.YthcplpfiidlinaaDoor.J
open Go Go.Ev Go.Proofs Go.Shelf Go.RowKit Go.Lib Go.Sort
def wI(a b:Int):Int:=if a<b then-1 else if a>b then 1 else 0
def we(x y:O.ae):Int:=if wI x.2.2.2 y.2.2.2≠0 then wI x.2.2.2 y.2.2.2 else if wI x.1 y.1≠0 then wI x.1 y.1 else wI x.2.1 y.2.1
theorem QZ(a b:Int):O.jp a b=some (wI a b):=by
 simp only[O.jp,O.oe,af,bne_self_eq_false,cond_false,wI];by_cases h1:a<b
 .rw [decide_eq_true h1,if_pos h1];rfl
 .rw [decide_eq_false h1,if_neg h1,cond_false];by_cases h2:a>b
  .rw [decide_eq_true h2,if_pos h2];rfl
  .rw [decide_eq_false h2,if_neg h2];rfl
theorem R3(a b c:Int):O.rI (Sl.mk [a,b,c])=some (if a≠0 then a else if b≠0 then b else c):=by
 have st:∀(i:Nat)(x:Int),[a,b,c][i]?=some x->O.qv (Sl.mk [a,b,c]) (i:Int)=if x≠0 then some (.inr (.inl x))else some (.inl ((i+1:Nat):Int)):=by
  intro i x hx;obtain⟨hi,he⟩:=List.getElem?_eq_some_iff.1 hx;have hi3:i<3:=hi;simp only[O.qv];rw[decide_eq_true (show(i:Int)<((Sl.mk [a,b,c]).l.length:Int)by show(i:Int)<3;omega),cond_true,bq (show i<(Sl.mk [a,b,c]).l.length from hi3)];simp only[af];have hg:gt (Sl.mk [a,b,c]).l i=x:=by rw[cR (show i<(Sl.mk [a,b,c]).l.length from hi3)];exact he
  rw[hg];by_cases h:x=0
  .subst h;have:wr .i64 ((i:Int)+1)=((i+1:Nat):Int):=by simp[wr,IntKind.wrap,IntKind.bits,IntKind.signed];omega
   rw[this];rfl
  .rw [if_pos h,show(x !=0)=true by simpa using h];rfl
 unfold O.rI;by_cases h1:a=0
 case neg=>rw[cB (b:=.inl a) (by have:=st 0 a rfl;rw[if_pos h1]at this;exact this),if_pos h1];rfl
 rw[dl (a':=((1:Nat):Int)) (by have:=st 0 a rfl;rw[if_neg (not_not_intro h1)]at this;exact this),if_neg (not_not_intro h1)];by_cases h2:b=0
 case neg=>rw[cB (b:=.inl b) (by have:=st 1 b rfl;rw[if_pos h2]at this;exact this),if_pos h2];rfl
 rw[dl (a':=((2:Nat):Int)) (by have:=st 1 b rfl;rw[if_neg (not_not_intro h2)]at this;exact this),if_neg (not_not_intro h2)];by_cases h3:c=0
 case neg=>rw[cB (b:=.inl c) (by have:=st 2 c rfl;rw[if_pos h3]at this;exact this)];rfl
 rw[dl (a':=((3:Nat):Int)) (by have:=st 2 c rfl;rw[if_neg (not_not_intro h3)]at this;exact this),cB (b:=.inr ()) rfl,h3];rfl
theorem KL(x y:O.ae):O.sO x y=some (we x y):=by simp only[O.sO,QZ,R3,af,we]
theorem zt{a b:Int}:wI a b<0<->a<b:=by unfold wI;split<;>(try split)<;>omega
theorem tR{a b:Int}:wI a b=0<->a=b:=by unfold wI;split<;>(try split)<;>omega
def Nb(x y:O.ae):Prop:=x.2.2.2<y.2.2.2\/x.2.2.2=y.2.2.2/\(x.1<y.1\/x.1=y.1/\x.2.1<y.2.1)
theorem xN{x y:O.ae}:j_ we x y=true<->Nb x y:=by
 unfold j_ we Nb;rw[decide_eq_true_eq];by_cases h1:wI x.2.2.2 y.2.2.2=0
 .rw [if_neg (not_not_intro h1)];have e1:=tR.1 h1;by_cases h2:wI x.1 y.1=0
  .rw [if_neg (not_not_intro h2),zt];have e2:=tR.1 h2;omega
  .rw [if_pos h2,zt];have e2:x.1≠y.1:=fun h=>h2 (tR.2 h);omega
 .rw [if_pos h1,zt];have e1:x.2.2.2≠y.2.2.2:=fun h=>h1 (tR.2 h);omega
theorem RN:Go.Sort.SWO (j_ we)where
 irrefl x:=by
  cases h:j_ we x x
  .rfl
  .have:=xN.1 h;unfold Nb at this;omega
 trans x y z h1 h2:=by rw[xN]at*;unfold Nb at*;omega
 ntrans x y z h1 h2:=by rw[<-Bool.not_eq_true,xN]at*;unfold Nb at*;omega
def jK(d:Array O.ae):Array O.ae:=Go.Sort.pdq (j_ we) d 0 d.size (Lib.bitLen d.size) true true
theorem ol(d:Array O.ae):Go.Sort.PermIn 0 d.size d (jK d)/\Go.Sort.SortedIn (j_ we) 0 d.size (jK d):=Go.Sort.pdq_sorts (j_ we) RN d 0 d.size (Lib.bitLen d.size) true true (Nat.zero_le _) (Nat.le_refl _) (Or.inl rfl)
def xR(x:O.ae):List Value:=[.int .i64 x.1,.int .i64 x.2.1,.int .i64 x.2.2.1,.int .i64 x.2.2.2]
theorem Az(x:O.ae):aT O.y0 x=cF (xR x):=rfl
theorem wS(x:O.ae):∀v∈xR x,ed v=true:=by intro v hv;simp only[xR,aP,gf,or_false]at hv;rcases hv with rfl|rfl|rfl|rfl<;>rfl
theorem FE(x y:O.ae):Go.Ev.sh Tryd.prog 43 [.agg (aT O.y0 x),.agg (aT O.y0 y)] [.c (.d (.lit (.int .i64 (we x y))))] []:=O.Uq.2 (x,y) (we x y) (KL x y)
theorem D_(args:Array Value)(w:World):(callFunc 43 args).run Tryd.prog w=.ok (.enter 43 args) w:=enters_of Tryd.func43 (by kernel_rfl) rfl args w
theorem Mo(args:Array Value)(w:World):(callFunc 42 args).run Tryd.prog w=.ok (.enter 42 args) w:=enters_of Tryd.func42 (by kernel_rfl) rfl args w
theorem E7(p:Option Addr)(cap:Nat)(fv:Value)(w:World):Calls Tryd.prog 42 #[.slice p 0 cap,fv] w fun e w'=>e=.returned (.tuple #[])/\w'=w:=by have:=@AnyF.slices_SortFunc_none _ _ GY p cap fv w;exact this
theorem UQ(x y:O.ae){S:Nat->Prop}{w:World}(hS:∀c,S c->c<w.heap.size)(hgl:uQ S w):Calls Tryd.prog 43 #[.agg (xR x).toArray,.agg (xR y).toArray] w fun e w'=>e=.returned (.int .i64 (we x y))/\∃q os,w'=grow (w.drewN q) os:=LS (t:=O.y0) Az wS FE D_ x y hS hgl
theorem Ib:cY Tryd.prog 42 (BG O.y0 43 jK):=
 ND fun s hs=>Ia (t:=O.y0) Az wS (by decide) jK (fun d=>(ol d).1.1) Mo
  (fun S bY off cap d w hH hb hd hS hSb hgl=>AnyQ.slices_SortFunc_eq GY 4 Tryd.isAgg71 Tryd.sizeOf71 xR (fun _=>rfl) (fun x v hv=>by
   simp only[xR,aP,gf,or_false]at hv;rcases hv with rfl|rfl|rfl|rfl<;>rfl) we RN 43 #[] bY off cap d w D_
   (fun m os dk _ x y=>UQ x y (RP hS) (Nz hS hSb hgl)) hH hb hd)
  E7 s hs
def rO(x:Int):List Value:=[.int .i64 x]
theorem Pp(d:Array Int){j:Nat}(hj:j<d.size):(flatK rO 1 d)[j]! =.int .i64 d[j]!:=by rw[get_flatK _ _ _ _ (by omega),Nat.div_one,Nat.mod_one];rfl
theorem LP{w:World}{bY off:Nat}{d:Array Int}(h:HoldsK rO 1 w bY off d):Holds (Value.int .i64) w bY off d:=by intro j hj;have:=h j (by rw[size_flatK];omega);rw[Pp d hj]at this;exact this
theorem RX(w:World)(bY off:Nat)(d:Array Int):putRow (Value.int .i64) w bY off d=putRowK rO 1 w bY off d:=by
 unfold putRowK putRow putCells;rw[size_flatK,Nat.mul_one];congr 1;funext c;apply Array.ext
 .simp
 .intro i h1 h2;simp only[Array.getElem_mapIdx];by_cases h:off<=i/\i<off+d.size
  .rw [if_pos h,if_pos h,Pp d (by omega)];rfl
  .rw [if_neg h,if_neg h]
theorem PI(w:World)(bY off n:Nat)(d:Array Int)(os:Array Obj):grow (putRow (Value.int .i64) (Go.Sort.ahead w n) bY off d) os=sortWorldK rO 1 w bY off n d os:=by rw[RX];rfl
theorem PH(w:World)(bY off n:Nat)(d:Array Int):putRow (Value.int .i64) (Go.Sort.ahead w n) bY off d=sortWorldK rO 1 w bY off n d #[]:=by rw[RX];unfold sortWorldK;rw[grow_empty]
def J0(x y:Int):Bool:=decide (x<=y)
def rg(d:Array Int):Array Int:=(d.toList.mergeSort J0).toArray
theorem H_(d:Array Int):(rg d).size=d.size:=by simp[rg]
theorem Mn(args:Array Value)(w:World):(callFunc 45 args).run Tryd.prog w=.ok (.enter 45 args) w:=enters_of Tryd.func45 (by kernel_rfl) rfl args w
theorem Mm(args:Array Value)(w:World):(callFunc 46 args).run Tryd.prog w=.ok (.enter 46 args) w:=enters_of Tryd.func46 (by kernel_rfl) rfl args w
theorem KH(x:Int):∀v∈rO x,ed v=true:=by intro v hv;obtain rfl:=List.mem_singleton.1 hv;rfl
theorem Ie(bY off cap:Nat)(d:Array Int)(w:World)(hH:HoldsK rO 1 w bY off d)(hb:bY<w.heap.size)(hd:d.size<4611686018427387904):
  Calls Tryd.prog 45 #[.slice (some ⟨bY,off,none⟩) d.size cap] w fun e w'=>e=.returned (.tuple #[])/\∃n os,w'=sortWorldK rO 1 w bY off n (rg d) os:=by
 have h:Calls Tryd.prog 45 _ w _:=Any.slices_Sort_int Kl bY off cap d.toList w (by simpa using LP hH) hb (by simpa using hd);rw[Array.length_toList]at h;refine h.mono ?_;rintro e w' ⟨rfl,n,os,rfl⟩;exact⟨rfl,n,os,PI w bY off n _ os⟩
theorem Ic(p:Option Addr)(cap:Nat)(w:World):Calls Tryd.prog 45 #[.slice p 0 cap] w fun e w'=>e=.returned (.tuple #[])/\w'=w:=by have:=@Any.slices_Sort_int_none _ _ Kl p cap w;exact this
theorem Kk:cY Tryd.prog 45 (x9 (.i .i64) rg):=Kj fun s hs=>E6 (t:=.i .i64) (vals:=rO) (fun _=>rfl) KH (by decide) rg H_ Mn Ie Ic s hs
theorem MB(bY off cap:Nat)(l:List Int)(w:World)(hH:HoldsK rO 1 w bY off l.toArray)(_:bY<w.heap.size)(hd:l.length<4611686018427387904)(hc:l.length<=cap):
  Calls Tryd.prog 46 #[.slice (some ⟨bY,off,none⟩) l.length cap] w fun e w'=>e=.returned (.slice (some ⟨bY,off,none⟩) (Lib.compact l).length cap)/\∃n os rest,(Lib.compact l++rest).length=l.length/\w'=sortWorldK rO 1 w bY off n (Lib.compact l++rest).toArray os:=by
 have h:Calls Tryd.prog 46 _ w _:=Any.slices_Compact_int Ps bY off cap l w (LP hH) (by omega) hc;refine h.mono ?_;rintro e w' ⟨rfl,q,rfl⟩;refine⟨rfl,q, #[],List.replicate (l.length-(Lib.compact l).length) 0,?_,PH w bY off q _⟩;have:=Lib.compact_length_le l;rw[List.length_append,List.length_replicate];omega
theorem MA(p:Option Addr)(cap:Nat)(w:World):Calls Tryd.prog 46 #[.slice p 0 cap] w fun e w'=>e=.returned (.slice p 0 cap)/\w'=w:=by have:=@Any.slices_Compact_int_empty _ _ Ps p cap w;exact this
theorem OF:cY Tryd.prog 46 (Cf (.i .i64) Lib.compact):=QV fun s hs=>My (t:=.i .i64) (vals:=rO) (fun _=>rfl) KH (by decide) Lib.compact Mm MB MA s hs
def rW(l:List Int):List Int:=Lib.compact l
theorem MI:cY Tryd.prog 46 (Cf (.i .i64) rW):=OF
end Go.Proofs.YthcplpfiidlinaaDoor.J
