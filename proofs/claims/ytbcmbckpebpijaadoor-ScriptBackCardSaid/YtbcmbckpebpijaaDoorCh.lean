/- The library's functions on strings and numbers, as laws of the abstract machine. Conditions: as stated. -/
import Derived.Test.YtbcmbckpebpijaaDoorCk
import Derived.Test.YtbcmbckpebpijaaDoorKm
open ByteArray renaming empty->fo
open List renaming getElem?_map->aB,length_map->aK,mem_cons_of_mem->av,mem_cons_self->bG
open Nat renaming le_refl->ak
open Option.some renaming inj->aa
open Go.Ev Go
open Go.RowKit Go.Shelf
noncomputable section
namespace Go.Proofs.YtbcmbckpebpijaaDoor.C
theorem yI{S:Nat->Prop}{w:World}:∀{xs vs:List Value}{fp:List Nat},(∀x∈xs,ck x=true/\yT x=false)->Ec S w (xs.map fun x=>.d (.lit x)) vs fp->vs=xs/\fp=[]
 |[],[],_,_,h=>⟨rfl,h⟩
 |[],_::_,_,_,h=>h.elim
 |_::_,[],_,_,h=>h.elim
 |x::xs,v::vs,fp,hx,⟨f1,f2,e,⟨h1,e1⟩,h2⟩=>by obtain⟨rfl,rfl⟩:=yI (fun y hy=>hx y (av _ hy)) h2;have hp:=hx x (bG ..);refine⟨?_,by rw[e,e1];rfl⟩;have hl:=dO.lit (val:=v) (v:=x) (S:=S) (w:=w) (Kn:=fun _=>False) (φ:=fun _=>default) (.c (.d h1)) hp.2;rw[hl.1]
theorem yH:∀(xs vs:List Value),jA (xs.map fun x=>.d (.lit x)) vs=[]
 |[],_=>by cases‹List Value›<;>rfl
 |_::_,[]=>rfl
 |_::xs,_::vs=>yH xs vs
theorem tH{f:Nat}(hen:∀(args:Array Value)(w:World),(callFunc f args).run Tryd.prog w=.ok (.enter f args) w){xs:List Value}(hx:∀x∈xs,ck x=true/\yT x=false){rs:List R}
  (h:∀(S:Nat->Prop)(W:World),ph S W->Calls Tryd.prog f xs.toArray W fun e W'=>∃(gO:List Value)(S':Nat->Prop),e=.returned (pI gO)/\Below W.heap.size W W'/\(∀b,S b->S' b)/\(∀b,S' b->S b\/(W.heap.size<=b/\b<W'.heap.size))/\xh S' W' rs gO []):
  Go.Ev.rh Tryd.prog f (xs.map fun x=>.d (.lit x)) rs []:=by
 intro S W vs fp hS hra hnd hfp hG;obtain⟨rfl,rfl⟩:=yI hx hra;refine .inl ⟨f,_,hen _ _,(h S W hG).mono fun e W'⟨gO,S',he,hB,h1,h2,h3⟩=>⟨_,he,?_⟩⟩;rw[yH];refine⟨S',gO,[],[],rfl,⟨h1,fun b hb=>hB.block b (hS b hb)⟩,fun b hb=>(h2 b hb).imp id fun h=>.inr h.1,fun b hb=>(h2 b hb).elim (fun h=>Nat.lt_of_lt_of_le (hS b h) hB.size) (·.2),h3,rfl,List.nodup_nil,fun b hb=>absurd hb (by simp),?_⟩;exact⟨fun b hb=>hb.1,fun b hb=>hB.block b hb.1,hB.size,fun a ha=>hB.frozen ha,fun b aH h=>⟨aH,by obtain⟨t,h⟩:=h;exact⟨t,(hB.block b (Array.getElem?_eq_some_iff.1 h).1).trans h⟩,rfl⟩,⟨hB.os,hB.output,hB.tape,ak _⟩⟩
theorem EO{S:Nat->Prop}{w:World}:∀{xs:List Value},(∀x∈xs,ck x=true)->xh S w (xs.map fun x=>.c (.d (.lit x))) xs []
 |[],_=>rfl
 |x::_,hx=>⟨[],[],rfl,.d (.lit (hx x (bG ..))),EO fun y hy=>hx y (av _ hy)⟩
theorem qU{f:Nat}(hen:∀(args:Array Value)(w:World),(callFunc f args).run Tryd.prog w=.ok (.enter f args) w){xs ys:List Value}(hx:∀x∈xs,ck x=true/\yT x=false)(hy:∀y∈ys,ck y=true)
  (h:∀(S:Nat->Prop)(W:World),ph S W->Calls Tryd.prog f xs.toArray W fun e W'=>e=.returned (pI ys)/\Below W.heap.size W W'):
  Go.Ev.rh Tryd.prog f (xs.map fun x=>.d (.lit x)) (ys.map fun x=>.c (.d (.lit x))) []:=
 tH hen hx fun S W hG=>(h S W hG).mono fun e W'⟨he,hB⟩=>⟨ys,S,he,hB,fun _ h=>h,fun _ h=>.inl h,EO hy⟩
theorem Hz{S:Nat->Prop}{W:World}(hG:ph S W):Lib.TabIs Tryd.prog W "internal/strconv.uint64pow10" .u64 Lib.pow10Tab:=by
 obtain⟨_,t,fz,h⟩:=(hG 1).2 _ rfl;have hn:Tryd.prog.globalNamed "internal/strconv.uint64pow10" =some 1:=by kernel_rfl
 unfold Lib.TabIs World.var?;rw[hn];simp only[Option.bind_some,h];rfl
theorem y_{S:Nat->Prop}{W:World}(hG:ph S W){g:Nat}(hg:Lo g=some (.pt [.lit (.complex .f32 0 1)])):∃ev,W.cell? ⟨g,0,none⟩=some ev/\(ev=.nilIface\/∃te pe,ev=.iface te pe):=by
 have h:=(hG g).1 _ hg;cases h with
 |pt f hb hc hr=>
  refine⟨f 0,hc 0 _ rfl,?_⟩;have h1:=hr 0 _ rfl;generalize f 0=v at h1;cases h1 with
  |lit h=>simp[ck]at h
  |jk h=>cases v with|nilIface=>exact .inl rfl|iface te pe=>exact .inr ⟨te,pe,rfl⟩|_=>cases h
theorem ID{w:World}{k:Nat}{os:Array Obj}:Below w.heap.size w (Sort.grow (w.drewN k) os):=⟨rfl,rfl,rfl,by simp[Sort.grow],fun i hi=>by simp only[Sort.grow,World.heap_drewN];rw[Array.getElem?_append_left hi]⟩
theorem IE{w:World}{k:Nat}:Below w.heap.size w (w.drewN k):=⟨rfl,rfl,rfl,ak _,fun _ _=>rfl⟩
def vg(n:Int):Option ByteArray:=if-9223372036854775808<=n/\n<=9223372036854775807 then some ⟨(Lib.itoa n).toArray⟩else none
def Cc(ro:Bool):mQ:=⟨[(false,.x (.i .i64))],[([.x .s],[])],ro,[],fun p=>match p with|n=>vg n⟩
theorem Ic{ro:Bool}:dJ Tryd.prog 23 (Cc ro):=by
 refine⟨by cases ro<;>rfl,fun(n:Int)z hz=>?_⟩
 replace hz:vg n=some z:=hz
 unfold vg at hz;split at hz
 case isFalse=>cases hz
 rename_i h;obtain rfl:=aa hz;exact qU (xs:=[.int .i64 n]) (ys:=[.string ⟨(Lib.itoa n).toArray⟩]) (enters_of Tryd.func23 (by kernel_rfl) rfl) (by simp[ck,yT]) (by simp[ck]) fun S W hG=>(Any.strconv_Itoa LQ n h.1 h.2 W (Hz hG)).mono fun e W'⟨he,k,os,hW⟩=>⟨he,hW▸ID⟩
theorem E_{t:ByteArray}{c:UInt8}(h:t.data.toList=[c]):t=⟨#[c]⟩:=by obtain⟨⟨l⟩⟩:=t;have:l=[c]:=h;rw[this]
def jE(s t:ByteArray):Option Bool:=match t.data.toList with|[c]=>some (decide (0<=Lib.indexByte s.data.toList c))|_=>none
def rz(ro:Bool):mQ:=⟨[(false,.x .s),(false,.x .s)],[([.x .b],[])],ro,[],fun p=>match p with|(s,t)=>jE s t⟩
theorem zm{ro:Bool}:dJ Tryd.prog 20 (rz ro):=by
 refine⟨by cases ro<;>rfl,fun p z hz=>?_⟩;obtain⟨s,t⟩:=p
 replace hz:jE s t=some z:=hz
 unfold jE at hz;split at hz
 case h_2=>cases hz
 rename_i c hc;obtain rfl:=E_ hc;obtain rfl:=aa hz;exact qU (xs:=[.string s,.string ⟨#[c]⟩]) (ys:=[.bool (decide (0<=Lib.indexByte s.data.toList c))]) (enters_of Tryd.func20 (by kernel_rfl) rfl) (by simp[ck,yT]) (by simp[ck]) fun S W hG=>(Any.strings_Contains_one DS s c W).mono fun e W'⟨he,hW⟩=>⟨he,hW▸Below.refl _ _⟩
def Gl(s t:ByteArray):Option (ByteArray×ByteArray×Bool):=match t.data.toList with|[c]=>if s.size<4294967281 then some (qm s c)else none|_=>none
def Gk(ro:Bool):mQ:=⟨[(false,.x .s),(false,.x .s)],[([.x .s,.x .s,.x .b],[])],ro,[],fun p=>match p with|(s,t)=>Gl s t⟩
theorem KL{ro:Bool}:dJ Tryd.prog 25 (Gk ro):=by
 refine⟨by cases ro<;>rfl,fun p z hz=>?_⟩;obtain⟨s,t⟩:=p
 replace hz:Gl s t=some z:=hz
 unfold Gl at hz;split at hz
 case h_2=>cases hz
 rename_i c hc;obtain rfl:=E_ hc;split at hz
 case isFalse=>cases hz
 rename_i hs;obtain rfl:=aa hz;exact qU (xs:=[.string s,.string ⟨#[c]⟩]) (ys:=[.string (qm s c).1,.string (qm s c).2.1,.bool (qm s c).2.2]) (enters_of Tryd.func25 (by kernel_rfl) rfl) (by simp[ck,yT]) (by simp[ck]) fun S W hG=>(wS s c W hs).mono fun e W'⟨he,n,hW⟩=>⟨he,hW▸IE⟩
def nF(s:ByteArray):Int:=match Lib.atoiAll s.data.toList with|.ok v=>v|.range=>Lib.atoiSat s.data.toList|_=>0
def vL(s:ByteArray):Option Int:=if s.size<=281474976710656 then some (nF s)else none
def Cr(ro:Bool):mQ:=⟨[(false,.x .s)],[([.x (.i .i64),.nl 5],[])],ro,[],fun p=>match p with|s=>vL s⟩
theorem IK:dJ Tryd.prog 36 (Cr false):=by
 refine⟨rfl,fun(s:ByteArray)z hz=>?_⟩
 replace hz:vL s=some z:=hz
 unfold vL at hz;split at hz
 case isFalse=>cases hz
 rename_i hs;obtain rfl:=aa hz
 have key:∀(S:Nat->Prop)(W:World),ph S W->Calls Tryd.prog 36 #[.string s] W fun e W'=>∃ev,AU ev=true/\e=.returned (.tuple #[.int .i64 (nF s),ev])/\Below W.heap.size W W':=fun S W hG=>by
  unfold nF;cases h:Lib.atoiAll s.data.toList with
  |ok v=>
   refine(Any.strconv_Atoi_ok GF s (by omega) v h W).mono fun e W'⟨he,hW⟩=>⟨_,rfl,he,?_⟩;rcases hW with rfl|⟨t,rfl⟩
   .exact Below.refl _ _
   .exact Lib.bytesWorld_below _ _ _
  |range=>obtain⟨ev,h1,h2⟩:=y_ hG (g:=3) rfl;exact(Any.strconv_Atoi_range GF s hs h ev W h1 h2).mono fun e W'⟨N,he,_,_,hW⟩=>⟨_,rfl,he,hW⟩
  |_=>obtain⟨ev,h1,h2⟩:=y_ hG (g:=2) rfl;exact(Any.strconv_Atoi_syntax GF s hs h ev W h1 h2).mono fun e W'⟨N,he,_,_,hW⟩=>⟨_,rfl,he,hW⟩
 exact tH (xs:=[.string s]) (rs:=[.c (.d (.lit (.int .i64 (nF s)))),.c (.d (.lit (.complex .f32 0 1)))]) (enters_of Tryd.func36 (by kernel_rfl) rfl) (by simp[ck,yT]) fun S W hG=>(key S W hG).mono fun e W'⟨ev,hi,he,hB⟩=>⟨[.int .i64 (nF s),ev],S,he,hB,fun _ h=>h,fun _ h=>.inl h,[],[],rfl,.d (.lit rfl),[],[],rfl,.d (.jk hi),rfl⟩
def eO(s:ByteArray)(c:UInt8):List ByteArray:=Lib.splitB ⟨#[c]⟩ 0 (s.data.toList.count c) s
def sE(s t:ByteArray):Option (Sl ByteArray):=match t.data.toList with|[c]=>if s.size<4294967281 then some (.mk (eO s c))else none|_=>none
def xG(ro:Bool):mQ:=⟨[(false,.x .s),(false,.x .s)],[([.x (.sl .s)],[])],ro,[],fun p=>match p with|(s,t)=>sE s t⟩
theorem Ey:dJ Tryd.prog 35 (xG false):=by
 refine⟨rfl,fun p z hz=>?_⟩;obtain⟨s,t⟩:=p
 replace hz:sE s t=some z:=hz
 unfold sE at hz;split at hz
 case h_2=>cases hz
 rename_i c hc;obtain rfl:=E_ hc;split at hz
 case isFalse=>cases hz
 rename_i hs;obtain rfl:=aa hz;have hlen:(eO s c).length=s.data.toList.count c+1:=by have hcb:Lib.countB s ⟨#[c]⟩=s.data.toList.count c:=Lib.count_one _ _;have:=Lib.splitB_all ⟨#[c]⟩ (ak 1) 0 _ s hcb;exact this
 refine tH (xs:=[.string s,.string ⟨#[c]⟩]) (rs:=[.c (.d (.sl 1 ((eO s c).map (aN .s))))]) (enters_of Tryd.func35 (by kernel_rfl) rfl) (by simp[ck,yT]) fun S W hG=>(CL s c W hs).mono fun e W'⟨he,hW⟩=>⟨[_],fun b=>S b\/b=W.heap.size,he,hW▸(Below.refl _ W).alloc (ak _) _,fun _ h=>.inl h,fun b h=>h.imp id fun e=>?_,[],[],rfl,.d ?_,rfl⟩
 .rw [hW,e];simp
 .have hL:(Lib.splitB ⟨#[c]⟩ 0 (s.data.toList.count c) s)=eO s c:=rfl;rw[hL]at hW;rw[<-hlen];generalize eO s c=L at hW;have hblk:W'.heap[W.heap.size]?=some (.cells (L.map Value.string).toArray 9 (0,0)):=by rw[hW];show(W.heap.push _)[W.heap.size]?=_;rw[Array.getElem?_push_size]
  have hgoal:=RD.sl (S:=fun b=>S b\/b=W.heap.size) (w:=W') (sz:=1) (rows:=L.map (aN .s)) (b:=W.heap.size) (off:=0) (cap:=L.length) (fun i _=>.string (L.getD i fo)) (.inr rfl) (by omega) (by rw[aK];omega)
   (fun i r hr=>by rw[aB]at hr;cases hi:L[i]?with|none=>rw[hi]at hr;cases hr|some a=>rw[hi]at hr;obtain rfl:=aa hr;rfl)
   (fun i r hr j x hx=>by
    rw[aB]at hr;cases hi:L[i]?with
    |none=>rw[hi]at hr;cases hr
    |some a=>
     rw[hi]at hr;obtain rfl:=aa hr;cases j with
     |zero=>simp only[World.cell?,hblk,Nat.zero_add,Nat.mul_one,Nat.add_zero];simp[hi]
     |succ j=>simp[aN]at hx)
   (fun i r hr j x hx=>by
    rw[aB]at hr;cases hi:L[i]?with
    |none=>rw[hi]at hr;cases hr
    |some a=>
     rw[hi]at hr;obtain rfl:=aa hr;cases j with
     |zero=>
      obtain rfl:D.lit (.string a)=x:=by simpa[aN]using hx
      have:L.getD i fo=a:=by rw[List.getD_eq_getElem?_getD,hi];rfl
      rw[this];exact .lit rfl
     |succ j=>simp[aN]at hx)
  rw[aK]at hgoal;exact hgoal
end Go.Proofs.YtbcmbckpebpijaaDoor.C
