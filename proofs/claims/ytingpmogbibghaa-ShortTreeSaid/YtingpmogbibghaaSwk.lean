/- weigh.Walk: a loop over slices.Backward, by its text. Conditions: as stated. -/
import Derived.Test.YtingpmogbibghaaSbk
open Array renaming getElem?_eq_none->gS,getElem?_eq_some_iff->bm
open Nat renaming le_refl->am,le_trans->bt,lt_or_ge->fE
open Go Go.RowKit Go.Shelf Go.Ev
namespace Go.Proofs.Ytingpmogbibghaa.S
theorem Zd{P:Program}{w:World}{a:Addr}{m:Mode}(k:FloatKind)(n:Nat):(store a (.float k n) m).run P w=stored P w a (.float k n) m:=run_store P w a _ m rfl
attribute [local go_sem] Oper.semAt_some Zd
def Zi(fp:Nat->Nat->Option Nat):Prop:=∀x y z W,fp x y=some z->¬yl .f64 x->¬yl .f64 y->¬yl .f64 z->
 Calls Try.prog 113 #[.float .f64 x,.float .f64 y] W fun e W'=>e=.returned (.float .f64 z)/\Below W.heap.size W W'/\W.drawn<=W'.drawn
def ZI(n₀:Nat)(W:World)(a:Option Addr)(ws:List Nat):Prop:=∀j:Nat,j<ws.length->∃b off,a=some ⟨b,off,none⟩/\b<n₀/\W.cell? ⟨b,off+j,none⟩=some (.float .f64 (ws[j]?.getD 0))
def DC(fp:Nat->Nat->Option Nat)(ws:List Nat)(s:Nat)(l:Int):Nat:=(fp (ws[l.toNat]?.getD 0) s).getD 0
structure ZV(fp:Nat->Nat->Option Nat)(ws:List Nat)(Gd:Nat->Prop):Prop where
 zero:Gd 0
 ZU:∀s,Gd s->¬yl .f64 s
 ZJ:∀j:Nat,j<ws.length->¬yl .f64 (ws[j]?.getD 0)
 nW:∀(s j:Nat),Gd s->j<ws.length->∃z,fp (ws[j]?.getD 0) s=some z/\Gd z
def ZC{α:Type}(B:Nat)(Kp:World->World->Prop)(I:List α->World->Prop)(xs:List α)(W:World):Exit->Act->World->Prop:=fun e _ W'=>e=.normal/\KeepsFrom B W W'/\Kp W W'/\I xs W'
theorem Y8{α:Type}{g:Operand}{ps:Array Tmp}{assign body:Code}{Q:Exit->Act->World->Prop}{a:Act}{w:World}{gf:Nat}{lb:Array Value}{P:Program}
  (hg:a.eval g=.func (.func gf) #[] lb) (eg:∀args w,(callFunc gf args).run P w=.ok (.enter gf args) w) {encs:α->Array Value} {Kp:World->World->Prop} {N:Nat} {L:List α}
  (hseq:∀(l:Nat)(J:List α->World->Prop)(W:World),Below w.heap.size w W->
   (∀pre x W1,J pre W1->pre.length<N->YieldAt Fence.wide 2 P l (encs x) W1 fun e W'=>(e=.returned (.bool true)/\J (pre++[x]) W'/\Kp W1 W')\/(e=.returned (.bool false)/\False))->
   J [] W->CallsIn Fence.wide 3 P gf (#[.func (.yield l) #[] #[]]++lb) W fun e W'=>(∃v,e=.returned v)/\J L W')
  (hKt:∀{A B C:World},Kp A B->Kp B C->Kp A C) (hKb:∀(W:World)(l:Nat)(o o':Obj),w.heap.size<=l->W.heap[l]?=some o->o.isCells=false->o.isWalk=false->Kp W (W.putObj l o')) (hps:∀x,(encs x).size=ps.size)
  (I:List α->World->Prop) (hIa:∀s W o,I s W->I s (W.alloc o)) (hIp:∀s W l o o',w.heap.size<=l->W.heap[l]?=some o->o.isCells=false->I s W->I s (W.putObj l o')) (h0:I [] w) (a₁:α->Act)
  (hassign:∀(l:Nat)(x:α)(W:World)(K:Act->World->Prop),K (a₁ x) W->
   assign.wpIn (Fence.wide.inRound l) 2 P (Exit.then K (fun _ _ _=>False)) {tmps:=(ps.zip (encs x)).foldl (fun t(p,v)=>t.setIfInBounds p v) a.tmps,defers:=[]} W)
  (hbody:∀(l:Nat)(pre:List α)(x:α)(W:World),I pre W->pre.length<N->
   body.wpIn (Fence.wide.inRound l) 2 P (ZC w.heap.size Kp I (pre++[x]) W) (a₁ x) W)
  (hdone:∀(D:Nat)(W:World),w.heap.size<=D->I L W->W.heap[D]?=some (.deferred (some []))->Q .normal {a with defers:={target:=.collected D,args:= #[]}::a.defers} W):
  (Code.rangeFunc g ps assign body).wpIn Fence.wide 4 P Q a w:=by
 refine wpIn_rangeFunc fun fn hfn=>?_
 -- the record of the loop, in one of its states
 let rc:LoopState->Obj:=fun st=>.loop {state:=st,pending:=none,fn,tmps:=a.tmps,params:=ps,assign,body,defers:=w.heap.size};let W1:World:=(w.alloc (.deferred (some []))).alloc (rc .ready);have hb1:Below w.heap.size w W1:=((Below.refl _ w).alloc (am _) _).alloc (by simp) _;have hL:W1.heap[w.heap.size+1]?=some (rc .ready):=by have:=World.alloc_heap_new (w.alloc (.deferred (some []))) (rc .ready);rwa[World.size_alloc]at this
 have hD:W1.heap[w.heap.size]?=some (.deferred (some [])):=(Below.heap_alloc _ _ _ (by simp)).trans (World.alloc_heap_new w _)
 refine⟨w.heap.size+1,[{target:=.collected w.heap.size,args:= #[]}],W1,{target:=.fn (.func gf) lb,args:= #[.func (.yield (w.heap.size+1)) #[] #[]]},W1,gf, #[.func (.yield (w.heap.size+1)) #[] #[]]++lb,W1,
  run_enterLoop_outer _ _ _ _ _,?_,fun f' _=>trivial,?_,fun _=>by omega,?_⟩
 .simp only[resolve,hg];simp[go_sem]
 .simp [invoke,go_sem,eg]
 refine(hseq (w.heap.size+1) (fun pre W=>I pre W/\W.heap[w.heap.size+1]?=some (rc .ready)/\W.heap[w.heap.size]?=some (.deferred (some []))) W1 hb1 ?_ ⟨hIa _ _ _ (hIa _ _ _ h0),hL,hD⟩).mono ?_
 .rintro pre x W ⟨hi,hl,hk⟩ hlen;have hlt:w.heap.size+1<W.heap.size:=(bm.1 hl).1;refine⟨fn,_,assign,body,run_yield (P:=P) (args:=encs x) hl (hps x),roundIn_of_wpIn hfn (hassign _ x W _ ⟨_,run_beginRound hl rfl,?_⟩)⟩;have hl2:(W.putObj (w.heap.size+1) (rc .busy)).heap[w.heap.size+1]?=some (rc .busy):=World.putObj_heap_same hlt;have hk2:(W.putObj (w.heap.size+1) (rc .busy)).heap[w.heap.size]?=some (.deferred (some [])):=(World.putObj_heap_other (by omega)).trans hk;have hi2:I pre (W.putObj (w.heap.size+1) (rc .busy)):=hIp _ _ _ _ _ (by omega) hl rfl hi;have hq2:Kp W (W.putObj (w.heap.size+1) (rc .busy)):=hKb _ _ _ _ (by omega) hl rfl rfl;refine wpIn_mono (hbody _ pre x _ hi2 hlen) ?_;rintro e a3 W3 ⟨rfl,hkf,hkp,hi3⟩;have hl3:=hkf.same _ _ (by omega) hl2 rfl;have hk3:=hkf.same _ _ (by omega) hk2 rfl;exact⟨_,_,run_endRound (P:=P) none hl3,.inl ⟨rfl,⟨hIp _ _ _ _ _ (by omega) hl3 rfl hi3,World.putObj_heap_same (bm.1 hl3).1,(World.putObj_heap_other (by omega)).trans hk3⟩,hKt (hKt hq2 hkp) (hKb _ _ _ _ (by omega) hl3 rfl rfl)⟩⟩
 .rintro e W2 ⟨⟨v,rfl⟩,hi,hl,hk⟩;exact⟨none,_,run_endLoop (P:=P) hl (by simp),hdone _ _ (am _) (hIp _ _ _ _ _ (by omega) hl rfl hi) ((World.putObj_heap_other (by omega)).trans hk)⟩
theorem Zm{B:Nat}{W w':World}(h:Below W.heap.size W w'):KeepsFrom B W w':=⟨h.size,fun k o _ hk _=>(h.block k (bm.1 hk).1).trans hk⟩
set_option maxRecDepth 100000 in
set_option maxHeartbeats 4000000 in
theorem Zz(fp:Nat->Nat->Option Nat)(hfp:Zi fp)(a a':Option Addr)(cap len' cap':Nat)(ws:List Nat)(zs:List Int)(w:World)(hreach:zs.length*8<=140737488351232)
  (hw:ZI w.heap.size w a ws) (hz:Y7 w.heap.size w (.slice a' len' cap') zs) (Gd:Nat->Prop) (ht:ZV fp ws Gd) (hr:∀j,j<zs.length->∃m:Nat,zs[j]?.getD 0=(m:Int)/\m<ws.length):
  CallsIn Fence.wide 4 Try.prog 73 #[.slice a ws.length cap,.slice a' len' cap'] w fun e W'=>e=.returned (.float .f64 ((dn zs zs.length).foldl (fun s i=>DC fp ws s (zs[i.val]?.getD 0)) 0))/\Below w.heap.size w W'/\w.drawn<=W'.drawn:=by
 refine callsIn_of_wp_marks Try.func73 rfl trivial ?_ rfl;simp only[Try.ntmps73,List.size_toArray,List.length_cons,List.length_nil,Nat.reduceAdd,Nat.reduceSub,Array.replicate_succ,Array.replicate_zero,List.push_toArray,List.append_toArray,List.nil_append,List.cons_append];have hB2:=Boxed.new ((w.alloc (.cells #[.slice a ws.length cap] 37)).alloc (.cells #[.float .f64 0] 23)) 23 (.float .f64 0);rw[World.size_alloc,World.size_alloc]at hB2;have hB2c:=hB2.cell;have hB2f:=hB2.frozen
 gi_wp2_with (refine⟨trivial,?_⟩;gi_at_call 122;refine(ZG _ _ _ _).mono ?_;rintro e w' ⟨rfl,rfl⟩)
 have hB0:=Boxed.new w 37 (.slice a ws.length cap);have hB1:=Boxed.new (w.alloc (.cells #[.slice a ws.length cap] 37)) 23 (.float .f64 0);have hB3:=Boxed.new (((w.alloc (.cells #[.slice a ws.length cap] 37)).alloc (.cells #[.float .f64 0] 23)).alloc (.cells #[.float .f64 0] 23)) 82 (.slice a' len' cap');rw[World.size_alloc]at hB1;rw[World.size_alloc,World.size_alloc,World.size_alloc]at hB3;have hBl:Below w.heap.size w ((((w.alloc (.cells #[.slice a ws.length cap] 37)).alloc (.cells #[.float .f64 0] 23)).alloc (.cells #[.float .f64 0] 23)).alloc (.cells #[.slice a' len' cap'] 82)):=((((Below.refl _ w).alloc (am _) _).alloc (by simp) _).alloc (by simp;omega) _).alloc (by simp;omega) _;have hkp:∀{A B:World}{p:Addr}{v:Value},(A.cell? p=some v/\A.frozen? p=false)->B.heap[p.block]?=A.heap[p.block]?->(B.cell? p=some v/\B.frozen? p=false):=fun h e=>⟨(World.cell?_of_block e).trans h.1,(World.frozen?_of_block e).trans h.2⟩
 have hlt':∀{A:World}{p:Addr}{v:Value},A.cell? p=some v->p.block<A.heap.size:=fun{A p v}hc=>by
  unfold World.cell? at hc;rcases fE p.block A.heap.size with h|h
  .exact h
  .simp [gS h]at hc
 refine Y8 (gf:=142) (lb:= #[.pointer (some ⟨w.heap.size+1+1+1,0,none⟩)]) rfl (enters_of Try.func142 (by kernel_rfl) rfl) (encs:=fun x:Fin zs.length=> #[.int .i64 ((x.val:Nat):Int),.int .i64 (zs[x.val]?.getD 0)])
  (fun l J W hW hY h0=>Zw (w.heap.size+1+1+1) w.heap.size _ zs hreach _ (by simp) (by simp;omega) hB3.cell (hz.below hBl) l J W hW hY h0) Kb.trans (ZW (by simp;omega) (by simp)) (fun _=>rfl)
  (fun pre W=>((W.cell? ⟨w.heap.size+1+1,0,none⟩=some (.float .f64 (pre.foldl (fun s i=>DC fp ws s (zs[i.val]?.getD 0)) 0))/\W.frozen? ⟨w.heap.size+1+1,0,none⟩=false)/\
   (W.cell? ⟨w.heap.size+1,0,none⟩=some (.float .f64 0)/\W.frozen? ⟨w.heap.size+1,0,none⟩=false)/\W.cell? ⟨w.heap.size,0,none⟩=some (.slice a ws.length cap)/\W.cell? ⟨w.heap.size+1+1+1,0,none⟩=some (.slice a' len' cap'))/\Below w.heap.size w W/\w.drawn<=W.drawn)
  (fun s W o⟨⟨h1,h2,h3,h4⟩,h5,h6⟩=>⟨⟨hkp h1 (Below.heap_alloc _ _ _ (hlt' h1.1)),hkp h2 (Below.heap_alloc _ _ _ (hlt' h2.1)),(World.cell?_of_block (Below.heap_alloc _ _ _ (hlt' h3))).trans h3,(World.cell?_of_block (Below.heap_alloc _ _ _ (hlt' h4))).trans h4⟩,h5.alloc h5.size _,h6⟩)
  (fun s W l o o' hl ho hc⟨⟨h1,h2,h3,h4⟩,h5,h6⟩=>by
   have hl:w.heap.size+1+1+1+1<=l:=by simpa using hl
   have hne:∀k,k<l->(W.putObj l o').heap[k]?=W.heap[k]?:=fun k hk=>World.putObj_heap_other (by omega)
   exact⟨⟨hkp h1 (hne _ (by simp;omega)),hkp h2 (hne _ (by simp;omega)),(World.cell?_of_block (hne _ (by simp;omega))).trans h3,(World.cell?_of_block (hne _ (by simp;omega))).trans h4⟩,
    h5.grown (grownBy_putObj' W l o') h5.size (fun k e=>by cases e;omega),h6⟩)
  ⟨⟨⟨(hB2.alloc _).cell,(hB2.alloc _).frozen⟩,⟨((hB1.alloc _).alloc _).cell,((hB1.alloc _).alloc _).frozen⟩,(((hB0.alloc _).alloc _).alloc _).cell,hB3.cell⟩,hBl,am _⟩
  (fun x=>{tmps:= #[.slice a ws.length cap,.slice a' len' cap',.pointer (some ⟨w.heap.size,0,none⟩),undef,.pointer (some ⟨w.heap.size+1,0,none⟩),.pointer (some ⟨w.heap.size+1+1,0,none⟩),undef,.int .i64 (zs[x.val]?.getD 0),.slice a' len' cap',
    .func (.func 142) #[] #[.pointer (some ⟨w.heap.size+1+1+1,0,none⟩)],.int .i64 ((x.val:Nat):Int),.int .i64 (zs[x.val]?.getD 0),undef,undef,undef,undef,undef,undef,undef,undef,undef,undef,undef,undef,undef,undef,undef,undef],defers:=[]}) ?assign ?body ?done
 case assign=>
  intro l x W K hK;dsimp only at hK|-;generalize zs[x.val]?.getD 0=v at hK|-
  gi_wp2
  exact hK
 case body=>
  rintro l pre x W ⟨⟨⟨hc,hf⟩,⟨hc1,hf1⟩,hc0,hc3⟩,hB,hdr⟩ _;have hmx:Try.prog.follows .mixedOrders=true:=by kernel_rfl
  obtain⟨m,hm,hlt⟩:=hr x.val x.isLt;obtain⟨b,off,rfl,hb,hcw⟩:=hw m hlt;have hcw2:=(hB.cell (p:=⟨b,off+m,none⟩) hb).trans hcw;have hgd:∀(q:List (Fin zs.length))(s:Nat),Gd s->Gd (q.foldl (fun s i=>DC fp ws s (zs[i.val]?.getD 0)) s):=by intro q;induction q with|nil=>exact fun s h=>h|cons i q ih=>intro s h;obtain⟨m',hm',hlt'⟩:=hr i.val i.isLt;obtain⟨z,h1,h2⟩:=ht.nW s m' h hlt';refine ih _ ?_;show Gd (DC fp ws s (zs[i.val]?.getD 0));unfold DC;rw[hm',show((m':Nat):Int).toNat=m' from rfl,h1];exact h2
  have hs:=hgd pre 0 ht.zero;obtain⟨z,hz1,hz2⟩:=ht.nW _ m hs hlt;have hfl:(pre++[x]).foldl (fun s i=>DC fp ws s (zs[i.val]?.getD 0)) 0=z:=by rw[List.foldl_append];show DC fp ws (pre.foldl (fun s i=>DC fp ws s (zs[i.val]?.getD 0)) 0) (zs[x.val]?.getD 0)=z;rw[hm];unfold DC at hz1|-;rw[show((m:Nat):Int).toNat=m from rfl,hz1];rfl
  generalize pre.foldl (fun s i=>DC fp ws s (zs[i.val]?.getD 0)) 0=s at hs hc hz1;have hcall:=fun W=>hfp _ _ z W hz1 (ht.ZJ m hlt) (ht.ZU _ hs) (ht.ZU _ hz2);generalize ws[m]?.getD 0=g at hcw2 hcall;generalize zs[x.val]?.getD 0=v at hm|-;subst hm;have hl1:¬((ws.length:Int)<=(m:Int)):=by omega
  have hs2:w.heap.size+1+1<W.heap.size:=by
   unfold World.cell? at hc;rcases fE (w.heap.size+1+1) W.heap.size with h|h
   .exact h
   .simp [gS h]at hc
  have hs3:w.heap.size+1+1+1<W.heap.size:=by
   unfold World.cell? at hc3;rcases fE (w.heap.size+1+1+1) W.heap.size with h|h
   .exact h
   .simp [gS h]at hc3
  have hd:1<=4-1-1:=by omega
  have hs1:w.heap.size+1<W.heap.size:=by omega
  have hs0:w.heap.size<W.heap.size:=by omega
  gi_wp2
  gi_region_with_o (refine⟨trivial,?_⟩;gi_at_call 113;refine(CallsIn.inRound l (callsIn_wide.2 (hcall _))).mono ?_;rintro e w' ⟨rfl,hb',hdw⟩;have hq1:w'.cell? ⟨w.heap.size+1+1,0,none⟩=some (.float .f64 s):=(hb'.cell (p:=⟨w.heap.size+1+1,0,none⟩) hs2).trans hc;have hq2:w'.frozen? ⟨w.heap.size+1+1,0,none⟩=false:=(hb'.frozen (p:=⟨w.heap.size+1+1,0,none⟩) hs2).trans hf)
  all_goals gi_wp2
  all_goals
   have hbW:Below W.heap.size W w':=((Below.refl _ W).drew).trans hb'
   exact⟨rfl,(Zm hbW).trans ((KeepsOthers.setCell _ _ _).from _),⟨(hbW.mono (by omega)).setCell (p:=⟨w.heap.size+1+1,0,none⟩) (by simp;omega) _,(Below.heap_setCell _ _ _ _ (by simp)).trans (hbW.block _ hs3)⟩,
    ⟨⟨by rw[hfl];exact World.cell?_setCell_same' _ _ _ (by rw[hq1];rfl),by rw[World.frozen?_setCell];exact hq2⟩,
     ⟨(World.cell?_of_block (a:=⟨w.heap.size+1,0,none⟩) ((Below.heap_setCell _ _ _ _ (by simp)).trans (hbW.block _ hs1))).trans hc1,(World.frozen?_of_block (a:=⟨w.heap.size+1,0,none⟩) ((Below.heap_setCell _ _ _ _ (by simp)).trans (hbW.block _ hs1))).trans hf1⟩,
     (World.cell?_of_block (a:=⟨w.heap.size,0,none⟩) ((Below.heap_setCell _ _ _ _ (by simp;omega)).trans (hbW.block _ hs0))).trans hc0,
     (World.cell?_of_block (a:=⟨w.heap.size+1+1+1,0,none⟩) ((Below.heap_setCell _ _ _ _ (by simp)).trans (hbW.block _ hs3))).trans hc3⟩,
    hB.trans ((hbW.mono (by omega)).setCell (p:=⟨w.heap.size+1+1,0,none⟩) (by simp;omega) _),bt hdr (bt (Nat.le_succ _) hdw)⟩
 case done=>
  rintro D W hD ⟨⟨⟨hc,hf⟩,⟨hc1,hf1⟩,hc0,hc3⟩,hB,hdr⟩ hK;generalize hrr:(dn zs zs.length).foldl (fun s i=>DC fp ws s (zs[i.val]?.getD 0)) 0=r at hc
  gi_wp2
  have hK':=(KeepsOthers.setCell W ⟨w.heap.size+1,0,none⟩ (.float .f64 r)).same D _ hK rfl;refine⟨by simp,.inl ⟨_,_,rfl,run_takeDeferred hK',?_⟩⟩;have hc5:=cell_kept (World.cell?_setCell_same' W ⟨w.heap.size+1,0,none⟩ (.float .f64 r) (by rw[hc1];rfl)) (grownBy_putObj' _ D (.deferred none)) (fun r e=>by cases e;exact⟨_,hK',rfl⟩);refine⟨.float .f64 r,?_,by rw[hrr],(hB.setCell (p:=⟨w.heap.size+1,0,none⟩) (by simp) _).trans (belowK_b (w:=w) (am _) _ D _ _ (by simp at hD;omega) hK' rfl rfl),hdr⟩;simp[results,Try.f73,go_sem,hc5]
end Go.Proofs.Ytingpmogbibghaa.S
