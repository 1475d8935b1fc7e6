/- resend: the keys of a map, sorted, in the midst of code. Conditions: a map whose keys stand in order. -/
import Derived.Test.YtoekkpmeeclpeaaGreatRq
import Derived.Test.YtoekkpmeeclpeaaGreatKo
import Derived.Test.YtoekkpmeeclpeaaGreatKsh
open Array renaming getElem?_eq_some_iff->bq,getElem?_toList->cO
open List renaming ext_getElem?->nZ,getElem?_eq_getElem->ao,getElem?_eq_none->kS,getElem?_map->aN,length_map->aD,mem_map->br
open Nat renaming le_refl->am
open Option.some renaming inj->aa
noncomputable section
namespace Go.Proofs.YtoekkpmeeclpeaaGreat.S
open Go Go.Proofs Go.RowKit Go.Maps Go.Sort Go.Shelf
theorem Sa(m:Nat):AnyZI.SortsIn Tryz.prog yy Fence.wide m:=
 ⟨fun cQ off cap ss W hH hblk hsz=>callsIn_wide.2 (AnyM.slices_Sort_int Me cQ off cap ss W hH hblk hsz),
  fun p cap W=>callsIn_wide.2 (AnyM.slices_Sort_int_none Me p cap W)⟩
theorem KV(mb:Option Nat)(W:World):Calls Tryz.prog 192 #[.map mb] W fun e w'=>e=.returned (.func (.func 246) #[] #[.pointer (some ⟨W.heap.size,0,none⟩)])/\w'=W.alloc (.cells #[.map mb] 87):=(callsIn_wide (n:=5)).1 (AnyZI.keys_in Ro Fence.wide 5 trivial rfl mb W)
theorem Er{H:Type}(b nn:Nat)(D0:DataW H)(R:Value->Option (DataW H×List MemPlace))(w:World)(hown:w.ownsMap Tryz.prog 3 R b nn D0)(hmax:Maps.size D0<=maxLen)(hbytes:Maps.size D0*8<=140737488355328):
  Calls Tryz.prog 191 #[.func (.func 246) #[] #[.pointer (some ⟨w.heap.size,0,none⟩)]] (w.alloc (.cells #[.map (some b)] 87)) fun e w'=>∃(v:Value)(ss:List Int),e=.returned v/\ss.Perm (intKeys D0)/\
   w'.ownsRow w.heap.size 3 1 v ss.length ((ss.mergeSort (fun x y=>decide (x<=y))).map encZ)/\(v=.slice none 0 0<->ss=[])/\Below w.heap.size w w':=by
 have hbl:=hown.lt;have hseq:SeqGives Fence.wide 2 Tryz.prog 246 #[.pointer (some ⟨w.heap.size,0,none⟩)] encZ (fun ss=>ss.Perm (intKeys D0)) (Maps.size D0) (w.alloc (.cells #[.map (some b)] 87)):=AnyZI.keys_gives (ρ:=Cj) {Ro with} Fence.wide _ trivial rfl (by omega) w.heap.size b nn D0 _ (by simp) (by simp) (by obtain⟨es,bE,hb,Ft,hs,hD⟩:=hown;exact⟨es,bE,(Below.heap_alloc _ _ b hbl).trans hb,Ft,hs,hD⟩);have cS:=AnyZI.sorted_in Pv Fence.wide 5 trivial trivial trivial trivial rfl (by omega) (Sa _) (enters_of Tryz.func237 (by kernel_rfl) rfl) 246 #[.pointer (some ⟨w.heap.size,0,none⟩)] trivial (enters_of Tryz.func246 (by kernel_rfl) rfl) _ _ hmax hbytes _ hseq;change CallsIn _ _ Tryz.prog 191 _ _ _ at cS;refine((callsIn_wide (n:=5)).1 cS).mono ?_;rintro e w' ⟨v,ss,rfl,hS,hrow,hnil,hb⟩;exact⟨v,ss,rfl,hS,ownsRow_base_a hrow (by simp),hnil,((Below.refl _ w).alloc (am _) _).trans (hb.mono (by simp))⟩
open Go.Ev
def sS:List Value×List D×Nat->Option Int
 |([.int .i64 k],_,_)=>some k
 |_=>none
theorem FG{e:List Value×List D×Nat}{k:Int}(h:sS e=some k):e.1=[.int .i64 k]:=by
 unfold sS at h;split at h
 .obtain rfl:=aa h;rfl
 .cases h
def P0(es:List (List Value×List D×Nat))(bE:Nat):Option (List Int):=if es.map sS=(es.filterMap sS).map some/\es.length<=1000/\es≠[]/\(es.filterMap sS).Pairwise (·<·)/\(∀x∈es.filterMap sS,-9223372036854775808<=x/\x<=9223372036854775807)/\(es.map (·.2.2)).Nodup/\(∀e∈es,e.2.2<bE)then some (es.filterMap sS)else none
theorem xQ{es:List (List Value×List D×Nat)}{bE:Nat}{L:List Int}(h:P0 es bE=some L):es.map sS=L.map some/\es.length<=1000/\es≠[]/\L.Pairwise (·<·)/\(∀x∈L,-9223372036854775808<=x/\x<=9223372036854775807)/\(es.map (·.2.2)).Nodup/\(∀e∈es,e.2.2<bE):=by
 unfold P0 at h;split at h
 .rename_i hc;obtain rfl:=aa h;exact hc
 .cases h
section
variable{S K:Nat->Prop}{w0 w:World}{Kn:Nat->Prop}{φ:Nat->Ev.gj}{hf:Nat->Option Ob}
theorem P7{id bE:Nat}{va:Bool}{es:List (List Value×List D×Nat)}{L:List Int}(hI:Ev.Inv S K w0 Kn φ hf w)(ho:hf id=some (.map false va es bE))(hL:P0 es bE=some L):
  ∃(nn:Nat)(D0:DataW Unit)(R:Value->Option (DataW Unit×List MemPlace)),w.ownsMap Tryz.prog 3 R (φ id).cQ nn D0/\Maps.size D0<=1000/\(intKeys D0).Perm L:=by
 obtain⟨k1,k2,k3,k4,k5,k6,k7⟩:=xQ hL;obtain⟨_,hro⟩:=hI.iI id _ ho;generalize φ id=l at hro;cases hro with
 |@map _ _ _ _ ms hS hK hob hlen hr=>
  have hll:es.length=L.length:=by have:=congrArg List.length k1;simpa using this
  have hent:∀(i:Nat)(x:MapEntry),ms[i]?=some x->∃e a,es[i]?=some e/\L[i]?=some a/\x.key=.int .i64 a/\x.born=e.2.2:=fun i x hx=>by
   have hi:i<ms.size:=(bq.1 hx).1;have he:es[i]?=some (es[i]'(by omega)):=ao _;have h1:=congrArg (·[i]?) k1;simp only[aN,he,Option.map_some]at h1;rw[ao (show i<L.length by omega)]at h1;have h1:sS (es[i]'(by omega))=some (L[i]'(by omega)):=by simpa using h1
   obtain⟨⟨_,h2⟩,_,h3⟩:=hr i _ x he hx;refine⟨_,_,he,ao (by omega),?_,h3⟩;rw[FG h1]at h2;simpa using h2.symm
  have hkeys:ms.toList.map (·.key)=L.map (Value.int .i64):=by
   apply nZ;intro i;rw[aN,aN,cO];cases hx:ms[i]?with
   |none=>
    have:ms.size<=i:=by simpa using hx
    rw[kS (by omega)];rfl
   |some x=>obtain⟨e,a,_,ha,hk,_⟩:=hent i x hx;rw[ha];simp[hk]
  have hborn:ms.toList.map (·.born)=es.map (·.2.2):=by
   apply nZ;intro i;rw[aN,aN,cO];cases hx:ms[i]?with
   |none=>
    have:ms.size<=i:=by simpa using hx
    rw[kS (by omega)];rfl
   |some x=>obtain⟨e,a,he,_,_,hb⟩:=hent i x hx;rw[he];simp[hb]
  have hkx:∀x∈ms.toList,∃a,x.key=.int .i64 a/\keyOf Tryz.prog 3 x.key=some (.int .i64 a):=fun x hx=>by have:x.key∈ms.toList.map (·.key):=br.2 ⟨x,hx,rfl⟩;rw[hkeys]at this;obtain⟨a,ha,e⟩:=br.1 this;have:=k5 a ha;refine⟨a,e.symm,e▸keyOf_int_mk Tryz.underlying3 ?_⟩;simp only[Lit.wf,Bool.and_eq_true,decide_eq_true_eq];exact⟨this.1,this.2⟩
  let R:Value->Option (DataW Unit×List MemPlace):=fun _=>some (.nil,[])
  have hrg:∀x∈ms.toList,∀a,x.key=.int .i64 a->WideElems.rd Tryz.prog 3 R x=some (.int .i64 a,.nil):=fun x hx a ha=>by
   obtain⟨a',h1,h2⟩:=hkx x hx;obtain rfl:a'=a:=by rw[h1]at ha;simpa using ha
   simp[WideElems.rd,h2,R]
  have hfit:WideElems.Fit Tryz.prog 3 R ms bE:=by
   refine⟨?_,⟨fun x hx=>?_,?_,?_⟩,fun x hx=>?_⟩
   .have:ms.size<=1000:=by omega
    simp only[maxLen];omega
   .have:x.born∈ms.toList.map (·.born):=br.2 ⟨x,hx,rfl⟩;rw[hborn]at this;obtain⟨e,he,e2⟩:=br.1 this;exact e2▸k7 e he
   .rw [hborn];exact k6
   .rw [hkeys]
    exact List.Pairwise.map _ (fun a b hab e=>by
     have:a=b:=by simpa using e
     omega) k4
   .obtain ⟨a,h1,_⟩:=hkx x hx;exact⟨_,hrg x hx a h1⟩
  refine⟨ms.size,.map ((ms.toList.map (WideElems.rg Tryz.prog 3 R)).foldr DataW.insert []),R,⟨ms,bE,hob,hfit,am _,rfl⟩,?_,?_⟩
  .rw [Maps.size_eq,(WideShapes.sorted_perm _).length_eq,aD,Array.length_toList];omega
  .have hp:=((WideShapes.sorted_perm (ms.toList.map (WideElems.rg Tryz.prog 3 R))).map fun(p:Lit×DataW Unit)=>Go.intOf p.1)
   refine hp.trans (.of_eq ?_);apply nZ;intro i;rw[aN,aN,cO];cases hx:ms[i]?with
   |none=>
    have:ms.size<=i:=by simpa using hx
    rw[kS (by omega)];rfl
   |some x=>
    obtain⟨e,a,_,ha,hk,_⟩:=hent i x hx;have hxm:x∈ms.toList:=by simpa using Array.mem_of_getElem? hx
    rw[ha];simp[WideElems.rg,hrg x hxm a hk,Go.intOf]
variable{gv:List Value}{nt:Nat}
theorem BK{P:Program}{bM:xp}{all:Array Oper}{R:Exit->Act->World->Prop}(rest:List Nat)(hnt:nt<1000000000){Q:St->Prop}:∀(l:List Nat)(os:List Oper)(s:St)(S:Nat->Prop)(Kn:Nat->Prop)(φ:Nat->Ev.gj)(a:Act)(w:World),
  (∀(i j:Nat),l[i]?=some j->all[j]?=os[i]?)->l.length=os.length->WO P (os.map (eE P bM nt all)) s Q->Bl S K w0 Kn φ gv nt s a w->
  (∀S' Kn' φ' s' a' w',Q s'->gy S w S' w'->Bl S' K w0 Kn' φ' gv nt s' a' w'->wpOps P all R rest a' w')->wpOps P all R (l++rest) a w:=by
 intro l;induction l with
 |nil=>intro os s S Kn φ a w _ hl h hR hQ;obtain rfl:os=[]:=List.length_eq_zero_iff.1 hl.symm;obtain⟨s1,h1,h2⟩:=h;obtain⟨S1,Kn1,φ1,h3,h4⟩:=h1 S K w0 Kn φ gv nt a w hR;exact hQ S1 Kn1 φ1 s1 a w h2 h3 h4
 |cons i l ih=>
  intro os s S Kn φ a w hi hl h hR hQ;cases os with
  |nil=>simp at hl
  |cons o os=>
   have ho:all[i]?=some o:=by simpa using hi 0 i rfl
   simp only[List.map_cons,WO]at h;obtain⟨s1,hsub,h⟩:=h;obtain⟨S1,Kn1,φ1,hs1,hR1⟩:=hsub S K w0 Kn φ gv nt a w hR;simp only[List.cons_append,wpOps,ho];rcases h with⟨hw,call,v,u,av,n,hok,hev,h⟩|⟨hw,h⟩
   .have hwant:=m8 hR1.cW (by rw[hR1.size];exact hnt) hw;rw[if_pos hwant];left
    have hdst:∀x,o.dst=some x->x<a.tmps.size:=by
     intro x hx;rw[hR1.size];rcases Nat.lt_or_ge x nt with h1|h1
     .exact h1
     .exfalso;have:(eE P bM nt all o).k=.fL:=by simp only[eE,hx];rw[if_neg (by simp;omega)]
      rw[this,eF]at hev;simp at hev
    have hk:vv P bM o.op=((eE P bM nt all o).k,(eE P bM nt all o).args):=by
     have:(eE P bM nt all o).k=(vv P bM o.op).1:=by simp only[eE];rw[if_pos];cases hd:o.dst with|none=>rfl|some d=>have:=hdst d hd;rw[hR1.size]at this;simpa using this
     rw[this];rfl
    have hgo:=Ak hok hk hR1.inv hR1.cW (fun j hj _=>hR1.fP j hj) hev;refine hgo _ _ fun val w' hD=>?_;obtain⟨hle,S',φ',h1,h2,h3,h4⟩:=hD;refine ih os _ S' (po Kn1 s1.next n) φ' _ w' (fun i' j hj=>hi (i'+1) j (by simpa using hj)) (by simpa using hl) h ⟨?_,?_,?_,?_,?_,?_⟩ fun S2 Kn2 φ2 s2 a2 w2 h0 h5 h6=>hQ S2 Kn2 φ2 s2 a2 w2 h0 ((hs1.trans h1).trans h5) h6
    .simp only[fH];exact h4
    .exact jk.C8 hR1.cW h1 h2 hdst h3
    .rw [nJ];exact hR1.size
    .rw [lH];exact hR1.defers
    .intro j hj hk;simp only at hj;rcases hk with hk|hk
     .exact hR1.fP j (by omega) hk
     .omega
    .intro i c v hc hv;exact(hR1.gh i c v hc hv).mono h1 h2
   .have hwant:=m8 hR1.cW (by rw[hR1.size];exact hnt) hw;rw[if_neg (by simp[hwant])];refine ih os _ S1 Kn1 φ1 _ w (fun i' j hj=>hi (i'+1) j (by simpa using hj)) (by simpa using hl) h ⟨hR1.inv,?_,?_,?_,hR1.fP,hR1.gh⟩ fun S2 Kn2 φ2 s2 a2 w2 h0 h5 h6=>hQ S2 Kn2 φ2 s2 a2 w2 h0 (hs1.trans h5) h6
    .exact jk.DJ hR1.cW
    .rw [nJ];exact hR1.size
    .rw [lH];exact hR1.defers
theorem D7{P:Program}{o:Oper}{f:FuncId}{x:Nat}{ts:Array TypeId}{a:Act}{w:World}{next:Act->World->Prop}{Q:Exit->Act->World->Prop}(hop:o.op=.call ⟨.value (.func f), #[.tmp x],ts⟩)
  (hen:∀args,(callFunc f args).run P w=.ok (.enter f args) w) (hc:Calls P f #[a.eval (.tmp x)] w fun e w'=>∃v,e=.returned v/\next (a.put o.dst v) w'):o.wp P a w next Q:=by
 have hr:(execOp a.eval o).run P w=.ok (.enter f #[a.eval (.tmp x)]) w:=by
  have hf:a.eval (.func f)=.func (.func f) #[] #[]:=rfl;have e1:(#[]++(#[Operand.tmp x]:Array Operand).map a.eval)++(#[]:Array Value)= #[a.eval (.tmp x)]:=by simp
  simp only[execOp,hop,Sem.run_bind,resolve,hf,Deferred.ofValue,Sem.run_pure,Result.andThen_ok,invoke,e1];exact hen _
 unfold Oper.wp;rw[hr,Oper.upon_enter];refine hc.mono fun en w' hR=>?_;obtain⟨v,rfl,h⟩:=hR;exact h
def Nx(s:St):Option St:=match bV s.cW 15,bV s.cW 16 with
 |some (.c (.om id)),none=>match Go.Ev.au s.heap id with
  |some (.map false _ es bE)=>match P0 es bE with|some L=>some ⟨(17,.c (.d (.sl 1 (L.map fun x=>[.lit (.int .i64 x)]))))::s.cW,s.heap,s.next,s.gh⟩|none=>none
  |_=>none
 |_,_=>none
theorem Qc{S:Nat->Prop}{W W':World}{v:Value}{ss L:List Int}(hS:∀b,S b->b<W.heap.size)(hp:ss.Perm L)(hL:L.Pairwise (·<·))(hne:L≠[])
  (hrow:W'.ownsRow W.heap.size 3 1 v ss.length ((ss.mergeSort (fun x y=>decide (x<=y))).map encZ)) (hnil:v=.slice none 0 0<->ss=[]):RD (fun c=>S c\/(W.heap.size<=c/\c<W'.heap.size)) W' (.sl 1 (L.map fun x=>[.lit (.int .i64 x)])) v:=by
 have hms:ss.mergeSort (fun x y=>decide (x<=y))=L:=by refine(mergeSort_of_perm_i hp).trans (List.mergeSort_of_pairwise (hL.imp fun h=>?_));simp only[decide_eq_true_eq];omega
 rw[hms]at hrow;obtain⟨hl1,hrow⟩:=hrow;have hss:ss≠[]:=fun e=>hne (by rw[e]at hp;simpa using hp.symm);rcases hrow with⟨e1,_⟩|⟨g,cap,cur,e1,hg,hcur,hcap,_,hcs,htk⟩
 .exact absurd (hnil.1 e1) hss
 .rw [e1];have hlen2:ss.length=L.length:=hp.length_eq;have hlt:g<W'.heap.size:=(bq.1 hcur).1
  have hc2:∀i,(hi:i<L.length)->W'.cell? ⟨g,0+i*1+0,none⟩=some (.int .i64 L[i]):=fun i hi=>by
   have:cur.toList[i]?=some (.int .i64 L[i]):=by
    have h3:(cur.toList.take (ss.length*1))[i]?=some (.int .i64 L[i]):=by rw[htk,aN,ao hi];rfl
    rw[List.getElem?_take_of_lt (by omega)]at h3;exact h3
   simp only[World.cell?,hcur,Nat.zero_add,Nat.mul_one,Nat.add_zero];simpa using this
  have hgoal:=RD.sl (S:=fun c=>S c\/(W.heap.size<=c/\c<W'.heap.size)) (w:=W') (sz:=1) (rows:=L.map fun x=>[.lit (.int .i64 x)]) (b:=g) (off:=0) (cap:=cap) (fun i _=>.int .i64 (L.getD i 0)) (.inr ⟨hg,hlt⟩) (by omega) (by rw[aD];omega)
   (fun i r hr=>by rw[aN]at hr;cases hi:L[i]?with|none=>rw[hi]at hr;cases hr|some a=>rw[hi]at hr;obtain rfl:=aa hr;rfl)
   (fun i r hr j x hx=>by
    rw[aN]at hr;cases hi:L[i]?with
    |none=>rw[hi]at hr;cases hr
    |some a=>
     rw[hi]at hr;obtain rfl:=aa hr;obtain⟨hi',ha⟩:=List.getElem?_eq_some_iff.1 hi;cases j with
     |zero=>rw[hc2 i hi'];simp[hi']
     |succ j=>simp at hx)
   (fun i r hr j x hx=>by
    rw[aN]at hr;cases hi:L[i]?with
    |none=>rw[hi]at hr;cases hr
    |some a=>
     rw[hi]at hr;obtain rfl:=aa hr;cases j with
     |zero=>
      obtain rfl:D.lit (.int .i64 a)=x:=by simpa using hx
      have:L.getD i 0=a:=by rw[List.getD_eq_getElem?_getD,hi];rfl
      rw[this];exact .lit rfl
     |succ j=>simp at hx)
  rw[aD,<-hlen2]at hgoal;exact hgoal
theorem Qb{ops:Array Oper}{o5 o6:Oper}{t5 t6:Array TypeId}(h5:ops[5]?=some o5)(h6:ops[6]?=some o6)(g5:o5.guard=none)(g6:o6.guard=none)(d5:o5.dst=some 16)(d6:o6.dst=some 17)
  (p5:o5.op=.call ⟨.value (.func 192), #[.tmp 15],t5⟩) (p6:o6.op=.call ⟨.value (.func 191), #[.tmp 16],t6⟩) {s s':St} (hk:Nx s=some s') {R:Exit->Act->World->Prop} {rest:List Nat} {a:Act} (hnt:18<=nt) (hR:Bl S K w0 Kn φ gv nt s a w)
  (hQ:∀S' a' w',gy S w S' w'->Bl S' K w0 Kn φ gv nt s' a' w'->wpOps Tryz.prog ops R rest a' w'):wpOps Tryz.prog ops R (5::6::rest) a w:=by
 unfold Nx at hk;split at hk
 case h_2=>cases hk
 rename_i jd e15 e16;split at hk
 case h_2=>cases hk
 rename_i va es bE hlook;split at hk
 case h_2=>cases hk
 rename_i L hes;obtain rfl:=aa hk;have hv:=rK (x:=.tmp 15) hR.inv.Bz hR.cW e15;obtain⟨nn,D0,Rr,hown,hsz,hperm⟩:=P7 hR.inv hlook hes;obtain⟨_,_,k3,k4,_⟩:=xQ hes;have hLne:L≠[]:=fun e=>by have:=(xQ hes).1;rw[e]at this;exact k3 (by simpa using this)
 generalize hval:a.eval (.tmp 15)=val at hv;cases hv with
 |c hv=>
 cases hv with
 |om hkn=>
 have hwant:∀o:Oper,o.guard=none->∀y,Region.wanted o y=true:=fun o h y=>by unfold Region.wanted;rw[h]
 simp only[wpOps,h5];rw[if_pos (hwant o5 g5 _)];refine .inl (D7 p5 (fun args=>enters_of Tryz.func192 (by kernel_rfl) rfl args w) ?_);rw[hval];refine(KV _ w).mono ?_;rintro e w1 ⟨rfl,rfl⟩;refine⟨_,rfl,?_⟩;simp only[wpOps,h6];rw[if_pos (hwant o6 g6 _)];refine .inl (D7 p6 (fun args=>enters_of Tryz.func191 (by kernel_rfl) rfl args _) ?_);have hsize:=hR.size;have hev:(a.put o5.dst (.func (.func 246) #[] #[.pointer (some ⟨w.heap.size,0,none⟩)])).eval (.tmp 16)=.func (.func 246) #[] #[.pointer (some ⟨w.heap.size,0,none⟩)]:=by rw[d5];have:=C9 (a:=a) (d:=16) (v:=.func (.func 246) #[] #[.pointer (some ⟨w.heap.size,0,none⟩)]) (by omega) 16;rw[if_pos rfl]at this;exact this
 rw[hev];refine(Er _ nn D0 Rr w hown (by simp only[maxLen];omega) (by omega)).mono ?_;rintro e w' ⟨v,ss,rfl,hS,hrow,hnil,hb⟩;refine⟨v,rfl,?_⟩;have hs:gy S w (fun c=>S c\/(w.heap.size<=c/\c<w'.heap.size)) w':=⟨fun _ h=>.inl h,fun c hc=>hb.block c (hR.inv.uH c hc)⟩
 refine hQ _ _ w' hs ⟨?_,?_,?_,?_,hR.fP,fun i c x h1 h2=>(hR.gh i c x h1 h2).mono hs (Ren.refl _ _)⟩
 .exact hR.inv.after (fp:=[]) hs (fun c hc=>hc.imp id fun h=>.inr h.1) (fun c hc=>hc.elim (fun h=>Nat.lt_of_lt_of_le (hR.inv.uH c h) hb.size) (·.2)) (fun b hb=>by cases hb) (fun j o _ _ x _ hm=>by cases hm)
   ⟨fun c hc=>hc.1,fun c hc=>hb.block c hc.1,hb.size,fun a ha=>hb.frozen ha,fun c aG h=>⟨aG,by obtain⟨t,h⟩:=h;exact⟨t,(hb.block c (bq.1 h).1).trans h⟩,rfl⟩,⟨hb.os,hb.output,hb.tape,am _⟩⟩
 .have h16:jk.ok S w Kn φ s.cW (a.put o5.dst (.func (.func 246) #[] #[.pointer (some ⟨w.heap.size,0,none⟩)])).tmps:=fun t x hx=>by
   rw[d5,C9 (by omega)];split
   .rename_i e;subst e;rw[e16]at hx;cases hx
   .exact hR.cW t x hx
  rw[d6];exact jk.C8 (d:=some 17) h16 hs (Ren.refl _ _) (fun x hx=>by obtain rfl:=aa hx;rw[nJ];omega) (.c (.d (Qc hR.inv.uH (hS.trans hperm) k4 hLne hrow hnil)))
 .rw [nJ,nJ];exact hsize
 .rw [lH,lH];exact hR.defers
end
def Vx:Code->Code|.seq a _=>a|c=>c
def R_:Code->Code|.seq _ b=>b|c=>c
def Ur:Code->Array Oper|.region _ o _=>o|_=> #[]
def Si:Code:=Tryz.f133.body.getD .skip
def G3:Array Oper:=Ur (Vx (R_ Si))
def J5:xp:=fun _=>(false,[])
theorem Sg:Tryz.f133.body=some (.seq (Vx Si) (.seq (.region 1 G3 false) (R_ (R_ Si)))):=by kernel_rfl
def C5(al:List A):Option (List R×List T):=
 match vd (Om []) nM (pR Tryz.prog J5 42 (Vx Si)) (jw al)with
 |some (.normal,s1)=>match AM nM ((G3.toList.take 5).map (eE Tryz.prog J5 42 G3)) s1 with
  |some s2=>match Nx s2 with
   |some s3=>match AM nM ((G3.toList.drop 7).map (eE Tryz.prog J5 42 G3)) s3 with
    |some s4=>match vd (Om []) nM (pR Tryz.prog J5 42 (R_ (R_ Si))) s4 with|some (.normal,s5)=>if s5.gh.length=(jw al).gh.length then Do [] s5 else none|_=>none
    |none=>none
   |none=>none
  |none=>none
 |_=>none
theorem EJ(hm:Tryz.prog.follows .mixedOrders=true){al:List A}{rs:List R}{outs:List T}(hlen:al.length<=42)(h:C5 al=some (rs,outs)):Go.Ev.xw Tryz.prog 133 al rs outs:=by
 unfold C5 at h;split at h
 case h_2=>cases h
 rename_i s1 h1;split at h
 case h_2=>cases h
 rename_i s2 h2;split at h
 case h_2=>cases h
 rename_i s3 h3;split at h
 case h_2=>cases h
 rename_i s4 h4;split at h
 case h_2=>cases h
 rename_i s5 h5;split at h
 case isFalse=>cases h
 rename_i hg;have hnt:(42:Nat)<1000000000:=by omega
 refine NW (m:=[]) (jJ:=[]) Tryz.func133 Sg (by kernel_rfl) hlen (by kernel_rfl) fun S K w0 Kn φ gv a w hR=>?_;refine wp_seq ?_;refine wp_mono (v7 hnt hm (Vx Si) _ (fun o s=>o=.normal/\s=s1) S Kn φ a w (vM (AU _) lT _ _ _ _ _ h1 ⟨rfl,rfl⟩) hR) fun e a1 w1 hp=>?_;obtain⟨o,s',⟨rfl,rfl⟩,rfl,S1,Kn1,φ1,hs1,hR1⟩:=hp;refine wp_seq ?_
 have hreg:(Code.region 1 G3 false).wp Tryz.prog (xq S1 K w0 w1 gv 42 (fun o s=>o=.normal/\s=s4)) a1 w1:=by
  refine wp_region ?_;have hr:List.range G3.size=[0,1,2,3,4]++(5::6::([7,8]++[])):=by kernel_rfl
  rw[hr];refine BK (bM:=J5) (gv:=gv) (K:=K) (w0:=w0) _ hnt (Q:=fun s=>s=s2) [0,1,2,3,4] (G3.toList.take 5) s' S1 Kn1 φ1 a1 w1 ?_ (by kernel_rfl) (Ho lT _ _ _ h2 rfl) hR1 fun S2 Kn2 φ2 sy a2 w2 hq hs2 hR2=>?_
  .intro i j hj;have key:∀k,k<5->G3[k]?=(G3.toList.take 5)[k]?:=fun k hk=>by rw[List.getElem?_take_of_lt hk];simp
   match i,hj with|0,hj=>obtain rfl:=aa hj;exact key 0 (by omega)|1,hj=>obtain rfl:=aa hj;exact key 1 (by omega)|2,hj=>obtain rfl:=aa hj;exact key 2 (by omega)|3,hj=>obtain rfl:=aa hj;exact key 3 (by omega)|4,hj=>obtain rfl:=aa hj;exact key 4 (by omega)|n+5,hj=>simp at hj
  subst hq;refine Qb (o5:=G3[5]!) (o6:=G3[6]!) (t5:= #[87]) (t6:= #[269]) (by kernel_rfl) (by kernel_rfl) (by kernel_rfl) (by kernel_rfl) (by kernel_rfl) (by kernel_rfl) (by kernel_rfl) (by kernel_rfl) h3 (by omega) hR2 fun S3 a3 w3 hs3 hR3=>?_;refine BK (bM:=J5) (gv:=gv) (K:=K) (w0:=w0) [] hnt (Q:=fun s=>s=s4) [7,8] (G3.toList.drop 7) s3 S3 Kn2 φ2 a3 w3 ?_ (by kernel_rfl) (Ho lT _ _ _ h4 rfl) hR3 fun S4 Kn4 φ4 sx a4 w4 hq hs4 hR4=>?_
  .intro i j hj;have key:∀k,G3[7+k]?=(G3.toList.drop 7)[k]?:=fun k=>by rw[List.getElem?_drop];simp
   match i,hj with|0,hj=>obtain rfl:=aa hj;exact key 0|1,hj=>obtain rfl:=aa hj;exact key 1|n+2,hj=>simp at hj
  exact⟨.normal,_,⟨rfl,hq⟩,rfl,S4,Kn4,φ4,(hs2.trans hs3).trans hs4,hR4⟩
 refine wp_mono hreg fun e a2 w2 hp=>?_;obtain⟨o,sz,⟨rfl,rfl⟩,rfl,S2,Kn2,φ2,hs2,hR2⟩:=hp;refine wp_mono (v7 hnt hm (R_ (R_ Si)) _ (Ev.DX [] [] (jw al).gh.length rs outs) S2 Kn2 φ2 a2 w2 (vM (AU _) lT _ _ _ _ _ h5 (.of ⟨hg,rs,Ay h,rfl⟩)) hR2) fun e a3 w3 hp=>?_;exact hp.trans (hs1.trans hs2)
end Go.Proofs.YtoekkpmeeclpeaaGreat.S
