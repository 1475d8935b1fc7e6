/- The library's sort of the keys of a map in this program: where it lies (printed by the kit's tool). Conditions: none. -/
import Derived.Shelf.SlIterI.Nil
import Derived.Shelf.SortM.Plain
import Derived.Shelf.SortM.SortNone
import Derived.Test.YtoekkpmeeclpeaaGreatChecked
import Derived.KernelRfl
import Derived.Test.YtoekkpmeeclpeaaGreatVh
import Derived.StillTailTactics
import Derived.Maps.RangeWalk
import Derived.Shelf.SlSortCmp.WholeK
import Derived.Shelf.SlSortCmp.NoneTotal
import Derived.Shelf.Sort.Plain
import Derived.Shelf.Slices.In.SortNone
import Derived.Shelf.Slices.CompactI
import Derived.Lib.RowBridge
open Array renaming getElem?_eq_none->jg,getElem?_eq_some_iff->bZ,length_toList->gJ,toList_push->qd
open BitVec renaming ofInt->aW
open Bool renaming and_eq_true->ax
open Go.Shelf renaming Ren->vB
open List renaming drop_zero->vp,filter_congr->mT,filter_cons->dN,filter_eq_self->rO,filter_sublist->rN,foldl_cons->mB,map_cons->bN,mem_cons->aO,mem_filter->dy,mem_iff_getElem->ia,mem_map->aR,nodup_cons->gD,pairwise_iff_getElem->dS,take_length->dM
open Nat renaming blt->iu,blt_eq->fM,le_refl->aw,lt_or_ge->f_,zero_le->cG
noncomputable section
namespace Go.Proofs.YtoekkpmeeclpeaaGreat.S
open Go Go.Proofs Go.Shelf
def Mc:vB:=⟨fun|7=>192|10=>246|n=>n,fun|23=>87|26=>3|3=>42|28=>269|0=>0|27=>268|33=>134|4=>4|n=>n,fun|n=>n⟩
theorem J5:Go.Proofs.SlLaysZI.n7 Tryz.prog Mc:={
 mixed:=by kernel_rfl
 f7:=⟨Tryz.f192.name,by decide,Tryz.func192.trans (congrArg some (by kernel_rfl))⟩
 f10:=⟨Tryz.f246.name,by decide,Tryz.func246.trans (congrArg some (by kernel_rfl))⟩
 t0:=Tryz.underlying0
 a0:=Tryz.isAgg0
 z0:=Tryz.sizeOf0
 v0:=Tryz.zeroValue0
 t4:=Tryz.underlying4
 a4:=Tryz.isAgg4
 z4:=Tryz.sizeOf4
 v4:=Tryz.zeroValue4
 t23:=Tryz.underlying87
 a23:=Tryz.isAgg87
 z23:=Tryz.sizeOf87
 v23:=Tryz.zeroValue87
 t26:=Tryz.underlying3
 a26:=Tryz.isAgg3
 z26:=Tryz.sizeOf3
 v26:=Tryz.zeroValue3
 t27:=Tryz.underlying268
 a27:=Tryz.isAgg268
 z27:=Tryz.sizeOf268
 v27:=Tryz.zeroValue268
 t28:=Tryz.underlying269
 a28:=Tryz.isAgg269
 z28:=Tryz.sizeOf269
 v28:=Tryz.zeroValue269
 t33:=Tryz.underlying134
 a33:=Tryz.isAgg134
 z33:=Tryz.sizeOf134
 v33:=Tryz.zeroValue134}
def HQ:vB:=⟨fun|6=>191|8=>245|9=>237|11=>284|13=>260|12=>274|23=>294|24=>295|14=>311|15=>312|16=>313|17=>314|18=>315|19=>316|20=>317|21=>318|22=>319|25=>337|26=>327|27=>328|28=>338|29=>339|30=>261|31=>344|n=>n,fun|26=>3|28=>269|24=>27|0=>0|3=>3|37=>223|48=>318|50=>159|4=>4|40=>345|39=>344|45=>312|5=>5|9=>9|51=>369|55=>258|57=>379|58=>380|33=>134|n=>n,fun|n=>n⟩
theorem abk:Go.Proofs.SlLaysZI.n6 Tryz.prog HQ:={
 mixed:=by kernel_rfl
 f6:=⟨Tryz.f191.name,by decide,Tryz.func191.trans (congrArg some (by kernel_rfl))⟩
 f8:=⟨Tryz.f245.name,by decide,Tryz.func245.trans (congrArg some (by kernel_rfl))⟩
 f11:=⟨Tryz.f284.name,by decide,Tryz.func284.trans (congrArg some (by kernel_rfl))⟩
 t0:=Tryz.underlying0
 a0:=Tryz.isAgg0
 z0:=Tryz.sizeOf0
 v0:=Tryz.zeroValue0
 t24:=Tryz.underlying27
 a24:=Tryz.isAgg27
 z24:=Tryz.sizeOf27
 v24:=Tryz.zeroValue27
 t26:=Tryz.underlying3
 a26:=Tryz.isAgg3
 z26:=Tryz.sizeOf3
 v26:=Tryz.zeroValue3
 t28:=Tryz.underlying269
 a28:=Tryz.isAgg269
 z28:=Tryz.sizeOf269
 v28:=Tryz.zeroValue269
 i26:=by kernel_rfl}
def QY:vB:=⟨fun|5=>237|8=>260|7=>274|19=>294|20=>295|10=>311|11=>312|12=>313|13=>314|14=>315|15=>316|16=>317|17=>318|18=>319|30=>337|31=>327|32=>328|33=>338|34=>339|35=>261|40=>344|n=>n,fun|23=>27|25=>3|3=>3|32=>223|22=>27|0=>0|44=>318|46=>159|4=>4|36=>345|35=>344|41=>312|5=>5|9=>9|53=>369|57=>258|63=>379|64=>380|n=>n,fun|n=>n⟩
theorem XB:Go.Proofs.SlLaysM.n5 Tryz.prog QY:={
 mixed:=by kernel_rfl
 f5:=⟨Tryz.f237.name,by decide,Tryz.func237.trans (congrArg some (by kernel_rfl))⟩
 f7:=⟨Tryz.f274.name,by decide,Tryz.func274.trans (congrArg some (by kernel_rfl))⟩
 f8:=Tryz.func260.trans (congrArg some (by kernel_rfl))
 f10:=⟨Tryz.f311.name,by decide,Tryz.func311.trans (congrArg some (by kernel_rfl))⟩
 f11:=⟨Tryz.f312.name,by decide,Tryz.func312.trans (congrArg some (by kernel_rfl))⟩
 f12:=⟨Tryz.f313.name,by decide,Tryz.func313.trans (congrArg some (by kernel_rfl))⟩
 f13:=⟨Tryz.f314.name,by decide,Tryz.func314.trans (congrArg some (by kernel_rfl))⟩
 f14:=⟨Tryz.f315.name,by decide,Tryz.func315.trans (congrArg some (by kernel_rfl))⟩
 f15:=⟨Tryz.f316.name,by decide,Tryz.func316.trans (congrArg some (by kernel_rfl))⟩
 f16:=⟨Tryz.f317.name,by decide,Tryz.func317.trans (congrArg some (by kernel_rfl))⟩
 f17:=⟨Tryz.f318.name,by decide,Tryz.func318.trans (congrArg some (by kernel_rfl))⟩
 f18:=⟨Tryz.f319.name,by decide,Tryz.func319.trans (congrArg some (by kernel_rfl))⟩
 f19:=Tryz.func294.trans (congrArg some (by kernel_rfl))
 f20:=Tryz.func295.trans (congrArg some (by kernel_rfl))
 f30:=⟨Tryz.f337.name,by decide,Tryz.func337.trans (congrArg some (by kernel_rfl))⟩
 f31:=Tryz.func327.trans (congrArg some (by kernel_rfl))
 f32:=Tryz.func328.trans (congrArg some (by kernel_rfl))
 f33:=⟨Tryz.f338.name,by decide,Tryz.func338.trans (congrArg some (by kernel_rfl))⟩
 f34:=⟨Tryz.f339.name,by decide,Tryz.func339.trans (congrArg some (by kernel_rfl))⟩
 f35:=⟨Tryz.f261.name,by decide,Tryz.func261.trans (congrArg some (by kernel_rfl))⟩
 f40:=⟨Tryz.f344.name,by decide,Tryz.func344.trans (congrArg some (by kernel_rfl))⟩
 t0:=Tryz.underlying0
 a0:=Tryz.isAgg0
 z0:=Tryz.sizeOf0
 v0:=Tryz.zeroValue0
 t3:=Tryz.underlying3
 a3:=Tryz.isAgg3
 z3:=Tryz.sizeOf3
 v3:=Tryz.zeroValue3
 t4:=Tryz.underlying4
 a4:=Tryz.isAgg4
 z4:=Tryz.sizeOf4
 v4:=Tryz.zeroValue4
 t5:=Tryz.underlying5
 a5:=Tryz.isAgg5
 z5:=Tryz.sizeOf5
 v5:=Tryz.zeroValue5
 t9:=Tryz.underlying9
 a9:=Tryz.isAgg9
 z9:=Tryz.sizeOf9
 v9:=Tryz.zeroValue9
 t22:=Tryz.underlying27
 a22:=Tryz.isAgg27
 z22:=Tryz.sizeOf27
 v22:=Tryz.zeroValue27
 t23:=Tryz.underlying27
 a23:=Tryz.isAgg27
 z23:=Tryz.sizeOf27
 v23:=Tryz.zeroValue27
 t25:=Tryz.underlying3
 a25:=Tryz.isAgg3
 z25:=Tryz.sizeOf3
 v25:=Tryz.zeroValue3
 t32:=Tryz.underlying223
 a32:=Tryz.isAgg223
 z32:=Tryz.sizeOf223
 v32:=Tryz.zeroValue223
 t35:=Tryz.underlying344
 a35:=Tryz.isAgg344
 z35:=Tryz.sizeOf344
 v35:=Tryz.zeroValue344
 t36:=Tryz.underlying345
 a36:=Tryz.isAgg345
 z36:=Tryz.sizeOf345
 v36:=Tryz.zeroValue345
 t41:=Tryz.underlying312
 a41:=Tryz.isAgg312
 z41:=Tryz.sizeOf312
 v41:=Tryz.zeroValue312
 t44:=Tryz.underlying318
 a44:=Tryz.isAgg318
 z44:=Tryz.sizeOf318
 v44:=Tryz.zeroValue318
 t46:=Tryz.underlying159
 a46:=Tryz.isAgg159
 z46:=Tryz.sizeOf159
 v46:=Tryz.zeroValue159
 t53:=Tryz.underlying369
 a53:=Tryz.isAgg369
 z53:=Tryz.sizeOf369
 v53:=Tryz.zeroValue369
 t57:=Tryz.underlying258
 a57:=Tryz.isAgg258
 z57:=Tryz.sizeOf258
 v57:=Tryz.zeroValue258
 t63:=Tryz.underlying379
 a63:=Tryz.isAgg379
 z63:=Tryz.sizeOf379
 v63:=Tryz.zeroValue379
 t64:=Tryz.underlying380
 a64:=Tryz.isAgg380
 z64:=Tryz.sizeOf380
 v64:=Tryz.zeroValue380}
open Go Go.Proofs Go.RowKit Go.Maps Go.Sort Go.Shelf Go.Ev
theorem afm(m:Nat):AnyZI.SortsIn Tryz.prog HQ Fence.wide m:=
 ⟨fun cQ off cap ss W hH hblk hsz=>callsIn_wide.2 (AnyM.slices_Sort_int XB cQ off cap ss W hH hblk hsz),
  fun p cap W=>callsIn_wide.2 (AnyM.slices_Sort_int_none XB p cap W)⟩
theorem VP(mb:Option Nat)(W:World):Calls Tryz.prog 192 #[.map mb] W fun e w'=>e=.returned (.func (.func 246) #[] #[.pointer (some ⟨W.heap.size,0,none⟩)])/\w'=W.alloc (.cells #[.map mb] 87):=(callsIn_wide (n:=5)).1 (AnyZI.keys_in J5 Fence.wide 5 trivial rfl mb W)
theorem Oi(B b nn:Nat)(D0:DataW Unit)(R:Value->Option (DataW Unit×List MemPlace))(w:World)(hc:w.cell? ⟨B,0,none⟩=some (.map (some b)))(hown:w.ownsMap Tryz.prog 3 R b nn D0)(hsz:Maps.size D0<=1000000):
  Calls Tryz.prog 191 #[.func (.func 246) #[] #[.pointer (some ⟨B,0,none⟩)]] w fun e w'=>∃(v:Value)(ss:List Int),e=.returned v/\ss.Perm (intKeys D0)/\
   w'.ownsRow w.heap.size 3 1 v ss.length ((ss.mergeSort (fun x y=>decide (x<=y))).map (Value.int .i64))/\(v=.slice none 0 0<->ss=[])/\Below w.heap.size w w':=by
 have hB:B<w.heap.size:=by
  rcases f_ B w.heap.size with h|h
  .exact h
  .simp [World.cell?,jg h]at hc
 have hseq:SeqGives Fence.wide 2 Tryz.prog 246 #[.pointer (some ⟨B,0,none⟩)] encZ (fun ss=>ss.Perm (intKeys D0)) (Maps.size D0) w:=AnyZI.keys_gives (ρ:=Mc) {J5 with} Fence.wide _ trivial rfl (by omega) B b nn D0 w hB hc hown;have cS:=AnyZI.sorted_in abk Fence.wide 5 trivial trivial trivial trivial rfl (by omega) (afm _) (enters_of Tryz.func237 (by kernel_rfl) rfl) 246 #[.pointer (some ⟨B,0,none⟩)] trivial (enters_of Tryz.func246 (by kernel_rfl) rfl) _ _ (by simp only[maxLen];omega) (by omega) _ hseq;change CallsIn _ _ Tryz.prog 191 _ _ _ at cS;refine((callsIn_wide (n:=5)).1 cS).mono ?_;rintro e w' ⟨v,ss,rfl,hS,hrow,hnil,hb⟩;exact⟨v,ss,rfl,hS,hrow,hnil,hb⟩
theorem acA:Lz Tryz.prog 192 (Zk 246):=VQ (fun args w=>enters_of Tryz.func192 (by kernel_rfl) rfl args w) VP
theorem V0:Lz Tryz.prog 191 (Ol 246):=Oj (ti:=3) Tryz.underlying3 (fun args w=>enters_of Tryz.func191 (by kernel_rfl) rfl args w) Oi
open Go Go.Proofs Go.RowKit Go.Maps Go.Sort Go.Shelf Go.Ev
theorem Uh{w:World}{b o:Nat}{v:Value}(h:w.cell? ⟨b,o,none⟩=some v):b<w.heap.size:=by
 rcases f_ b w.heap.size with h1|h1
 .exact h1
 .simp [World.cell?,jg h1]at h
theorem Ux(n:Int):wrap64 n=IntKind.i64.wrap n:=by rw[IntKind.wrap_i64];unfold wrap64;omega
theorem aaC(a b:Int):bits .and .i64 a b=pT .i64 a b:=by rw[p_];rfl
theorem aku(a b:Int):bits .or .i64 a b=CL .i64 a b:=by rw[Fg];rfl
theorem XJ(a b:Int):a/2^min b.toNat 64=pR .i64 a b:=by unfold pR;rw[Int.fdiv_eq_ediv_of_nonneg _ (Int.le_of_lt (Int.pow_pos (by omega)))];rfl
theorem afo(b:Int):IntKind.i64.wrap (2^min b.toNat 64)=pS .i64 1 b:=by unfold pS;rw[Int.one_mul];rfl
set_option maxHeartbeats 1000000 in
set_option maxRecDepth 100000 in
theorem ac9(w:World)(key up sk sw:Int)(c0 c2 c3 c4 c5 c6 c7 c8 c9:Value)(bu bx C:Nat)(cr:Array Value)(tC:TypeId)(h0:0<=sw)
  (hu:w.cell? ⟨bu,0,none⟩=some (.int .i64 up)) (hx:w.cell? ⟨bx,0,none⟩=some (.pointer (some ⟨C,0,none⟩))) (hC:w.heap[C]?=some (.cells cr tC (0,0))) (hsk:cr[33]?=some (.int .i64 sk)):
  Calls Tryz.prog 111 #[.int .i64 key,.agg #[c0,.int .i64 sw,c2,c3,c4,c5,c6,c7,c8,c9],.pointer (some ⟨bu,0,none⟩),.pointer (some ⟨bx,0,none⟩)] w fun e w'=>e=.returned (.bool (!GI up sw))/\w.heap.size<=w'.heap.size/\(∀k,k<w.heap.size->k≠C->w'.heap[k]?=w.heap[k]?)/\
   w'.heap[C]?=some (.cells (bif GI up sw then cr else cr.setIfInBounds 33 (.int .i64 (CL .i64 sk (pS .i64 1 sw)))) tC (0,0))/\w'.os=w.os/\w'.output=w.output/\w'.tape=w.tape:=by
 have hbu:=Uh hu;have hbx:=Uh hx;have hCl:C<w.heap.size:=(bZ.1 hC).1
 go_enter Tryz.func111,Tryz.ntmps111
 go_wp2
 .have h:(bits .and .i64 (up/2^min sw.toNat 64) 1==1)=true:=by assumption
  rw[aaC,XJ]at h;have hU:GI up sw=true:=h;rw[hU]
  go_ret
  refine⟨rfl,by simp,fun k hk _=>Below.heap_alloc _ _ k hk,(Below.heap_alloc _ _ C hCl).trans hC,rfl,rfl,rfl⟩
 .refine wp_region_still_tail 12 (by kernel_rfl) (by kernel_rfl) ?_;obtain⟨W1,hW1⟩:∃W1:World,W1={(w.alloc (.cells #[c0,.int .i64 sw,c2,c3,c4,c5,c6,c7,c8,c9] 42))with drawn:=(w.alloc (.cells #[c0,.int .i64 sw,c2,c3,c4,c5,c6,c7,c8,c9] 42)).drawn+1}:=⟨_,rfl⟩
  rw[<-hW1];have hh:∀k,k<w.heap.size->W1.heap[k]?=w.heap[k]?:=fun k hk=>by rw[hW1];exact Below.heap_alloc _ _ k hk
  have e1:W1.cell? ⟨bx,0,none⟩=some (.pointer (some ⟨C,0,none⟩)):=by rw[<-hx];simp[World.cell?,hh bx hbx]
  have e2:W1.cell? ⟨C,33,none⟩=some (.int .i64 sk):=by simp[World.cell?,hh C hCl,hC,hsk]
  have e3:W1.cell? ⟨w.heap.size,1,none⟩=some (.int .i64 sw):=by rw[hW1];have:=World.alloc_heap_new w (.cells #[c0,.int .i64 sw,c2,c3,c4,c5,c6,c7,c8,c9] 42);simp only[World.cell?];rw[this];rfl
  have hsz:W1.heap.size=w.heap.size+1:=by rw[hW1];simp
  have hio:W1.os=w.os/\W1.output=w.output/\W1.tape=w.tape:=by rw[hW1];exact⟨rfl,rfl,rfl⟩
  have HH:Hid ((∀k,k<w.heap.size->W1.heap[k]?=w.heap[k]?)/\W1.heap.size=w.heap.size+1/\W1.os=w.os/\W1.output=w.output/\W1.tape=w.tape):=⟨hh,hsz,hio⟩
  have e4:W1.heap[C]?=some (.cells cr tC (0,0)):=(hh C hCl).trans hC;have e5:∀i,W1.frozen? ⟨C,i,none⟩=false:=fun i=>by simp[World.frozen?,e4]
  clear hh hsz hio;simp only[List.take_succ_cons,List.take_zero,List.drop_succ_cons,vp];clear hW1
  repeat still_step
  try refine wpStill_nil ?_
  go_wp2
  have h:(bits .and .i64 (up/2^min sw.toNat 64) 1==1)=false:=by assumption
  rw[aaC,XJ]at h;have hU:GI up sw=false:=h;rw[hU]
  go_ret
  obtain⟨hh,hsz,hi1,hi2,hi3⟩:=HH.out;refine⟨rfl,by simp[World.setCell,hsz],fun k hk hne=>(Below.heap_setCell _ _ _ k hne).trans (hh k hk),?_,hi1,hi2,hi3⟩;have e6:wrap64 (2^min sw.toNat 64)=pS .i64 1 sw:=(Ux _).trans (afo sw);rw[aku,e6];simp[World.setCell,Array.getElem?_modify,e4]
open Go Go.Proofs Go.RowKit Go.Maps Go.Sort Go.Shelf Go.Ev
open Go.ChangeMaps (setBlock)
open Go.MapKept (heap_set)
section
variable{α β:Type}{f:β->α->β}
theorem TW(hf:∀s a b,f (f s a) b=f (f s b) a):∀(l:List α)(s:β)(e:α),l.foldl f (f s e)=f (l.foldl f s) e
 |[],_,_=>rfl
 |a::l,s,e=>by rw[mB,mB,<-hf s a e];exact TW hf l _ _
theorem ZH{born:α->Nat}(hf:∀s a b,f (f s a) b=f (f s b) a){e:α}{p:Nat->Bool}(hp:p (born e)=false):∀(l:List α)(s:β),(l.map born).Nodup->e∈l->
  (l.filter fun x=>p (born x)||born x==born e).foldl f s=f ((l.filter fun x=>p (born x)).foldl f s) e:=by
 intro l;induction l with
 |nil=>intro s _ h;cases h
 |cons a l ih=>
  intro s hn he;rw[bN]at hn;obtain⟨h1,h2⟩:=gD.1 hn;rcases aO.1 he with rfl|he
  .have e1:(l.filter fun x=>p (born x)||born x==born e)=l.filter fun x=>p (born x):=by refine mT fun x hx=>?_;have:born x≠born e:=fun h=>h1 (h▸aR.2 ⟨x,hx,rfl⟩);simp[this]
   rw[dN,dN,e1,hp];simp[TW hf]
  .have hne:born a≠born e:=fun h=>h1 (h▸aR.2 ⟨e,he,rfl⟩);rw[dN,dN];have:(born a==born e)=false:=by simpa using hne
   rw[this,Bool.or_false];cases p (born a)
   .simpa using ih s h2 he
   .simpa using ih (f s a) h2 he
end
theorem yX(x:BitVec 64):aW 64 (IntKind.i64.wrap (x.toNat:Int))=x:=by apply BitVec.eq_of_toNat_eq;have:=x.isLt;rw[BitVec.toNat_ofInt,IntKind.wrap_i64];omega
theorem Yv(s a b:Int):CL .i64 (CL .i64 s a) b=CL .i64 (CL .i64 s b) a:=by rw[Fg];unfold Qs;show IntKind.i64.wrap ((aW 64 (IntKind.i64.wrap ((aW 64 s|||aW 64 a).toNat:Int))|||aW 64 b).toNat:Int)=IntKind.i64.wrap ((aW 64 (IntKind.i64.wrap ((aW 64 s|||aW 64 b).toNat:Int))|||aW 64 a).toNat:Int);rw[yX,yX,BitVec.or_assoc,BitVec.or_assoc,BitVec.or_comm (aW 64 a)]
theorem Q1(up:Int)(s:Int)(a b:MapEntry):xN up (xN up s a) b=xN up (xN up s b) a:=by unfold xN;cases zh up a<;>cases zh up b<;>simp[Yv]
theorem ZM{a:Int}:∀{l:List MapEntry}{j:Nat},(∀x∈l,∃b,x.key=.int .i64 b)->(l.map (·.key)).Nodup->(l.map (·.born)).Nodup->∀{e:MapEntry},e∈l->e.key=.int .i64 a->
  ∃i,Instr.findNow (.int .i64) (.int .i64 a) l j=some (some (j+i,e.val))/\l.eraseIdx i=l.filter fun x=>x.born !=e.born:=by
 intro l;induction l with
 |nil=>intro j _ _ _ e h;cases h
 |cons x l ih=>
  intro j hk hn hn' e he hek;rw[bN]at hn hn';obtain⟨h1,h2⟩:=gD.1 hn;obtain⟨h1',h2'⟩:=gD.1 hn';obtain⟨b,hb⟩:=hk x (by simp);by_cases hab:a=b
  .subst hab
   have hxe:x=e:=by
    rcases aO.1 he with h|he
    .exact h.symm
    .exact absurd (aR.2 ⟨e,he,hek.trans hb.symm⟩) h1
   subst hxe;refine⟨0,by simp[Instr.findNow,Instr.sameNow,hb],?_⟩;have e1:(l.filter fun y=>y.born !=x.born)=l:=rO.2 fun y hy=>by have:y.born≠x.born:=fun h=>h1' (aR.2 ⟨y,hy,h⟩);simpa using this
   rw[dN,e1];simp
  .have he':e∈l:=by
    rcases aO.1 he with h|he
    .exact absurd (by rw[h,hb]at hek;cases hek;rfl) hab
    .exact he
   obtain⟨i,h3,h4⟩:=ih (j:=j+1) (fun y hy=>hk y (by simp[hy])) h2 h2' he' hek;refine⟨i+1,?_,?_⟩
   .simp only[Instr.findNow,hb];have:Instr.sameNow (.int .i64) (.int .i64 a) (.int .i64 b)=some false:=by simp[Instr.sameNow,hab]
    rw[this];simpa[Nat.add_assoc,Nat.add_comm 1 i]using h3
   .rw [List.eraseIdx_cons_succ,h4,dN];have:x.born≠e.born:=fun h=>h1' (h▸aR.2 ⟨e,he',rfl⟩);simp[this]
theorem abu{P:Program}{W:World}{t k ty:TypeId}{b c_:Nat}{es:Array MapEntry}{a:Int}{e:MapEntry}(ht:∃el,P.underlying t=some (.map k el))(hk:P.underlying k=some (.int .i64))(hb:W.heap[b]?=some (.map es c_))(hkeys:∀x∈es.toList,∃b,x.key=.int .i64 b)
  (hn:(es.toList.map (·.key)).Nodup) (hn':(es.toList.map (·.born)).Nodup) (he:e∈es.toList) (hek:e.key=.int .i64 a):
  ∃es':Array MapEntry,es'.toList=es.toList.filter (fun x=>x.born !=e.born)/\∀t2,(Builtin.delete_ #[t,t2] ty #[.map (some b),.int .i64 a]).run P W=.ok (.tuple #[]) (setBlock W b (.map es' c_)):=by
 obtain⟨el,ht⟩:=ht;obtain⟨i,h1,h2⟩:=ZM (j:=0) hkeys hn hn' he hek;refine⟨es.eraseIdxIfInBounds i,?_,fun t2=>?_⟩
 .rw [<-h2];simp[Array.toList_eraseIdxIfInBounds]
 .rw [Nat.zero_add]at h1;have hf:=MapKept.run_findKey (w:=W) hk h1;have hc:=MapKept.run_checkKey (w:=W) (k:=.int .i64 a) hk (by simp[MapKept.IsKey]) es.isEmpty 9999;simp[Builtin.delete_,run_underlying ht,m9 hb,hf,hc,qm _ hb,setBlock]
theorem anQ{cs:Array Value}(h:cs.size=10):∃c0 c1 c2 c3 c4 c5 c6 c7 c8 c9,cs= #[c0,c1,c2,c3,c4,c5,c6,c7,c8,c9]:=by
 obtain⟨l⟩:=cs
 match l,h with|[c0,c1,c2,c3,c4,c5,c6,c7,c8,c9],_=>exact⟨_,_,_,_,_,_,_,_,_,_,rfl⟩
section
variable{P:Program}(w:World){ops:Array Oper}{bH:List Oper}{o:Oper}{a:Act}{Q:Exit->Act->World->Prop}
theorem WW(hg:o.guard=none)(m:Operand)(t:TypeId)(hop:o.op=Op.range t m)(k e:TypeId)(ht:P.underlying t=some (.map k e))(b:Nat)(es:Array MapEntry)(c_:Nat)(hm:a.eval m=.map (some b))(hb:w.heap[b]?=some (.map es c_))
  (hK:wpList P ops Q bH (a.put o.dst (.pointer (some ⟨w.heap.size,0,none⟩))) (w.alloc (.mapIter (some b) c_ #[] c_))):wpList P ops Q (o::bH) a w:=by
 refine wpList_plain hg fun K' hK'=>?_;have hrun:=run_range_map (P:=P) w t k e b es c_ ht hb;unfold Oper.wp;simp[execOp,hop,hm,hrun,Result.andThen];exact hK' _ _ hK
theorem aa3(hg:o.guard=none)(it:Operand)(hop:o.op=Op.next it false)(b r since c0 c_:Nat)(seen:Array Nat)(es:Array MapEntry)(hit:a.eval it=.pointer (some ⟨r,0,none⟩))
  (hr:w.heap[r]?=some (.mapIter (some b) since seen c0)) (hb:w.heap[b]?=some (.map es c_)) (hold:∀x∈es.toList,x.born<since) (hsc:since<=c0)
  (hDone:(leftOf es seen).size=0->wpList P ops Q bH (a.put o.dst (.tuple #[.bool false])) w)
  (hMore:∀(e:MapEntry)(W1:World),Hid (e∈es.toList/\seen.contains e.born=false/\W1.heap[r]?=some (.mapIter (some b) since (seen.push e.born) c_)/\(∀k,k≠r->W1.heap[k]?=w.heap[k]?)/\W1.heap.size=w.heap.size/\W1.os=w.os/\W1.output=w.output/\W1.tape=w.tape)->
   wpList P ops Q bH (a.put o.dst (.tuple #[.bool true,e.key,e.val])) W1):
  wpList P ops Q (o::bH) a w:=by
 refine wpList_plain hg fun K' hK'=>?_;unfold Oper.wp;rcases run_next_at (P:=P) w o.type r b since c0 seen es c_ hr hb hold hsc with⟨h0,hrun⟩|⟨e,he,w1,hal,hrun⟩
 .simp [execOp,hop,hit,hrun,Result.andThen];exact hK' _ _ (hDone h0)
 .simp [execOp,hop,hit,hrun,Result.andThen];have hr1:w1.heap[r]?=some (.mapIter (some b) since seen c0):=by rcases hal with rfl|rfl<;>exact hr
  have he2:e∈es.toList/\seen.contains e.born=false:=by unfold leftOf at he;simpa using he
  refine hK' _ _ (hMore e _ ⟨he2.1,he2.2,(heap_set hr1).1,fun k hk=>((heap_set hr1).2 k hk).trans (by rcases hal with rfl|rfl<;>rfl),?_,?_,?_,?_⟩)<;>rcases hal with rfl|rfl<;>first|rfl|simp[setBlock]|simp[setBlock,World.D3]
end
section
variable{P:Program}(w:World){ops:Array Oper}{bH:List Oper}{o:Oper}{a:Act}{Q:Exit->Act->World->Prop}
theorem WV(hg:o.guard=none)(t:TypeId)(p x:Operand)(hop:o.op=Op.store t p x)(hd:o.dst=none)(q:Nat)(cs cr:Array Value)(ty:TypeId)(hp:a.eval p=.pointer (some ⟨q,0,none⟩))(hx:a.eval x=.agg cs)(hs:fh P t=some cs.size)
  (hq:w.heap[q]?=some (.cells cr ty (0,0))) (hsz:cr.size=cs.size) (hone:∀v∈cs.toList,Go.Ev.one v=true)
  (hK:∀W':World,Hid (W'.heap[q]?=some (.cells cs ty (0,0))/\(∀k,k≠q->W'.heap[k]?=w.heap[k]?)/\W'.heap.size=w.heap.size/\W'.os=w.os/\W'.output=w.output/\W'.tape=w.tape)->wpList P ops Q bH a W'):wpList P ops Q (o::bH) a w:=by
 refine wpList_plain hg fun K' hK'=>?_;have ho:uq w q cr:=⟨ty,hq⟩
 have hrun:=MM (P:=P) (w:=w) (t:=t) (b:=q) (cr:=cr) (val:=.agg cs) (p:=[]) (m:=cr.toList) (q:=[]) (by rw[hs];simp[hsz]) ho (by simp) (by simp[Value.cells,hsz]) hone;unfold Oper.wp;have he:(execOp a.eval o).run P w=.ok .skip (w.setRow q cs):=by have:=Ci (P:=P) (ρ:=a.eval) (w':=w.setRow q cs) hop hp (by rw[hx];simpa[Value.cells]using hrun);exact this
 rw[he];have h1:=hK (w.setRow q cs) ⟨?_,fun k hk=>setRow_other w q k _ hk,by simp,rfl,rfl,rfl⟩
 .have h2:=hK' _ _ h1;simpa[Oper.upon,hd,Act.put]using h2
 .have hl:=ho.lt;simp[World.setRow,Array.getElem?_modify,hq]
theorem SM(hg:o.guard=none)(t:TypeId)(p:Operand)(hop:o.op=Op.load t p)(q:Nat)(cs:Array Value)(ty:TypeId)(hp:a.eval p=.pointer (some ⟨q,0,none⟩))(hs:fh P t=some cs.size)(ha:gx P t=some true)(hq:w.heap[q]?=some (.cells cs ty (0,0)))
  (hK:wpList P ops Q bH (a.put o.dst (.agg cs)) w):wpList P ops Q (o::bH) a w:=by
 refine wpList_plain hg fun K' hK'=>?_;have ho:uq w q cs:=⟨ty,hq⟩
 have hrun:=zZ (P:=P) (w:=w) ha hs (b:=q) (o:=0) (c:=cs.toList) ((Fj ho).2 fun i v h=>by simpa using h) (by simp) (by simp);unfold Oper.wp;have he:(execOp a.eval o).run P w=.ok (.value (.agg cs)) w:=by simp[execOp,hop,hp,Instr.loadAt,Instr.sureAddr,hrun,rD]
 rw[he];exact hK' _ _ hK
end
structure QG(w:World)(ms:Array MapEntry)(c_ b C:Nat)(cr:Array Value)(tC:TypeId)(up sk:Int)(es:Array MapEntry)(seen:Array Nat)(c0:Nat)(W:World):Prop where
 map:W.heap[b]?=some (.map es c_)
 it:W.heap[w.heap.size]?=some (.mapIter (some b) c_ seen c0)
 c0:c_<=c0
 es:es.toList=ms.toList.filter (fun x=>!seen.contains x.born||zh up x)
 cel:W.heap[C]?=some (.cells (cr.setIfInBounds 33 (.int .i64 ((ms.toList.filter (fun x=>seen.contains x.born)).foldl (xN up) sk))) tC (0,0))
 old:∀k,k<w.heap.size->k≠b->k≠C->W.heap[k]?=w.heap[k]?
 size:w.heap.size<W.heap.size
 os:W.os=w.os
 output:W.output=w.output
 tape:W.tape=w.tape
theorem QG.iT{w wr W:World}{ms es es':Array MapEntry}{c_ b C:Nat}{cr:Array Value}{tC:TypeId}{up sk:Int}{seen:Array Nat}{c0:Nat}(hD:QG w ms c_ b C cr tC up sk es seen c0 wr)(hB:(ms.toList.map (·.born)).Nodup){e:MapEntry}(he:e∈ms.toList)(hes:e∈es.toList)
  (hns:seen.contains e.born=false) (hes':es'.toList=es.toList.filter fun x=>zh up e||x.born !=e.born) (hmap:W.heap[b]?=some (.map es' c_)) (hit:W.heap[w.heap.size]?=some (.mapIter (some b) c_ (seen.push e.born) c_))
  (hcel:W.heap[C]?=some (.cells (cr.setIfInBounds 33 (.int .i64 (xN up ((ms.toList.filter (fun x=>seen.contains x.born)).foldl (xN up) sk) e))) tC (0,0))) (hold:∀k,k<w.heap.size->k≠b->k≠C->W.heap[k]?=wr.heap[k]?) (hsize:wr.heap.size<=W.heap.size)
  (h1:W.os=w.os) (h2:W.output=w.output) (h3:W.tape=w.tape):
  (∃(es:Array MapEntry)(seen:Array Nat)(c0:Nat),QG w ms c_ b C cr tC up sk es seen c0 W)/\W.rangeLeft b w.heap.size<wr.rangeLeft b w.heap.size:=by
 have hcon:∀n,(seen.push e.born).contains n=(seen.contains n||n==e.born):=fun n=>contains_push _ _ _;have hpw:=hB
 have huniq:∀x∈ms.toList,x.born=e.born->x=e:=fun x hx hb=>by
  have:∀l:List MapEntry,(l.map (·.born)).Nodup->x∈l->e∈l->x=e:=by
   intro l;induction l with
   |nil=>intro _ h;cases h
   |cons y l ih=>
    intro hn h4 h5;rw[bN]at hn;obtain⟨n1,n2⟩:=gD.1 hn;rcases aO.1 h4 with rfl|h4<;>rcases aO.1 h5 with h5|h5
    .exact h5.symm
    .exact absurd (aR.2 ⟨e,h5,hb.symm⟩) n1
    .exact absurd (aR.2 ⟨x,h4,hb.trans (by rw[h5])⟩) n1
    .exact ih n2 h4 h5
  exact this _ hB hx he
 refine⟨⟨es',seen.push e.born,c_,hmap,hit,aw _,?_,?_,fun k a b c=>(hold k a b c).trans (hD.old k a b c),Nat.lt_of_lt_of_le hD.size hsize,h1,h2,h3⟩,?_⟩
 .rw [hes',hD.es,List.filter_filter];refine mT fun x hx=>?_;rw[hcon];by_cases hb:x.born=e.born
  .obtain rfl:=huniq x hx hb;rw[hns];simp
  .have:(x.born==e.born)=false:=by simpa using hb
   rw[this];simp[hb]
 .rw [hcel];congr 5;have:=ZH (born:=(·.born)) (f:=xN up) (Q1 up) (e:=e) (p:=fun n=>seen.contains n) hns ms.toList sk hB he;rw[<-this];congr 1;exact mT fun x hx=>(hcon _).symm
 .unfold World.rangeLeft;rw[hmap,hit,hD.map,hD.it];have hsh:=left_shrinks es seen e (by unfold leftOf;rw[Array.mem_toList_iff];exact Array.mem_filter.2 ⟨by simpa using hes,by rw[hns];rfl⟩)
  have hle:(leftOf es' (seen.push e.born)).size<=(leftOf es (seen.push e.born)).size:=by
   unfold leftOf;have key:∀(A:Array MapEntry)(p:MapEntry->Bool),(A.filter p).size=(A.toList.filter p).length:=fun A p=>by rw[<-gJ,Array.toList_filter]
   rw[key,key,hes',List.filter_filter];refine List.Sublist.length_le ?_;rw[show(es.toList.filter fun a=>(!(seen.push e.born).contains a.born)&&(zh up e||a.born !=e.born))=(es.toList.filter fun a=>!(seen.push e.born).contains a.born).filter fun a=>zh up e||a.born !=e.born by rw[List.filter_filter];exact mT fun x _=>by rw[Bool.and_comm]];exact rN
  exact Nat.lt_of_le_of_lt hle hsh
set_option maxHeartbeats 4000000 in
set_option maxRecDepth 100000 in
theorem Z5:Uu Tryz.prog 110 111 33 10:=by
 intro w ms c_ b bu bx C cr tC up sk hb hu hx hC hsk hne1 hne2 hmsg hkeys hborn hlt;have hbl:b<w.heap.size:=(bZ.1 hb).1;have hbu:=Uh hu;have hbx:=Uh hx;have hCl:C<w.heap.size:=(bZ.1 hC).1;have hbC:b≠C:=fun e=>by rw[e,hC]at hb;cases hb
 have hbub:bu≠b:=fun e=>by simp[World.cell?,e,hb]at hu
 have hbxb:bx≠b:=fun e=>by simp[World.cell?,e,hb]at hx
 have HM:Hid (∀x∈ms.toList,agR 10 x):=hmsg;have HK:Hid ((ms.toList.map (·.key)).Nodup):=hkeys;have HB:Hid ((ms.toList.map (·.born)).Nodup):=hborn;have HL:Hid (∀x∈ms.toList,x.born<c_):=hlt;have HU:Hid (w.cell? ⟨bu,0,none⟩=some (.int .i64 up)):=hu;have HX:Hid (w.cell? ⟨bx,0,none⟩=some (.pointer (some ⟨C,0,none⟩))):=hx;have HC:Hid (w.heap[C]?=some (.cells cr tC (0,0))):=hC;have HS:Hid (cr[33]?=some (.int .i64 sk)):=hsk;clear hmsg hkeys hborn hlt hu hx hC hsk;have e111:∀args w,(callFunc 111 args).run Tryz.prog w=.ok (.enter 111 args) w:=fun args w=>enters_of Tryz.func111 (by kernel_rfl) rfl args w
 go_enter Tryz.func110,Tryz.ntmps110
 go_wp2_with (first
  |(at_range;refine WW _ rfl _ 87 rfl 3 42 Tryz.underlying87 b ms c_ rfl hb ?_)
  |go_in)
 go_frame
 go_loopw [8] (fun _ wr=>∃(es:Array MapEntry)(seen:Array Nat)(c0:Nat),QG w ms c_ b C cr tC up sk es seen c0 wr) (fun _ wr=>wr.rangeLeft b w.heap.size)
 case atStart=>
  refine⟨ms, #[],c_,(Below.heap_alloc _ _ b hbl).trans hb,World.alloc_heap_new _ _,aw _,?_,?_,fun k hk _ _=>Below.heap_alloc _ _ k hk,by simp,rfl,rfl,rfl⟩
  .exact (rO.2 fun x _=>by simp).symm
  .rw [Below.heap_alloc _ _ C hCl,HC.out];have e:(ms.toList.filter fun x=>(#[]:Array Nat).contains x.born)=[]:=by simp
   rw[e,List.foldl_nil];have h3:=HS.out;congr 2;apply Array.ext_getElem?;intro i;rw[Array.getElem?_setIfInBounds];split
   .rename_i h;subst h;split
    .exact h3
    .rename_i h;rw[h3];simp_all
   .rfl
 case round=>
  obtain⟨es,seen,c0,hD⟩:=hrel;have hold:∀x∈es.toList,x.born<c_:=fun x hx=>by rw[hD.es]at hx;exact HL.out x (dy.1 hx).1
  have HO:Hid (∀x∈es.toList,x.born<c_):=hold;have HD:Hid (QG w ms c_ b C cr tC up sk es seen c0 wr):=hD;clear hold hD
  go_wp2_with (first
   |(at_next;refine aa3 _ rfl _ rfl b w.heap.size c_ c0 c_ seen es rfl HD.out.it HD.out.map HO.out HD.out.c0 ?_ ?_)
   |go_in)
  .intro h0;have H0:Hid (leftOf es seen= #[]):=h0;clear h0
   go_wp2
   go_end0
   have hD:=HD.out
   have hall:∀x∈ms.toList,seen.contains x.born=false->False:=fun x hx hs=>by
    have hxe:x∈es.toList:=by rw[hD.es];exact dy.2 ⟨hx,by rw[hs];rfl⟩
    have:x∈leftOf es seen:=by unfold leftOf;exact Array.mem_filter.2 ⟨by simpa using hxe,by rw[hs];rfl⟩
    rw[H0.out]at this;simp at this
   have hall2:∀x∈ms.toList,seen.contains x.born=true:=fun x hx=>by
    cases h:seen.contains x.born
    .exact (hall x hx h).elim
    .rfl
   refine⟨rfl,es,?_,hD.map,?_,hD.old,Nat.le_of_lt hD.size,hD.os,hD.output,hD.tape⟩
   .rw [hD.es];exact mT fun x hx=>by rw[hall2 x hx];rfl
   .have e:(ms.toList.filter fun x=>seen.contains x.born)=ms.toList:=rO.2 hall2;rw[hD.cel,e]
  .intro e W1 HW;have hD:=HD.out;obtain⟨hes0,hns0,hit1,hoth1,hsz1,hos1,hou1,hta1⟩:=HW.out;have hes:e∈es.toList:=by simpa using hes0
   have hns:seen.contains e.born=false:=by simpa using hns0
   clear hes0 hns0;have hem:e∈ms.toList:=by rw[hD.es]at hes;exact(dy.1 hes).1
   obtain⟨⟨k0,hek,_,_⟩,cs,hev,hcs,hone,sw,hsw,hsw0⟩:=HM.out e hem;obtain⟨c0',c1',c2,c3,c4,c5,c6,c7,c8,c9,rfl⟩:=anQ hcs;obtain rfl:c1'=.int .i64 sw:=by simpa using hsw
   have hesub:es.toList.Sublist ms.toList:=by rw[hD.es];exact rN
   have hbn:(es.toList.map (·.born)).Nodup:=(hesub.map _).nodup HB.out;have hkn:(es.toList.map (·.key)).Nodup:=(hesub.map _).nodup HK.out;have hen:(Instr.entry (.pointer (some ⟨w.heap.size,0,none⟩))).run Tryz.prog W1=.ok (.tuple #[.int .i64 k0,.agg #[c0',.int .i64 sw,c2,c3,c4,c5,c6,c7,c8,c9]]) W1:=by rw[<-hek,<-hev];exact run_entry_at (P:=Tryz.prog) W1 w.heap.size b c_ seen es c_ e hit1 ((hoth1 b (by omega)).trans hD.map) hes hbn
   have HF:Hid (e∈ms.toList/\e∈es.toList/\seen.contains e.born=false/\e.key=.int .i64 k0/\swR e=sw/\0<=sw/\(∀v∈(#[c0',.int .i64 sw,c2,c3,c4,c5,c6,c7,c8,c9]:Array Value).toList,Go.Ev.one v=true)/\(es.toList.map (·.born)).Nodup/\(es.toList.map (·.key)).Nodup/\es.toList.Sublist ms.toList):=⟨hem,hes,hns,hek,by simp[swR,hev],hsw0,hone,hbn,hkn,hesub⟩
   rw[hek,hev];clear hD hes hns hit1 hoth1 hsz1 hos1 hou1 hta1 hem hek hev hone hsw hsw0 hcs hesub hbn hkn
   go_wp2_with (first
    |(refine WV _ rfl 42 _ _ rfl rfl W1.heap.size _ _ 42 rfl rfl (by kernel_rfl) (World.alloc_heap_new _ _) rfl HF.out.2.2.2.2.2.2.1 ?_)
    |go_in)
   intro W3 HW3;have hold3:∀k,k<wr.heap.size->k≠w.heap.size->W3.heap[k]?=wr.heap[k]?:=fun k hk hne=>by rw[HW3.out.2.1 k (by have:=HW.out.2.2.2.2.1;omega),Below.heap_alloc _ _ k (by have:=HW.out.2.2.2.2.1;omega)];exact HW.out.2.2.2.1 k hne
   have hsz3:W3.heap.size=wr.heap.size+1:=by rw[HW3.out.2.2.1];simp[HW.out.2.2.2.2.1]
   have hlt0:=HD.out.size
   have hcl:=ac9 W3 k0 up ((ms.toList.filter (fun x=>seen.contains x.born)).foldl (xN up) sk) sw c0' c2 c3 c4 c5 c6 c7 c8 c9 bu bx C (cr.setIfInBounds 33 (.int .i64 ((ms.toList.filter (fun x=>seen.contains x.born)).foldl (xN up) sk))) tC HF.out.2.2.2.2.2.1
    (by rw[<-HU.out];simp only[World.cell?];rw[hold3 bu (by omega) (by omega),HD.out.old bu hbu hbub hne1])
    (by rw[<-HX.out];simp only[World.cell?];rw[hold3 bx (by omega) (by omega),HD.out.old bx hbx hbxb hne2])
    ((hold3 C (by omega) (by omega)).trans HD.out.cel) (by have:=HS.out;have h33:33<cr.size:=(bZ.1 this).1;simp[h33])
   have HO3:Hid ((∀k,k<wr.heap.size->k≠w.heap.size->W3.heap[k]?=wr.heap[k]?)/\W3.heap.size=wr.heap.size+1/\W3.heap[w.heap.size]?=some (.mapIter (some b) c_ (seen.push e.born) c_)/\W3.os=w.os/\W3.output=w.output/\W3.tape=w.tape):=by
    refine⟨hold3,hsz3,?_,?_,?_,?_⟩
    .rw [HW3.out.2.1 _ (by have:=HW.out.2.2.2.2.1;omega),Below.heap_alloc _ _ _ (by have:=HW.out.2.2.2.2.1;omega)];exact HW.out.2.2.1
    .exact HW3.out.2.2.2.1.trans (HW.out.2.2.2.2.2.1.trans HD.out.os)
    .exact HW3.out.2.2.2.2.1.trans (HW.out.2.2.2.2.2.2.1.trans HD.out.output)
    .exact HW3.out.2.2.2.2.2.trans (HW.out.2.2.2.2.2.2.2.trans HD.out.tape)
   clear hold3 hsz3;cases hU:GI up sw<;>rw[hU]at hcl
   .have HU0:Hid (GI up sw=false):=hU;clear hU
    go_wp2_with (first
     |(refine SM _ rfl 42 _ rfl W1.heap.size _ 42 rfl (by kernel_rfl) (by kernel_rfl) HW3.out.1 ?_)
     |(go_at_fn 111;refine hcl.mono ?_;rintro _ W4 ⟨rfl,HW4⟩)
     |go_in)
    obtain⟨hem,hes,hns,hek,hsw,_,_,hbn,hkn,hsub⟩:=HF.out;obtain⟨o1,o2,o3,o4,o5,o6⟩:=HO3.out;obtain⟨g1,g2,g3,g4,g5,g6⟩:=HW4;have hb4:W4.heap[b]?=some (.map es c_):=(g2 b (by omega) hbC).trans ((o1 b (by omega) (by omega)).trans HD.out.map);obtain⟨es',he',hrd⟩:=abu (P:=Tryz.prog) (W:=W4) (t:=87) (k:=3) (ty:=0) ⟨42,Tryz.underlying87⟩ Tryz.underlying3 hb4 (fun x hx=>by obtain⟨⟨a,h,_⟩,_⟩:=HM.out x (hsub.subset hx);exact⟨a,h⟩) hkn hbn hes hek;rw[hrd 3];have hk:zh up e=false:=by unfold zh;rw[hsw];exact HU0.out
    have hfin:=HD.out.iT (W:=setBlock W4 b (.map es' c_)) HB.out hem hes hns (by rw[he',hk];rfl) (heap_set hb4).1 (((heap_set hb4).2 _ (by omega)).trans ((g2 _ (by omega) (by omega)).trans o3))
     (((heap_set hb4).2 _ (Ne.symm hbC)).trans (by rw[g3];unfold xN;rw[hk,hsw];simp)) (fun k a b c=>((heap_set hb4).2 _ b).trans ((g2 k (by omega) c).trans (o1 k (by omega) (by omega)))) (by simp[setBlock];omega) (g4.trans o4) (g5.trans o5) (g6.trans o6)
    clear g1 g2 g3 g4 g5 g6 o1 o2 o3 o4 o5 o6 hem hes hns hek hsw hbn hkn hsub he' hk hb4 hrd;have HFin:Hid _:=hfin;clear hfin
    go_wp2
    exact HFin.out
   .have HU0:Hid (GI up sw=true):=hU;clear hU
    go_wp2_with (first
     |(refine SM _ rfl 42 _ rfl W1.heap.size _ 42 rfl (by kernel_rfl) (by kernel_rfl) HW3.out.1 ?_)
     |(go_at_fn 111;refine hcl.mono ?_;rintro _ W4 ⟨rfl,HW4⟩)
     |go_in)
    obtain⟨hem,hes,hns,hek,hsw,_,_,hbn,hkn,hsub⟩:=HF.out;obtain⟨o1,o2,o3,o4,o5,o6⟩:=HO3.out;obtain⟨g1,g2,g3,g4,g5,g6⟩:=HW4;have hk:zh up e=true:=by unfold zh;rw[hsw];exact HU0.out
    exact HD.out.iT (W:=W4) HB.out hem hes hns (by rw[hk];exact(rO.2 fun x _=>rfl).symm) ((g2 b (by omega) hbC).trans ((o1 b (by omega) (by omega)).trans HD.out.map)) ((g2 _ (by omega) (by omega)).trans o3) (by rw[g3];unfold xN;rw[hk];rfl)
     (fun k a b c=>(g2 k (by omega) c).trans (o1 k (by omega) (by omega))) (by omega) (g4.trans o4) (g5.trans o5) (g6.trans o6)
open Go Go.Proofs Go.Ev
def afZ:Ty:=(.pr (.i .i64) (.pr (.i .i64) (.pr (.i .i64) (.pr (.i .i64) (.pr (.i .i64) (.pr (.i .i64) (.pr (.i .i64) (.sl (.st (.pr (.i .i64) (.pr (.st (.pr (.i .i64) (.pr (.st (.pr (.i .i64) (.pr (.ar 4 (.i .i64)) (.ar 4 (.i .i64))))) (.sl (.st (.pr (.i .i64) (.pr (.i .i64) (.i .i64)))))))) .b)))))))))))
def agr:Ty:=(.st (.pr (.st (.pr (.st (.pr (.i .i64) (.pr (.sl (.st (.pr (.i .i64) (.pr (.i .i64) (.pr (.i .i64) (.pr (.i .i64) (.pr (.i .i64) (.i .i64)))))))) (.sl (.st (.pr (.i .i64) (.i .i64))))))) (.pr (.sl (.sl (.i .u64))) (.pr (.sl (.i .i64)) (.pr (.i .i64) (.pr (.i .i64) (.pr (.i .i64) (.pr (.i .i64) (.pr (.i .i64) (.i .i64)))))))))) (.pr (.sl (.sl (.sl (.i .i64)))) (.pr (.sl (.st (.pr (.i .i64) (.pr (.i .i64) (.pr (.i .i64) (.i .i64)))))) (.pr (.st (.pr (.i .i64) (.pr (.i .i64) (.pr .b (.pr (.i .i64) (.pr (.i .i64) (.pr (.i .i64) (.pr .b (.pr .b (.i .i64)))))))))) (.st (.pr (.i .i64) (.pr (.st (.pr (.sl (.st (.pr (.i .i64) (.pr (.i .i64) (.pr (.i .i64) (.i .i64)))))) (.pr (.sl (.st (.pr (.i .i64) (.pr (.i .i64) (.sl (.i .i64)))))) (.pr (.i .i64) (.pr (.i .i64) (.pr (.i .i64) (.i .i64))))))) (.pr (.i .i64) (.pr (.mp (.i .i64) (Ng afZ)) (.pr (.i .i64) (.pr (.i .i64) (.pr (.i .i64) (.pr (.i .i64) (.pr (.ar 8 (.st (.pr .b (.pr (.st (.pr (.i .i64) (.i .i64))) (.i .i64))))) (.pr (.ar 8 (.i .i64)) (.pr (.sl (Ng afZ)) (.sl (.st (.pr (.i .i64) (.pr (.i .i64) (.pr (.i .i64) (.pr (.i .i64) (.pr (.i .i64) (.i .i64)))))))))))))))))))))))))
theorem agb:Lz Tryz.prog 110 (aeC 111 agr afZ [.fd 4,.fd 6]):=Z6 (tX:=agr) (p:=[.fd 4,.fd 6]) (fun args w=>enters_of Tryz.func110 (by kernel_rfl) rfl args w) (show Vv agr [.fd 4,.fd 6]from⟨_,rfl,_,rfl,trivial⟩) rfl rfl Z5
open Go Go.Proofs Go.RowKit Go.Maps Go.Sort Go.Shelf Go.Ev
theorem Dt(W:World)(cs:Array Value)(t:TypeId)(i:Nat):(W.alloc (.cells cs t)).cell? ⟨W.heap.size,i,none⟩=cs[i]?:=by simp only[World.cell?];rw[World.alloc_heap_new];rfl
theorem aah(W:World)(o:Obj)(b i:Nat)(h:b<W.heap.size):(W.alloc o).cell? ⟨b,i,none⟩=W.cell? ⟨b,i,none⟩:=by simp only[World.cell?];rw[Below.heap_alloc _ _ _ h]
theorem ann(w:World)(o1 o2 o3:Obj):({((w.alloc o1).alloc o2)with drawn:=((w.alloc o1).alloc o2).drawn+1}:World).alloc o3=grow (w.drewN 1) #[o1,o2,o3]:=by
 have e:((w.heap.push o1).push o2).push o3=w.heap++ #[o1,o2,o3]:=by apply Array.ext';rw[Array.toList_append,qd,qd,qd];simp only[List.append_assoc];rfl
 unfold grow;rw[show(w.drewN 1).heap=w.heap from rfl,<-e];rfl
def zO(a b:Int):Int:=if a<b then-1 else if a>b then 1 else 0
theorem VT(x:Int)(w:World):Calls Tryz.prog 261 #[.int .i64 x] w fun e w'=>e=.returned (.bool false)/\w'=w:=by
 go_enter Tryz.func261,Tryz.ntmps261
 go_wp2
 go_ret
 exact⟨rfl,rfl⟩
theorem Ds(a b:Int)(w:World):Calls Tryz.prog 214 #[.int .i64 a,.int .i64 b] w fun e w'=>e=.returned (.int .i64 (zO a b))/\w'=w:=by
 have e261:∀args w,(callFunc 261 args).run Tryz.prog w=.ok (.enter 261 args) w:=fun args w=>enters_of Tryz.func261 (by kernel_rfl) rfl args w
 go_enter Tryz.func214,Tryz.ntmps214
 go_wp2_with (first
  |(go_at_call 261;refine(VT _ _).mono ?_;rintro _ _ ⟨rfl,rfl⟩)
  |go_in)
 all_goals go_ret
 all_goals exact⟨congrArg (fun x=>Ending.returned (.int .i64 x)) (by unfold zO;split<;>(try split)<;>omega),rfl⟩
def orV(a b c:Int):Int:=if a≠0 then a else if b≠0 then b else c
set_option maxRecDepth 100000 in
theorem afG(a b c:Int)(B:Nat)(w:World)(h0:w.cell? ⟨B,0,none⟩=some (.int .i64 a))(h1:w.cell? ⟨B,1,none⟩=some (.int .i64 b))(h2:w.cell? ⟨B,2,none⟩=some (.int .i64 c)):
  Calls Tryz.prog 273 #[.slice (some ⟨B,0,none⟩) 3 3] w fun e w'=>e=.returned (.int .i64 (orV a b c))/\w'=w:=by
 have hr:orV a b c=if a=0 then(if b=0 then c else b)else a:=by unfold orV;split<;>simp_all
 rw[hr];by_cases ha:a=0
 .subst ha;by_cases hb:b=0
  .subst hb;by_cases hc:c=0
   .subst hc
    go_enter Tryz.func273,Tryz.ntmps273
    go_wp2
    refine wp_loop_rounds 4 ?_
    iterate 4 (rw[rounds_succ];go_wp2)
    go_ret
    exact⟨rfl,rfl⟩
   .go_enter Tryz.func273,Tryz.ntmps273
    go_wp2
    refine wp_loop_rounds 4 ?_
    iterate 3 (rw[rounds_succ];go_wp2)
    go_ret
    exact⟨rfl,rfl⟩
  .go_enter Tryz.func273,Tryz.ntmps273
   go_wp2
   refine wp_loop_rounds 4 ?_
   iterate 2 (rw[rounds_succ];go_wp2)
   go_ret
   exact⟨rfl,rfl⟩
 .go_enter Tryz.func273,Tryz.ntmps273
  go_wp2
  refine wp_loop_rounds 4 ?_
  iterate 1 (rw[rounds_succ];go_wp2)
  go_ret
  exact⟨rfl,rfl⟩
def apV(x3 x0 x1 y3 y0 y1:Int):Int:=orV (zO x3 y3) (zO x0 y0) (zO x1 y1)
set_option maxHeartbeats 1000000 in
set_option maxRecDepth 100000 in
theorem Vj(x0 x1 x2 x3 y0 y1 y2 y3:Int)(w:World):Calls Tryz.prog 235 #[.agg #[.int .i64 x0,.int .i64 x1,.int .i64 x2,.int .i64 x3],.agg #[.int .i64 y0,.int .i64 y1,.int .i64 y2,.int .i64 y3]] w fun e w'=>e=.returned (.int .i64 (apV x3 x0 x1 y3 y0 y1))/\∃q os,w'=grow (w.drewN q) os:=by
 have e214:∀args w,(callFunc 214 args).run Tryz.prog w=.ok (.enter 214 args) w:=fun args w=>enters_of Tryz.func214 (by kernel_rfl) rfl args w;have e273:∀args w,(callFunc 273 args).run Tryz.prog w=.ok (.enter 273 args) w:=fun args w=>enters_of Tryz.func273 (by kernel_rfl) rfl args w
 go_enter Tryz.func235,Tryz.ntmps235
 go_wp2
 refine wp_region_still_tail 15 (by kernel_rfl) (by kernel_rfl) ?_;obtain⟨W1,hW1⟩:∃W1:World,W1={((w.alloc (.cells #[.int .i64 x0,.int .i64 x1,.int .i64 x2,.int .i64 x3] 232)).alloc (.cells #[.int .i64 y0,.int .i64 y1,.int .i64 y2,.int .i64 y3] 232))with drawn:=((w.alloc (.cells #[.int .i64 x0,.int .i64 x1,.int .i64 x2,.int .i64 x3] 232)).alloc (.cells #[.int .i64 y0,.int .i64 y1,.int .i64 y2,.int .i64 y3] 232)).drawn+1}:=⟨_,rfl⟩
 rw[<-hW1];have hx:∀i,W1.cell? ⟨w.heap.size,i,none⟩=(#[.int .i64 x0,.int .i64 x1,.int .i64 x2,.int .i64 x3]:Array Value)[i]?:=fun i=>by rw[hW1];exact(aah (w.alloc (.cells #[.int .i64 x0,.int .i64 x1,.int .i64 x2,.int .i64 x3] 232)) _ _ i (by simp)).trans (Dt _ _ _ _)
 have hy:∀i,W1.cell? ⟨w.heap.size+1,i,none⟩=(#[.int .i64 y0,.int .i64 y1,.int .i64 y2,.int .i64 y3]:Array Value)[i]?:=fun i=>by rw[hW1];have:=Dt (w.alloc (.cells #[.int .i64 x0,.int .i64 x1,.int .i64 x2,.int .i64 x3] 232)) #[.int .i64 y0,.int .i64 y1,.int .i64 y2,.int .i64 y3] 232 i;rw[World.size_alloc]at this;exact this
 have a0:W1.cell? ⟨w.heap.size,0,none⟩=some (.int .i64 x0):=hx 0;have a1:W1.cell? ⟨w.heap.size,1,none⟩=some (.int .i64 x1):=hx 1;have a3:W1.cell? ⟨w.heap.size,3,none⟩=some (.int .i64 x3):=hx 3;have b0:W1.cell? ⟨w.heap.size+1,0,none⟩=some (.int .i64 y0):=hy 0;have b1:W1.cell? ⟨w.heap.size+1,1,none⟩=some (.int .i64 y1):=hy 1;have b3:W1.cell? ⟨w.heap.size+1,3,none⟩=some (.int .i64 y3):=hy 3;have HW1:Hid (W1=_):=hW1;clear hx hy hW1;simp only[List.take_succ_cons,List.take_zero,List.drop_succ_cons,vp]
 iterate 4 still_step
 still_call (Ds _ _ _)
 iterate 4 still_step
 still_call (Ds _ _ _)
 iterate 4 still_step
 still_call (Ds _ _ _)
 refine wpStill_nil ?_
 go_wp2_with (first
  |(go_at_call 273;refine(afG (zO x3 y3) (zO x0 y0) (zO x1 y1) W1.heap.size _ (Dt _ _ _ _) (Dt _ _ _ _) (Dt _ _ _ _)).mono ?_;rintro _ _ ⟨rfl,rfl⟩)
  |go_in)
 go_ret
 refine⟨rfl,1, #[.cells #[.int .i64 x0,.int .i64 x1,.int .i64 x2,.int .i64 x3] 232,.cells #[.int .i64 y0,.int .i64 y1,.int .i64 y2,.int .i64 y3] 232,.cells #[.int .i64 (zO x3 y3),.int .i64 (zO x0 y0),.int .i64 (zO x1 y1)] 3],?_⟩;rw[HW1.out];exact ann w _ _ _
open Go Go.Proofs Go.Shelf
def Om:vB:=⟨fun|6=>234|15=>260|14=>272|28=>294|29=>295|20=>303|21=>304|22=>305|23=>306|24=>307|25=>308|26=>309|27=>310|46=>334|47=>327|48=>328|49=>335|50=>336|57=>343|n=>n,fun|22=>81|24=>232|25=>302|3=>3|39=>223|0=>0|53=>318|55=>159|4=>4|46=>345|45=>344|50=>312|5=>5|9=>9|66=>369|70=>258|76=>379|77=>380|n=>n,fun|n=>n⟩
theorem SO:Go.Proofs.SlLaysF0.n6 Tryz.prog Om:={
 mixed:=by kernel_rfl
 f6:=⟨Tryz.f234.name,by decide,Tryz.func234.trans (congrArg some (by kernel_rfl))⟩
 f14:=⟨Tryz.f272.name,by decide,Tryz.func272.trans (congrArg some (by kernel_rfl))⟩
 f15:=Tryz.func260.trans (congrArg some (by kernel_rfl))
 f20:=⟨Tryz.f303.name,by decide,Tryz.func303.trans (congrArg some (by kernel_rfl))⟩
 f21:=⟨Tryz.f304.name,by decide,Tryz.func304.trans (congrArg some (by kernel_rfl))⟩
 f22:=⟨Tryz.f305.name,by decide,Tryz.func305.trans (congrArg some (by kernel_rfl))⟩
 f23:=⟨Tryz.f306.name,by decide,Tryz.func306.trans (congrArg some (by kernel_rfl))⟩
 f24:=⟨Tryz.f307.name,by decide,Tryz.func307.trans (congrArg some (by kernel_rfl))⟩
 f25:=⟨Tryz.f308.name,by decide,Tryz.func308.trans (congrArg some (by kernel_rfl))⟩
 f26:=⟨Tryz.f309.name,by decide,Tryz.func309.trans (congrArg some (by kernel_rfl))⟩
 f27:=⟨Tryz.f310.name,by decide,Tryz.func310.trans (congrArg some (by kernel_rfl))⟩
 f28:=Tryz.func294.trans (congrArg some (by kernel_rfl))
 f29:=Tryz.func295.trans (congrArg some (by kernel_rfl))
 f46:=⟨Tryz.f334.name,by decide,Tryz.func334.trans (congrArg some (by kernel_rfl))⟩
 f47:=Tryz.func327.trans (congrArg some (by kernel_rfl))
 f48:=Tryz.func328.trans (congrArg some (by kernel_rfl))
 f49:=⟨Tryz.f335.name,by decide,Tryz.func335.trans (congrArg some (by kernel_rfl))⟩
 f50:=⟨Tryz.f336.name,by decide,Tryz.func336.trans (congrArg some (by kernel_rfl))⟩
 f57:=⟨Tryz.f343.name,by decide,Tryz.func343.trans (congrArg some (by kernel_rfl))⟩
 t0:=Tryz.underlying0
 a0:=Tryz.isAgg0
 z0:=Tryz.sizeOf0
 v0:=Tryz.zeroValue0
 t3:=Tryz.underlying3
 a3:=Tryz.isAgg3
 z3:=Tryz.sizeOf3
 v3:=Tryz.zeroValue3
 t4:=Tryz.underlying4
 a4:=Tryz.isAgg4
 z4:=Tryz.sizeOf4
 v4:=Tryz.zeroValue4
 t5:=Tryz.underlying5
 a5:=Tryz.isAgg5
 z5:=Tryz.sizeOf5
 v5:=Tryz.zeroValue5
 t9:=Tryz.underlying9
 a9:=Tryz.isAgg9
 z9:=Tryz.sizeOf9
 v9:=Tryz.zeroValue9
 t22:=Tryz.underlying81
 a22:=Tryz.isAgg81
 z22:=Tryz.sizeOf81
 v22:=Tryz.zeroValue81
 t25:=Tryz.underlying302
 a25:=Tryz.isAgg302
 z25:=Tryz.sizeOf302
 v25:=Tryz.zeroValue302
 t39:=Tryz.underlying223
 a39:=Tryz.isAgg223
 z39:=Tryz.sizeOf223
 v39:=Tryz.zeroValue223
 t45:=Tryz.underlying344
 a45:=Tryz.isAgg344
 z45:=Tryz.sizeOf344
 v45:=Tryz.zeroValue344
 t46:=Tryz.underlying345
 a46:=Tryz.isAgg345
 z46:=Tryz.sizeOf345
 v46:=Tryz.zeroValue345
 t50:=Tryz.underlying312
 a50:=Tryz.isAgg312
 z50:=Tryz.sizeOf312
 v50:=Tryz.zeroValue312
 t53:=Tryz.underlying318
 a53:=Tryz.isAgg318
 z53:=Tryz.sizeOf318
 v53:=Tryz.zeroValue318
 t55:=Tryz.underlying159
 a55:=Tryz.isAgg159
 z55:=Tryz.sizeOf159
 v55:=Tryz.zeroValue159
 t66:=Tryz.underlying369
 a66:=Tryz.isAgg369
 z66:=Tryz.sizeOf369
 v66:=Tryz.zeroValue369
 t70:=Tryz.underlying258
 a70:=Tryz.isAgg258
 z70:=Tryz.sizeOf258
 v70:=Tryz.zeroValue258
 t76:=Tryz.underlying379
 a76:=Tryz.isAgg379
 z76:=Tryz.sizeOf379
 v76:=Tryz.zeroValue379
 t77:=Tryz.underlying380
 a77:=Tryz.isAgg380
 z77:=Tryz.sizeOf380
 v77:=Tryz.zeroValue380}
def Q0:vB:=⟨fun|189=>237|125=>260|257=>274|128=>294|129=>295|294=>311|295=>312|296=>313|297=>314|298=>315|299=>316|216=>317|300=>318|301=>319|328=>337|329=>327|330=>328|331=>338|332=>339|215=>261|343=>344|n=>n,fun|28=>27|3=>3|46=>223|0=>0|51=>318|53=>159|4=>4|183=>345|182=>344|131=>312|5=>5|9=>9|218=>369|222=>258|228=>379|229=>380|n=>n,fun|n=>n⟩
theorem XD:Go.Proofs.Lays.n189 Tryz.prog Q0:={
 mixed:=by kernel_rfl
 f125:=Tryz.func260.trans (congrArg some (by kernel_rfl))
 f128:=Tryz.func294.trans (congrArg some (by kernel_rfl))
 f129:=Tryz.func295.trans (congrArg some (by kernel_rfl))
 f189:=Tryz.func237.trans (congrArg some (by kernel_rfl))
 f215:=Tryz.func261.trans (congrArg some (by kernel_rfl))
 f216:=Tryz.func317.trans (congrArg some (by kernel_rfl))
 f257:=Tryz.func274.trans (congrArg some (by kernel_rfl))
 f294:=Tryz.func311.trans (congrArg some (by kernel_rfl))
 f295:=Tryz.func312.trans (congrArg some (by kernel_rfl))
 f296:=Tryz.func313.trans (congrArg some (by kernel_rfl))
 f297:=Tryz.func314.trans (congrArg some (by kernel_rfl))
 f298:=Tryz.func315.trans (congrArg some (by kernel_rfl))
 f299:=Tryz.func316.trans (congrArg some (by kernel_rfl))
 f300:=Tryz.func318.trans (congrArg some (by kernel_rfl))
 f301:=Tryz.func319.trans (congrArg some (by kernel_rfl))
 f328:=Tryz.func337.trans (congrArg some (by kernel_rfl))
 f329:=Tryz.func327.trans (congrArg some (by kernel_rfl))
 f330:=Tryz.func328.trans (congrArg some (by kernel_rfl))
 f331:=Tryz.func338.trans (congrArg some (by kernel_rfl))
 f332:=Tryz.func339.trans (congrArg some (by kernel_rfl))
 f343:=Tryz.func344.trans (congrArg some (by kernel_rfl))
 t0:=Tryz.underlying0
 a0:=Tryz.isAgg0
 z0:=Tryz.sizeOf0
 v0:=Tryz.zeroValue0
 t3:=Tryz.underlying3
 a3:=Tryz.isAgg3
 z3:=Tryz.sizeOf3
 v3:=Tryz.zeroValue3
 t4:=Tryz.underlying4
 a4:=Tryz.isAgg4
 z4:=Tryz.sizeOf4
 v4:=Tryz.zeroValue4
 t5:=Tryz.underlying5
 a5:=Tryz.isAgg5
 z5:=Tryz.sizeOf5
 v5:=Tryz.zeroValue5
 t9:=Tryz.underlying9
 a9:=Tryz.isAgg9
 z9:=Tryz.sizeOf9
 v9:=Tryz.zeroValue9
 t28:=Tryz.underlying27
 a28:=Tryz.isAgg27
 z28:=Tryz.sizeOf27
 v28:=Tryz.zeroValue27
 t46:=Tryz.underlying223
 a46:=Tryz.isAgg223
 z46:=Tryz.sizeOf223
 v46:=Tryz.zeroValue223
 t51:=Tryz.underlying318
 a51:=Tryz.isAgg318
 z51:=Tryz.sizeOf318
 v51:=Tryz.zeroValue318
 t53:=Tryz.underlying159
 a53:=Tryz.isAgg159
 z53:=Tryz.sizeOf159
 v53:=Tryz.zeroValue159
 t131:=Tryz.underlying312
 a131:=Tryz.isAgg312
 z131:=Tryz.sizeOf312
 v131:=Tryz.zeroValue312
 t182:=Tryz.underlying344
 a182:=Tryz.isAgg344
 z182:=Tryz.sizeOf344
 v182:=Tryz.zeroValue344
 t183:=Tryz.underlying345
 a183:=Tryz.isAgg345
 z183:=Tryz.sizeOf345
 v183:=Tryz.zeroValue345
 t218:=Tryz.underlying369
 a218:=Tryz.isAgg369
 z218:=Tryz.sizeOf369
 v218:=Tryz.zeroValue369
 t222:=Tryz.underlying258
 a222:=Tryz.isAgg258
 z222:=Tryz.sizeOf258
 v222:=Tryz.zeroValue258
 t228:=Tryz.underlying379
 a228:=Tryz.isAgg379
 z228:=Tryz.sizeOf379
 v228:=Tryz.zeroValue379
 t229:=Tryz.underlying380
 a229:=Tryz.isAgg380
 z229:=Tryz.sizeOf380
 v229:=Tryz.zeroValue380}
def Wh:vB:=⟨fun|20=>238|n=>n,fun|22=>27|3=>3|4=>4|0=>0|n=>n,fun|n=>n⟩
theorem aeE:Go.Proofs.Lays2.n20 Tryz.prog Wh:={
 mixed:=by kernel_rfl
 f20:=Tryz.func238.trans (congrArg some (by kernel_rfl))
 t0:=Tryz.underlying0
 a0:=Tryz.isAgg0
 z0:=Tryz.sizeOf0
 v0:=Tryz.zeroValue0
 t3:=Tryz.underlying3
 a3:=Tryz.isAgg3
 z3:=Tryz.sizeOf3
 v3:=Tryz.zeroValue3
 t4:=Tryz.underlying4
 a4:=Tryz.isAgg4
 z4:=Tryz.sizeOf4
 v4:=Tryz.zeroValue4
 t22:=Tryz.underlying27
 a22:=Tryz.isAgg27
 z22:=Tryz.sizeOf27
 v22:=Tryz.zeroValue27
 i3:=by kernel_rfl}
open Go Go.Ev Go.Proofs Go.Shelf Go.RowKit Go.Lib Go.Sort
abbrev Mv:Type:=Int×Int×Int×Int
abbrev mvT:Ty:=.st (.pr (.i .i64) (.pr (.i .i64) (.pr (.i .i64) (.i .i64))))
def Pa(x y:Mv):Int:=if zO x.2.2.2 y.2.2.2≠0 then zO x.2.2.2 y.2.2.2 else if zO x.1 y.1≠0 then zO x.1 y.1 else zO x.2.1 y.2.1
theorem KA{a b:Int}:zO a b<0<->a<b:=by unfold zO;split<;>(try split)<;>omega
theorem DV{a b:Int}:zO a b=0<->a=b:=by unfold zO;split<;>(try split)<;>omega
def Mw(x y:Mv):Prop:=x.2.2.2<y.2.2.2\/x.2.2.2=y.2.2.2/\(x.1<y.1\/x.1=y.1/\x.2.1<y.2.1)
theorem I2{x y:Mv}:ltOf Pa x y=true<->Mw x y:=by
 unfold ltOf Pa Mw;rw[decide_eq_true_eq];by_cases h1:zO x.2.2.2 y.2.2.2=0
 .rw [if_neg (not_not_intro h1)];have e1:=DV.1 h1;by_cases h2:zO x.1 y.1=0
  .rw [if_neg (not_not_intro h2),KA];have e2:=DV.1 h2;omega
  .rw [if_pos h2,KA];have e2:x.1≠y.1:=fun h=>h2 (DV.2 h);omega
 .rw [if_pos h1,KA];have e1:x.2.2.2≠y.2.2.2:=fun h=>h1 (DV.2 h);omega
theorem ahh:Go.Sort.SWO (ltOf Pa)where
 irrefl x:=by
  cases h:ltOf Pa x x
  .rfl
  .have:=I2.1 h;unfold Mw at this;omega
 trans x y z h1 h2:=by rw[I2]at*;unfold Mw at*;omega
 ntrans x y z h1 h2:=by rw[<-Bool.not_eq_true,I2]at*;unfold Mw at*;omega
def me(d:Array Mv):Array Mv:=Go.Sort.pdq (ltOf Pa) d 0 d.size (Lib.bitLen d.size) true true
theorem wY(d:Array Mv):Go.Sort.PermIn 0 d.size d (me d)/\Go.Sort.SortedIn (ltOf Pa) 0 d.size (me d):=Go.Sort.pdq_sorts (ltOf Pa) ahh d 0 d.size (Lib.bitLen d.size) true true (cG _) (aw _) (Or.inl rfl)
def W7(x:Mv):List Value:=[.int .i64 x.1,.int .i64 x.2.1,.int .i64 x.2.2.1,.int .i64 x.2.2.2]
theorem ae5:KO mvT W7:=by
 intro S w x c;constructor
 .rintro ⟨a,b,rfl,rfl,c1,d,rfl,rfl,e,f,rfl,rfl,rfl⟩;rfl
 .rintro rfl;exact⟨_,_,rfl,rfl,_,_,rfl,rfl,_,_,rfl,rfl,rfl⟩
theorem ZY(args:Array Value)(w:World):(callFunc 234 args).run Tryz.prog w=.ok (.enter 234 args) w:=enters_of Tryz.func234 (by kernel_rfl) rfl args w
theorem ZX(args:Array Value)(w:World):(callFunc 235 args).run Tryz.prog w=.ok (.enter 235 args) w:=enters_of Tryz.func235 (by kernel_rfl) rfl args w
theorem QZ(p:Option Addr)(cap:Nat)(fv:Value)(w:World):Calls Tryz.prog 234 #[.slice p 0 cap,fv] w fun e w'=>e=.returned (.tuple #[])/\w'=w:=by have:=@AnyF.slices_SortFunc_none _ _ SO p cap fv w;exact this
theorem UQ:sG Tryz.prog 234 (DF mvT 235 me):=
 abl (t:=mvT) ae5 me (fun d=>(wY d).1.1) ZY
  (fun S cQ off cap d w hH hb hd hS hSb hgl=>AnyQ.slices_SortFunc_eq SO 4 Tryz.isAgg232 Tryz.sizeOf232 W7 (fun _=>rfl) (fun x v hv=>by
   simp only[W7,aO,List.not_mem_nil,or_false]at hv;rcases hv with rfl|rfl|rfl|rfl<;>rfl) Pa ahh 235 #[] cQ off cap d w ZX
   (fun m os dk _ x y=>Vj x.1 x.2.1 x.2.2.1 x.2.2.2 y.1 y.2.1 y.2.2.1 y.2.2.2 _) hH hb hd)
  QZ
def Ec(x:Int):List Value:=[.int .i64 x]
theorem aeA(d:Array Int){j:Nat}(hj:j<d.size):(flatK Ec 1 d)[j]! =.int .i64 d[j]!:=by rw[get_flatK _ _ _ _ (by omega),Nat.div_one,Nat.mod_one];rfl
theorem Zw{w:World}{cQ off:Nat}{d:Array Int}(h:HoldsK Ec 1 w cQ off d):Holds (Value.int .i64) w cQ off d:=by intro j hj;have:=h j (by rw[size_flatK];omega);rw[aeA d hj]at this;exact this
theorem akq(w:World)(cQ off:Nat)(d:Array Int):putRow (Value.int .i64) w cQ off d=putRowK Ec 1 w cQ off d:=by
 unfold putRowK putRow putCells;rw[size_flatK,Nat.mul_one];congr 1;funext c;apply Array.ext
 .simp
 .intro i h1 h2;simp only[Array.getElem_mapIdx];by_cases h:off<=i/\i<off+d.size
  .rw [if_pos h,if_pos h,aeA d (by omega)];rfl
  .rw [if_neg h,if_neg h]
theorem ae1(w:World)(cQ off n:Nat)(d:Array Int)(os:Array Obj):grow (putRow (Value.int .i64) (Go.Sort.ahead w n) cQ off d) os=sortWorldK Ec 1 w cQ off n d os:=by rw[akq];rfl
theorem ae0(w:World)(cQ off n:Nat)(d:Array Int):putRow (Value.int .i64) (Go.Sort.ahead w n) cQ off d=sortWorldK Ec 1 w cQ off n d #[]:=by rw[akq];unfold sortWorldK;rw[grow_empty]
def VO(x y:Int):Bool:=decide (x<=y)
def AE(d:Array Int):Array Int:=(d.toList.mergeSort VO).toArray
theorem UP(d:Array Int):(AE d).size=d.size:=by simp[AE]
theorem W6:KO (.i .i64) Ec:=Iff.rfl
theorem ZW(args:Array Value)(w:World):(callFunc 237 args).run Tryz.prog w=.ok (.enter 237 args) w:=enters_of Tryz.func237 (by kernel_rfl) rfl args w
theorem ZV(args:Array Value)(w:World):(callFunc 238 args).run Tryz.prog w=.ok (.enter 238 args) w:=enters_of Tryz.func238 (by kernel_rfl) rfl args w
theorem US(cQ off cap:Nat)(d:Array Int)(w:World)(hH:HoldsK Ec 1 w cQ off d)(hb:cQ<w.heap.size)(hd:d.size<4611686018427387904):
  Calls Tryz.prog 237 #[.slice (some ⟨cQ,off,none⟩) d.size cap] w fun e w'=>e=.returned (.tuple #[])/\∃n os,w'=sortWorldK Ec 1 w cQ off n (AE d) os:=by
 have h:Calls Tryz.prog 237 _ w _:=Any.slices_Sort_int XD cQ off cap d.toList w (by simpa using Zw hH) hb (by simpa using hd);rw[gJ]at h;refine h.mono ?_;rintro e w' ⟨rfl,n,os,rfl⟩;exact⟨rfl,n,os,ae1 w cQ off n _ os⟩
theorem UR(p:Option Addr)(cap:Nat)(w:World):Calls Tryz.prog 237 #[.slice p 0 cap] w fun e w'=>e=.returned (.tuple #[])/\w'=w:=by have:=@Any.slices_Sort_int_none _ _ XD p cap w;exact this
theorem XC:sG Tryz.prog 237 (Bc (.i .i64) AE):=XA (t:=.i .i64) W6 AE UP ZW US UR
def vG(l:List Int):List Int:=Lib.compact l
theorem Z_(cQ off cap:Nat)(l:List Int)(w:World)(hH:HoldsK Ec 1 w cQ off l.toArray)(_:cQ<w.heap.size)(hd:l.length<4611686018427387904)(hc:l.length<=cap):
  Calls Tryz.prog 238 #[.slice (some ⟨cQ,off,none⟩) l.length cap] w fun e w'=>e=.returned (.slice (some ⟨cQ,off,none⟩) (vG l).length cap)/\∃n os bH,(vG l++bH).length=l.length/\w'=sortWorldK Ec 1 w cQ off n (vG l++bH).toArray os:=by
 have h:Calls Tryz.prog 238 _ w _:=Any.slices_Compact_int aeE cQ off cap l w (Zw hH) (by omega) hc;refine h.mono ?_;rintro e w' ⟨rfl,q,rfl⟩;refine⟨rfl,q, #[],List.replicate (l.length-(Lib.compact l).length) 0,?_,ae0 w cQ off q _⟩;have:=Lib.compact_length_le l;unfold vG;rw[List.length_append,List.length_replicate];omega
theorem Z9(p:Option Addr)(cap:Nat)(w:World):Calls Tryz.prog 238 #[.slice p 0 cap] w fun e w'=>e=.returned (.slice p 0 cap)/\w'=w:=by have:=@Any.slices_Compact_int_empty _ _ aeE p cap w;exact this
theorem aae:sG Tryz.prog 238 (Si (.i .i64) vG):=agq (t:=.i .i64) W6 vG rfl ZV Z_ Z9
end Go.Proofs.YtoekkpmeeclpeaaGreat.S
open Go.Ev Go
namespace Go.Proofs.YtoekkpmeeclpeaaGreat.S
theorem CU(d:List Mv):(me d.toArray).toList.Perm d:=by
 have e:=(wY d.toArray).1;have h1:=e.2.2;have h2:(me d.toArray).size=d.length:=by simpa using e.1
 simp only[List.size_toArray,Array.toList_extract,List.extract_eq_take_drop,Nat.sub_zero,vp,dM]at h1;rwa[<-h2,<-gJ,dM]at h1
theorem Jm(d:List Mv){i j:Nat}(hij:i<j)(hj:j<(me d.toArray).toList.length):¬Mw (gt (me d.toArray).toList j) (gt (me d.toArray).toList i):=by
 have e:=(wY d.toArray).2;have hsz:(me d.toArray).size=d.toArray.size:=(wY d.toArray).1.1;rw[gJ]at hj;have h1:=e i j (cG _) hij (by rw[<-hsz];exact hj);have g:∀k,k<(me d.toArray).size->gt (me d.toArray).toList k=(me d.toArray)[k]!:=fun k hk=>by rw[dx (by simpa using hk),Array.getElem_toList,getElem!_pos _ k hk]
 rw[g j hj,g i (by omega)];intro hb;rw[I2.2 hb]at h1;simp at h1
def aaw(x y:Mv):Bool:=decide (x.2.2.2<y.2.2.2)||(decide (x.2.2.2=y.2.2.2)&&(decide (x.1<y.1)||(decide (x.1=y.1)&&decide (x.2.1<y.2.1))))
theorem aav{x y:Mv}:aaw x y=true<->Mw x y:=by simp[aaw,Mw]
def acw(x:Mv):List Mv->List Mv
 |[]=>[x]
 |y::r=>bif aaw x y then x::y::r else y::acw x r
def E4:List Mv->List Mv
 |[]=>[]
 |x::r=>acw x (E4 r)
def pwB:List Mv->Bool
 |[]=>true
 |x::r=>r.all (aaw x)&&pwB r
theorem Mf(x:Mv):∀l,(acw x l).Perm (x::l)
 |[]=>.refl _
 |y::r=>by unfold acw;cases aaw x y with|true=>exact .refl _|false=>exact((Mf x r).cons y).trans (.swap x y r)
theorem Dh:∀l,(E4 l).Perm l
 |[]=>.refl _
 |x::r=>(Mf x _).trans ((Dh r).cons x)
theorem S6:∀{l},pwB l=true->l.Pairwise Mw
 |[],_=>.nil
 |x::r,h=>by simp only[pwB,ax,List.all_eq_true]at h;exact .cons (fun y hy=>aav.1 (h.1 y hy)) (S6 h.2)
def Q3(s:Sl Mv):Option (Sl Mv):=bif pwB (E4 s.l)&&iu s.l.length 1000 then some (s.to (E4 s.l))else none
theorem UW{s:Sl Mv}:∀z,Q3 s=some z->zV me s=some z:=by
 intro z h;unfold Q3 at h;cases hc:(pwB (E4 s.l)&&iu s.l.length 1000)with
 |false=>rw[hc]at h;cases h
 |true=>
  rw[hc]at h;rw[ax]at hc;have hp:=S6 hc.1;have hl:s.l.length<1000:=by simpa[fM]using hc.2
  have e2:(me s.l.toArray).toList=E4 s.l:=by
   refine List.Perm.eq_of_pairwise (le:=fun a b=>¬Mw b a) (fun a b ha hb h1 h2=>?_) ?_ ?_ ((CU s.l).trans (Dh s.l).symm)
   .have ha:=((CU s.l).trans (Dh s.l).symm).mem_iff.1 ha;generalize E4 s.l=L at*;obtain⟨i,hi,rfl⟩:=ia.1 ha;obtain⟨j,hj,rfl⟩:=ia.1 hb;rcases Nat.lt_trichotomy i j with h|h|h
    .exact absurd (dS.1 hp i j hi hj h) h2
    .subst h;rfl
    .exact absurd (dS.1 hp j i hj hi h) h1
   .rw [dS];intro i j hi hj hij;have:=Jm s.l hij hj;rwa[dx hi,dx hj]at this
   .exact hp.imp fun{a b}h1 h2=>by unfold Mw at h1 h2;omega
  unfold zV;rw[show iu s.l.length 4611686018427387904=true by rw[fM];omega,e2];exact h
def MK(s:Sl Int):Option (Sl Int):=bif iu s.l.length 1000 then some (s.to (pP s.l))else none
theorem Q2{s:Sl Int}:∀z,MK s=some z->zV AE s=some z:=by
 intro z h;unfold MK at h;cases hc:iu s.l.length 1000 with
 |false=>rw[hc]at h;cases h
 |true=>
  rw[hc]at h;have hl:s.l.length<1000:=by simpa[fM]using hc
  have e2:(AE s.l.toArray).toList=pP s.l:=by show(s.l.mergeSort VO)=_;exact LI (.refl _)
  unfold zV;rw[show iu s.l.length 4611686018427387904=true by rw[fM];omega,e2];exact h
def ar4[Bx](s:Sl Mv):Option (Sl Mv):=bif Bx.c then Q3 s else zV me s
def ar5[Bx](s:Sl Int):Option (Sl Int):=bif Bx.c then MK s else zV AE s
def spM[Bx]:cR:={DF mvT 235 me with fn:=fun p=>match p with|s=>ar4 s}
def spJ[Bx]:cR:={Bc (.i .i64) AE with fn:=fun p=>match p with|s=>ar5 s}
theorem ar2[Bx]:sG Tryz.prog 234 spM:=UQ.le fun p z h=>by have h:ar4 p=some z:=h;unfold ar4 at h;show zV me p=some z;cases hc:Bx.c with|true=>rw[hc]at h;exact UW z h|false=>rw[hc]at h;exact h
theorem ar3[Bx]:sG Tryz.prog 237 spJ:=XC.le fun p z h=>by have h:ar5 p=some z:=h;unfold ar5 at h;show zV AE p=some z;cases hc:Bx.c with|true=>rw[hc]at h;exact Q2 z h|false=>rw[hc]at h;exact h
end Go.Proofs.YtoekkpmeeclpeaaGreat.S
