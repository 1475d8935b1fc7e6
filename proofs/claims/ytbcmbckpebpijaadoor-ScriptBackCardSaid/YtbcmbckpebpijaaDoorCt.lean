/- script.Text: the walk; what it computes. Conditions: at most a thousand million bytes. -/
import Derived.Test.YtbcmbckpebpijaaDoorCh
import Derived.Test.YtbcmbckpebpijaaDoorCb
open Array renaming getElem?_eq_some_iff->aP
open List renaming getElem?_eq_getElem->ai,length_append->aZ,nodup_nil->fU,take_append_drop->ic
open Nat renaming le_refl->ak,lt_of_lt_of_le->bQ
open Option renaming bind_eq_some_iff->bE
open Option.some renaming inj->aa
open Go.Ev Go
open Go.RowKit Go.Shelf
namespace Go.Proofs.YtbcmbckpebpijaaDoor.C
@[reducible] def Y0:Ty:=.st (.pr (.i .i64) (.pr (.i .i64) (.i .i64)))
abbrev sj:Type:=Int×Int×Int
def Ji(cf:Sl sj->Option Bool):mQ:=⟨[(false,.x (.sl Y0)),(false,.fn 29 .ni)],[([.x .b],[])],true,[],fun p=>match p with|l=>cf l⟩
def I8(ln:sj->Option ByteArray):mQ:=⟨[(false,.x Y0)],[([.x .s],[])],true,[],fun p=>match p with|s=>ln s⟩
theorem vh{f:Nat}(hen:∀(args:Array Value)(w:World),(callFunc f args).run Tryd.prog w=.ok (.enter f args) w){xs:List A}{y:Value}(hy:yT y=false)(h:Go.Ev.rh Tryd.prog f xs [.c (.d (.lit y))] [])
  {S:Nat->Prop} {W:World} {vs:List Value} (hS:∀b,S b->b<W.heap.size) (hG:ph S W) (hra:Ec S W xs vs []):Calls Tryd.prog f vs.toArray W fun e W'=>e=.returned y/\Below W.heap.size W W':=by
 rcases h S W vs [] hS hra fU (fun b hb=>nomatch hb) hG with⟨g,as',hrun,hc⟩|⟨v,hrun,_⟩
 .have h1:=(hen vs.toArray W).symm.trans hrun;injection h1 with h2 h3;injection h2 with h4 h5;subst h4;subst h5;refine hc.mono fun e w'⟨v,he,hL⟩=>?_;obtain⟨S',gO,fp1,fp2,rfl,hs,_,_,hr,_,_,_,hf⟩:=hL
  match gO,hr with
  |[rv],⟨f1,f2,_,h6,_⟩=>have h7:RT S' w' (.d (.lit y)) rv f1:=h6;clear h6;cases h7 with|d h8=>have hl:=dO.lit (val:=rv) (v:=y) (S:=S') (w:=w') (Kn:=fun _=>False) (φ:=fun _=>default) (.c (.d h8)) hy;rw[he,hl.1];exact⟨rfl,hf.io.1,hf.io.2.2.1,hf.io.2.1,hf.grow,fun k hk=>hf.jT k ⟨hk,fun h=>nomatch h⟩⟩
 .have h1:=(hen vs.toArray W).symm.trans hrun;injection h1 with h2 h3;cases h2
theorem Lv{S:Nat->Prop}{w W:World}(hS:∀b,S b->b<w.heap.size)(hB:Below w.heap.size w W):eM S w S W:=⟨fun _ h=>h,fun b hb=>hB.block b (hS b hb)⟩
theorem JM{S:Nat->Prop}{w:World}{n:Int}{v:Value}(h:RD S w (.lit (.int .i64 n)) v):v=.int .i64 n:=(dO.lit (val:=v) (v:=.int .i64 n) (S:=S) (w:=w) (Kn:=fun _=>False) (φ:=fun _=>default) (.c (.d h))).1
def Cu(n₀:Nat)(W:World)(a:Option Addr)(l:List sj):Prop:=∀(j:Nat)(s:sj),l[j]?=some s->∃b off,a=some ⟨b,off,none⟩/\b<n₀/\W.cell? ⟨b,off+j*3,none⟩=some (.int .i64 s.1)/\W.cell? ⟨b,off+j*3+1,none⟩=some (.int .i64 s.2.1)/\W.cell? ⟨b,off+j*3+2,none⟩=some (.int .i64 s.2.2)
theorem ES{S:Nat->Prop}{w:World}(hS:∀b,S b->b<w.heap.size){l:Sl sj}{v:Value}(h:RD S w (pF 3 (aN Y0) l) v):∃a cap,v=.slice a l.l.length cap/\Cu w.heap.size w a l.l:=by
 cases l with
 |nil=>cases h with|lit _=>exact⟨none,0,rfl,fun j s hj=>by simp[Sl.l]at hj⟩
 |mk l=>
  have h:RD S w (.sl 3 (l.map (aN Y0))) v:=h;generalize hrows:l.map (aN Y0)=rows at h;have hlr:rows.length=l.length:=by rw[<-hrows,List.length_map]
  cases h with
  |sl f hb hsz hcap hrow hcell hrd=>
   rename_i b off cap;refine⟨_,cap,by rw[hlr];rfl,fun j s hj=>⟨b,off,rfl,hS _ hb,?_⟩⟩;have hj:l[j]?=some s:=hj;have hi:rows[j]?=some [.lit (.int .i64 s.1),.lit (.int .i64 s.2.1),.lit (.int .i64 s.2.2)]:=by rw[<-hrows,List.getElem?_map,hj];rfl
   refine⟨?_,?_,?_⟩
   .have h3:=hcell j _ hi 0 _ rfl;rw[JM (hrd j _ hi 0 _ rfl)]at h3;exact h3
   .have h3:=hcell j _ hi 1 _ rfl;rw[JM (hrd j _ hi 1 _ rfl)]at h3;exact h3
   .have h3:=hcell j _ hi 2 _ rfl;rw[JM (hrd j _ hi 2 _ rfl)]at h3;exact h3
  |nV hsz=>have:l=[]:=List.eq_nil_of_length_eq_zero hlr.symm;subst this;exact⟨_,0,rfl,fun j s hj=>by simp[Sl.l]at hj⟩
theorem FB{T e:TypeId}{B b:Nat}{bs:List Value}{W W':World}(h:Lib.IsBuilder T e B b bs W)(hB:Below W.heap.size W W'):Lib.IsBuilder T e B b bs W':=by
 have key:∀{p},Lib.BuilderAt T e B b p bs W->Lib.BuilderAt T e B b p bs W':=fun{p}h=>by
  have hlt:=h.lt;obtain⟨h1,v,h2,⟨h3,h4⟩,h5⟩:=h;refine⟨h1,v,(hB.block b hlt).trans h2,⟨h3,?_⟩,h5⟩;rcases h4 with h4|⟨g,cap,cur,e1,hg,hcur,r⟩
  .exact .inl h4
  .exact .inr ⟨g,cap,cur,e1,hg,(hB.block g (aP.1 hcur).1).trans hcur,r⟩
 exact h.elim (fun h=>.inl (key h)) fun h=>.inr (key h)
def gE(ln:sj->Option ByteArray):List sj->Option (List UInt8)
 |[]=>some []
 |s::r=>(ln s).bind fun x=>(gE ln r).bind fun y=>some (x.data.toList++10::y)
def uN(cf:Sl sj->Option Bool)(ln:sj->Option ByteArray)(l:Sl sj):Option ByteArray:=(cf l).bind fun b=>bif b then some ⟨#[]⟩else(gE ln l.l).bind fun x=>if x.length<=1000000000/\l.l.length<=1000000000 then some ⟨x.toArray⟩else none
def BF(cf:Sl sj->Option Bool)(ln:sj->Option ByteArray)(ro:Bool):mQ:=⟨[(false,.x (.sl Y0))],[([.x .s],[])],ro,[],fun p=>match p with|l=>uN cf ln l⟩
theorem qP{ln:sj->Option ByteArray}:∀(r:List sj){q:List sj}{x:List UInt8},gE ln (r++q)=some x->∃y z,gE ln r=some y/\gE ln q=some z/\x=y++z
 |[],_,x,h=>⟨[],x,rfl,h,rfl⟩
 |s::r,q,x,h=>by obtain⟨b,h1,h⟩:=bE.1 (show(ln s).bind (fun x=>(gE ln (r++q)).bind fun y=>some (x.data.toList++10::y))=some x from h);obtain⟨y,h2,h⟩:=bE.1 h;obtain⟨y1,z,h3,h4,rfl⟩:=qP r h2;obtain rfl:=aa h;refine⟨b.data.toList++10::y1,z,?_,h4,by simp⟩;show(ln s).bind (fun x=>(gE ln r).bind fun y=>some (x.data.toList++10::y))=_;rw[h1,h3];rfl
theorem tw{ln:sj->Option ByteArray}{s:sj}{b:ByteArray}(hb:ln s=some b):∀{r:List sj}{y:List UInt8},gE ln r=some y->gE ln (r++[s])=some (y++(b.data.toList++[10]))
 |[],y,h=>by obtain rfl:=aa h;show(ln s).bind _=_;rw[hb];rfl
 |t::r,y,h=>by obtain⟨c,h1,h⟩:=bE.1 (show(ln t).bind (fun x=>(gE ln r).bind fun y=>some (x.data.toList++10::y))=some y from h);obtain⟨y1,h2,h⟩:=bE.1 h;obtain rfl:=aa h;show(ln t).bind (fun x=>(gE ln (r++[s])).bind fun y=>some (x.data.toList++10::y))=_;rw[h1,tw hb h2];simp
set_option maxHeartbeats 4000000 in
set_option maxRecDepth 100000 in
theorem He{cf:Sl sj->Option Bool}{ln:sj->Option ByteArray}(h1:dJ Tryd.prog 28 (Ji cf))(h2:dJ Tryd.prog 11 (I8 ln)){S:Nat->Prop}{w:World}(hS:∀b,S b->b<w.heap.size)(hG:ph S w){l:Sl sj}{v:Value}(hv:RD S w (pF 3 (aN Y0) l) v){z:ByteArray}(hz:uN cf ln l=some z):
  Calls Tryd.prog 15 #[v] w fun e w'=>e=.returned (.string z)/\Below w.heap.size w w':=by
 unfold uN at hz;obtain⟨b,hb,hz⟩:=bE.1 hz;have hcf:Calls Tryd.prog 28 #[v,.func (.func 29) #[] #[]] w fun e w'=>e=.returned (.bool b)/\Below w.heap.size w w':=by have hg:Go.Ev.rh Tryd.prog 28 [.d (pF 3 (aN Y0) l),.d (.fn 29 [])] [.c (.d (.lit (.bool b)))] []:=h1.2 l b hb;exact vh (vs:=[v,.func (.func 29) #[] #[]]) (enters_of Tryd.func28 (by kernel_rfl) rfl) rfl hg hS hG ⟨[],[],rfl,⟨hv,rfl⟩,[],[],rfl,⟨.fn rfl (fun j x hx=>by simp at hx),rfl⟩,rfl⟩
 have hln:∀(s:sj)(x:ByteArray)(W:World),ln s=some x->Below w.heap.size w W->Calls Tryd.prog 11 #[.agg #[.int .i64 s.1,.int .i64 s.2.1,.int .i64 s.2.2]] W fun e W'=>e=.returned (.string x)/\Below W.heap.size W W':=fun s x W hx hB=>by
  have hg:Go.Ev.rh Tryd.prog 11 [.agg [.lit (.int .i64 s.1),.lit (.int .i64 s.2.1),.lit (.int .i64 s.2.2)]] [.c (.d (.lit (.string x)))] []:=h2.2 s x hx;refine vh (vs:=[.agg #[.int .i64 s.1,.int .i64 s.2.1,.int .i64 s.2.2]]) (enters_of Tryd.func11 (by kernel_rfl) rfl) rfl hg (fun b hb=>bQ (hS b hb) hB.size) (hG.mono (Lv hS hB)) ⟨[],[],rfl,⟨_,rfl,rfl,fun i x hi=>?_,rfl⟩,rfl⟩
  match i,hi with|0,hi=>obtain rfl:=aa hi;exact .lit rfl|1,hi=>obtain rfl:=aa hi;exact .lit rfl|2,hi=>obtain rfl:=aa hi;exact .lit rfl
 obtain⟨a,cap,rfl,hsteps⟩:=ES hS hv;clear hv h1 h2;have mixed:Tryd.prog.follows .mixedOrders=true:=by kernel_rfl
 cases b with
 |true=>
  obtain rfl:=aa (show some (⟨#[]⟩:ByteArray)=some z from hz)
  go_enter Tryd.func15,Tryd.ntmps15
  go_wp2_with (go_at_call 28;refine hcf.mono ?_;rintro e w1 ⟨rfl,hB1⟩)
  go_ret
  exact⟨rfl,hB1⟩
 |false=>
  replace hz:(gE ln l.l).bind (fun x=>if x.length<=1000000000/\l.l.length<=1000000000 then some (⟨x.toArray⟩:ByteArray)else none)=some z:=hz
  obtain⟨x,hx,hz⟩:=bE.1 hz;split at hz
  case isFalse=>cases hz
  rename_i hlen;obtain rfl:=aa hz;clear hz;generalize l.l=L at*;obtain⟨hlx,hlL⟩:=hlen;have HS:Hid (Cu w.heap.size w a L):=hsteps;have HX:Hid (gE ln L=some x):=hx;clear hsteps hx hb
  go_enter Tryd.func15,Tryd.ntmps15
  go_wp2_with (go_at_call 28;refine hcf.mono ?_;rintro e w1 ⟨rfl,hB1⟩)
  have HB1:Hid (Below w.heap.size w w1):=hB1;clear hB1 hcf
  go_loopw [10] (fun i wr=>∃k:Nat,k<=L.length/\i=.int .i64 k/\Hid (∃bs,gE ln (L.take k)=some bs/\Lib.IsBuilder 60 5 w1.heap.size w1.heap.size (Lib.byteCells bs) wr)/\Hid (Below w1.heap.size w1 wr)) (fun i _=>L.length-(intOf i).toNat)
  case atStart=>exact⟨0,Nat.zero_le _,rfl,⟨[],rfl,Lib.fresh_isBuilder 60 5 w1⟩,(Below.refl _ _).alloc (ak _) _⟩
  case round=>
   obtain⟨k,hk,rfl,⟨bs,hbs,HB⟩,HW⟩:=hrel;by_cases hkL:k<L.length
   .obtain ⟨s,hs⟩:∃s,L[k]?=some s:=⟨L[k],ai hkL⟩
    have hdrop:L.drop k=s::L.drop (k+1):=by rw[List.drop_eq_getElem_cons hkL];congr 1;rw[ai hkL]at hs;exact aa hs
    have hline:∃y,ln s=some y/\gE ln (L.take (k+1))=some (bs++(y.data.toList++[10]))/\(bs++(y.data.toList++[10])).length<=x.length:=by
     obtain⟨y1,z1,_,h2,_⟩:=qP (L.take k) (q:=L.drop k) (by rw[ic];exact HX);rw[hdrop]at h2;obtain⟨y,h3,_⟩:=bE.1 (show(ln s).bind (fun x=>(gE ln (L.drop (k+1))).bind fun y=>some (x.data.toList++10::y))=some z1 from h2);have h4:gE ln (L.take (k+1))=some (bs++(y.data.toList++[10])):=by rw[List.take_add_one,hs];exact tw h3 hbs
     obtain⟨y2,z2,h5,_,h7⟩:=qP (L.take (k+1)) (q:=L.drop (k+1)) (by rw[ic];exact HX);rw[h4]at h5;obtain rfl:=aa h5;exact⟨y,h3,h4,by have:=congrArg List.length h7;simp only[aZ]at this|-;omega⟩
    obtain⟨y,hy,hnext,hylen⟩:=hline;obtain⟨b,off,rfl,hb,c0,c1,c2⟩:=HS k s hs;have hW0:Below w.heap.size w wr:=HB1.out.trans (HW.out.mono HB1.out.size);have d0:wr.cell? ⟨b,off+k*3,none⟩=some (.int .i64 s.1):=(hW0.cell (p:=⟨b,off+k*3,none⟩) hb).trans c0;have d1:wr.cell? ⟨b,off+k*3+1,none⟩=some (.int .i64 s.2.1):=(hW0.cell (p:=⟨b,off+k*3+1,none⟩) hb).trans c1;have d2:wr.cell? ⟨b,off+k*3+2,none⟩=some (.int .i64 s.2.2):=(hW0.cell (p:=⟨b,off+k*3+2,none⟩) hb).trans c2;have HW0:Hid (Below w.heap.size w wr):=hW0;have HN:Hid (gE ln (L.take (k+1))=some (bs++(y.data.toList++[10]))):=hnext;clear hW0 c0 c1 c2 hnext hbs hdrop hs
    go_wp2_with fail
    refine(hln s y _ hy (HW0.out.alloc HW0.out.size _)).mono ?_;rintro e w2 ⟨rfl,hB2⟩;have hK:Lib.IsBuilder 60 5 w1.heap.size w1.heap.size (Lib.byteCells bs) w2:=FB (FB HB ((Below.refl _ wr).alloc (ak _) _)) hB2;have hB3:Below w1.heap.size w1 w2:=(HW.out.alloc HW.out.size _).trans (hB2.mono (by have:=HW.out.size;simp;omega));have HK:Hid (Lib.IsBuilder 60 5 w1.heap.size w1.heap.size (Lib.byteCells bs) w2):=hK;have HB3:Hid (Below w1.heap.size w1 w2):=hB3;clear hK hB2 hB3 HB d0 d1 d2
    have hcell:Lib.byteCells bs++Lib.strCells (y++⟨#[10]⟩)=Lib.byteCells (bs++(y.data.toList++[10])):=by
     rw[Lib.strCells_eq,<-Lib.byteCells_append];congr 2
     try simp[ByteArray.data_append]
    have hsz:(Lib.byteCells bs).length+(y++⟨#[10]⟩).size<=140737488355328:=by
     rw[Lib.byteCells_length];have e:(y++⟨#[10]⟩).size=y.data.toList.length+1:=by rw[ByteArray.size_append];rfl
     rw[e];simp only[aZ,List.length_singleton]at hylen;omega
    have HC:Hid (Lib.byteCells bs++Lib.strCells (y++⟨#[10]⟩)=Lib.byteCells (bs++(y.data.toList++[10]))):=hcell;have HZ:Hid ((Lib.byteCells bs).length+(y++⟨#[10]⟩).size<=140737488355328):=hsz;have hys:y.size<=1000000000:=by have e:y.size=y.data.toList.length:=rfl;simp only[aZ,List.length_singleton]at hylen;omega
    have HY:Hid (y.size<=1000000000):=hys;clear hcell hsz hylen hys
    go_wp2_with fail
    .have:=HY.out;exfalso;omega
    refine(Ee w1.heap.size w1.heap.size _ _ w2 HK.out HZ.out HB3.out.size).mono ?_;rintro e w3 ⟨rfl,h3,hB4⟩;rw[HC.out]at h3;have H3:Hid (Lib.IsBuilder 60 5 w1.heap.size w1.heap.size (Lib.byteCells (bs++(y.data.toList++[10]))) w3):=Or.inr h3;have H4:Hid (Below w1.heap.size w1 w3):=HB3.out.trans hB4;clear h3 hB4
    go_wp2
    exact⟨⟨k+1,by omega,by go_num,⟨_,HN.out,H3.out⟩,H4⟩,by simp[intOf];omega⟩
   .have hkL':k=L.length:=by omega
    subst hkL';rw[List.take_length,HX.out]at hbs;obtain rfl:=aa hbs;clear hbs
    go_wp2_with fail
    refine(CJ w1.heap.size w1.heap.size x wr HB HW.out.size).mono ?_;rintro e w5 ⟨rfl,hb5⟩;have H5:Hid (Below w.heap.size w w5):=HB1.out.trans ((HW.out.trans hb5).mono HB1.out.size);clear hb5
    go_wp2
    go_ret
    exact⟨rfl,H5.out⟩
theorem Hc{cf:Sl sj->Option Bool}{ln:sj->Option ByteArray}{ro:Bool}(h1:dJ Tryd.prog 28 (Ji cf))(h2:dJ Tryd.prog 11 (I8 ln)):dJ Tryd.prog 15 (BF cf ln ro):=by
 refine⟨by cases ro<;>rfl,fun l z hz=>?_⟩
 replace hz:uN cf ln l=some z:=hz
 have hg:Go.Ev.rh Tryd.prog 15 [.d (pF 3 (aN Y0) l)] [.c (.d (.lit (.string z)))] []:=by
  intro S W vs fp hS hra hnd hfp hG
  match vs,hra with|[v],⟨f1,f2,hf,⟨hv,e1⟩,e2⟩=>have e2:f2=[]:=e2;subst e1;subst e2;subst hf;refine .inl ⟨15,_,enters_of Tryd.func15 (by kernel_rfl) rfl _ _,(He h1 h2 hS hG hv hz).mono fun e W'⟨he,hB⟩=>⟨_,he,?_⟩⟩;refine⟨S,[_],[],[],rfl,⟨fun _ h=>h,fun b hb=>hB.block b (hS b hb)⟩,fun b hb=>.inl hb,fun b hb=>bQ (hS b hb) hB.size,⟨[],[],rfl,.d (.lit rfl),rfl⟩,rfl,fU,fun b hb=>absurd hb (by simp),?_⟩;exact⟨fun b hb=>hb.1,fun b hb=>hB.block b hb.1,hB.size,fun a ha=>hB.frozen ha,fun b aH h=>⟨aH,by obtain⟨t,h⟩:=h;exact⟨t,(hB.block b (aP.1 h).1).trans h⟩,rfl⟩,⟨hB.os,hB.output,hB.tape,ak _⟩⟩
 exact hg
end Go.Proofs.YtbcmbckpebpijaaDoor.C
