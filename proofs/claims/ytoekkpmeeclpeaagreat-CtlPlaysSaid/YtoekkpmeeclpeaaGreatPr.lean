/- Operations that make nothing, fifth part: composite values, what is in a map. Conditions: the relation of XPa. -/
import Derived.Test.YtoekkpmeeclpeaaGreatPh
open Array renaming getElem?_toList->eF,range->uh,toList_push->qd
open Bool renaming and_eq_true->ax,false_eq_true->gw,not_false->fq
open Go renaming Call->te
open List renaming append_assoc->bm,cons_append->eX,drop_drop->ol,ext_getElem?->vo,getElem?_cons_succ->ge,getElem?_cons_zero->eB,getElem?_eq_getElem->bf,getElem?_eq_some_iff->bG,getElem?_set_self->o7,getElem?_toArray->fu,length->eg,length_append->au,length_eq_one_iff->iw,length_eq_zero_iff->cu,length_take->bw,map_cons->bN,map_nil->iv,map_toArray->iR,mem_cons->aO,mem_map->aR,range->aG,replicate->az,take_append_drop->dG,take_length->dM
open List.cons renaming inj->aE
open Nat renaming add_assoc->gF,add_mul->h_,add_zero->gr,blt->iu,blt_eq->fM,eq_of_beq_eq_true->dT,eq_zero_or_pos->jJ,le_refl->aw,le_succ->cA,min_eq_left->ig,mul_le_mul_right->du,succ_pos->oX,zero_add->dJ,zero_mul->jc
open Option renaming isSome_iff_exists->nu,map_eq_some_iff->dh,map_none->td,map_some->gC
open Option.some renaming inj->af,injEq->eZ
open Prod.mk renaming inj->aq
open Sigma.mk renaming inj->ir
namespace Go.Ev
section
variable{P:Program}{S K:Nat->Prop}{w0 w w':World}{φ φ':iq}{H:Hf}{o:Oper}{ρ:Operand->Value}{n:Nat}{h2:H2}{v:V}{l:List Nat}{vs:List V}{d:Option Nat}{as:List Operand}{g:Option (Nat×Bool)}{t0:Ty}{fi:List Nat}
theorem LF{t:TypeId}{parts:Array (Nat×Operand)}{z:List Value}{pl:List (Nat×Nat)}(ho:o.op=.build t parts)(hz:jH P t=some z)
  (hu:(∃fields,P.underlying t=some (.struct fields)/\gb P fields (parts.toList.map (·.1))=some pl/\fields.toList.all (fun f=>(fh P f.type).isSome)=true)\/
   (∃len el n,P.underlying t=some (.array len el)/\fh P el=some n/\pl=parts.toList.map fun p=>(p.1*n,n)))
  (hI:Inv S K w0 φ H w) (hr:Ar S w φ ρ (parts.toList.map (·.2)) vs) (h:CK ⟨⟨d,.build z pl,as,g⟩,t0,fi⟩ vs h2=some (v,l)):iA P o ρ S K w0 w φ H n v:=by
 change (bif zG (DC t0) z&&kR t0&&fg (SL t0) false t0 then(match Qq t0 fi pl vs (SL t0)with|some v=>some (v,([]:List Nat))|none=>none)else none)=_ at h;cases e:(zG (DC t0) z&&kR t0&&fg (SL t0) false t0)<;>rw[e]at h
 .cases h
 simp only[cond_true]at h;split at h<;>first|(cases h;done)|skip
 rename_i v0 hb;obtain⟨rfl,rfl⟩:=aq (af h);simp only[ax]at e;obtain⟨⟨e1,e2⟩,e3⟩:=e;obtain⟨zv,hzr,hzl,_⟩:=yF hz w;have hc:RC S w φ (SL t0) zv.cells.toList:=by rw[hzl,<-BH e1];exact WT e3
 have key:∀jq:Nat->Option (Nat×Nat),(∀(k:Nat)(p:Nat×Operand)(q:Nat×Nat),parts.toList[k]?=some p->pl[k]?=some q->jq p.1=some q)->
   ∃arr',Instr.fill jq zv.cells ((parts.map fun p=>(p.1,ρ p.2)).toList)=some arr'/\RW S w φ v0 (.agg arr'):=by
  intro jq hp;obtain⟨arr',q1,q2,q3⟩:=acM hb hc e3 hr hp;refine⟨arr',by simpa using q1,R1.rw ⟨arr'.toList,q2,?_⟩⟩;rw[agh q3,e2];simp
 rcases hu with⟨fields,hu,hpl,hall⟩|⟨len,el,m,hu,hn,rfl⟩
 .obtain ⟨h1,h2⟩:=Rm hpl;let gf:Field->Nat×Nat:=fun f=>(f.offset,(fh P f.type).getD 0)
  have hg:(fields.mapM fun f=>(do pure (f.offset,<-sizeOf f.type):Sem (Nat×Nat))).run P w=.ok (fields.map gf) w:=by
   rw[Array.mapM_eq_mapM_toList]
   have:=Q6 (P:=P) (w:=w) gf fields.toList fun f hf=>by
    grind [List.all_eq_true,nu]
   simp only[Sem.run_map,this,Result.andThen_ok];congr 1;apply Array.ext';rw[Array.toList_map]
  obtain⟨arr',h3,h4⟩:=key (fun i=>(fields.map gf)[i]?) (fun i p q hp hq=>by
   obtain⟨f,hf,hq1,hq2⟩:=h2 i p.1 q (by grind) hq
   grind)
  refine ip.pure hI ?_ h4;simp only[execOp,ho,Sem.run_bind,Instr.build,hzr,Result.andThen_ok,cU hu,hg,h3,Sem.run_pure]
 .obtain ⟨arr',h3,h4⟩:=key (fun i=>some (i*m,m)) (fun i p q hp hq=>by simp_all);refine ip.pure hI ?_ h4;simp only[execOp,ho,Sem.run_bind,Instr.build,hzr,Result.andThen_ok,cU hu,m8 hn,h3,Sem.run_pure]
theorem UG{t ty:TypeId}{b:BinOp}{x y:Operand}{ks:List Kd}(ho:o.op=.binOp b t x y ty)(hop:b=.eql\/b=.neq)(hk:IN P 8 t=some ks)(hag:gx P t=some true)
  (hg:P.eqGuardType P.depth t=false) (hI:Inv S K w0 φ H w) (hr:Ar S w φ ρ [x,y] vs) (h:CK ⟨⟨d,.Mj (b==.neq) ks,as,g⟩,t0,fi⟩ vs h2=some (v,l)):iA P o ρ S K w0 w φ H n v:=by
 obtain⟨v1,v2,rfl,h1,h3⟩:=hr.two;cases v1<;>first|(cases h)|skip
 rename_i u a;change (match zN u v2 with|some c=>bif kR u&&decide _ then some (V.x .b _,([]:List Nat))else none|none=>none)=_ at h;split at h<;>first|(cases h)|skip
 rename_i c hc;cases e:(kR u&&decide (G8 u=some ks))<;>rw[e]at h
 .cases h
 obtain⟨rfl,rfl⟩:=aq (af h);simp at e;obtain⟨xs,k1,k2⟩:=R1.agg h1 e.1;obtain⟨ys,k3,k4,_⟩:=yi hc h3;rw[e.1]at k4;have heq:=(PK e.2).2.1 (k1) k3;have he:=SS 9992 8 t ks hk true hag xs ys _ w heq;have hc2:=IS hop x y rfl rfl (run_eqGuard_agg w b t x y _ _ hg) (by simpa);exact ip.bool hI (Ko ho (by rw[k2,k4];exact hc2)) rfl
theorem od.len{k v:Ty}{es:List (El k×El v×Nat)}:∀{ms:List MapEntry},od S w k v es ms->es.length=ms.length:=by
 induction es with
 |nil=>intro ms h;cases ms<;>first|rfl|exact h.elim
 |cons e es ih=>intro ms h;cases ms with|nil=>exact h.elim|cons m ms=>simp[ih h.2]
theorem acK{t:TypeId}{kt vt:Ty}{ks:List Kd}{k:El kt}{kc:List Value}(hk:IN P 8 t=some ks)(hag:gx P t=some (kR kt))(hkd:G8 kt=some ks)(hkc:RT S w kt k kc):
  ∀{es:List (El kt×El vt×Nat)}{ms:List MapEntry}{i:Nat},od S w kt vt es ms->
   (Instr.findAsking t (rD (kR kt) kc) ms i).run P w=.ok ((d_ k es i).map fun r=>(r.1,(ms.getD (r.1-i) default).val)) w/\
   (kR kt=false->∀d,P.underlying t=some d->Instr.findNow d (rD (kR kt) kc) ms i=some ((d_ k es i).map fun r=>(r.1,(ms.getD (r.1-i) default).val)))/\
   ∀r,d_ k es i=some r->i<=r.1/\∃m,ms[r.1-i]?=some m/\Ut S w kt vt r.2 m:=by
 intro es;induction es with
 |nil=>intro ms i hE;cases ms with|nil=>exact⟨by simp[Instr.findAsking,d_],fun _ _ _=>rfl,fun r hr=>by cases hr⟩|cons m ms=>exact hE.elim
 |cons e es ih=>
  intro ms i hE;cases ms with
  |nil=>exact hE.elim
  |cons m ms=>
   obtain⟨c,d,q1,q2,q3⟩:=hE.1;have hb:=(PK (S:=S) (w:=w) hkd).2.1 hkc q1;have heq:(Op.equal t (rD (kR kt) kc) m.key).run P w=.ok (decide (k=e.1)) w:=by rw[q2,Kq];exact SS 9992 8 t ks hk _ hag kc c _ w hb
   have hnow:kR kt=false->∀d,P.underlying t=some d->Instr.sameNow d (rD (kR kt) kc) m.key=some (decide (k=e.1)):=by
    intro hka d hd;rw[q2];rw[hka]at hag|-;obtain⟨_,ag,hag',hone⟩:=GJ 8 t ks hk;obtain rfl:false=ag:=af (hag.symm.trans hag');obtain⟨l1,l2⟩:=t_ hb;obtain⟨q,rfl⟩:=iw.1 (hone rfl);obtain⟨x,rfl⟩:=iw.1 l1;obtain⟨y,rfl⟩:=iw.1 l2
    have hb':WN q x y=some (decide (k=e.1)):=by
     simp only[pQ]at hb
     grind
    generalize decide (k=e.1)=b at hb';simp only[rD,gw,if_false,List.headD_cons];unfold IN at hk;rw[hd]at hk;unfold WN at hb';simp only[gx,hd,gC,eZ]at hag;cases d<;>simp at hk hag
    all_goals
     obtain⟨_,hq⟩:=hk;subst hq;split at hb'<;>simp_all[Instr.sameNow]
   by_cases hke:k=e.1
   .have e1:d_ k (e::es) i=some (i,e):=by simp[d_,hke]
    rw[e1];simp only[hke,decide_true]at heq hnow;refine⟨by simp[Instr.findAsking,heq],fun hka d hd=>by simp[Instr.findNow,hnow hka d hd],fun r hr=>?_⟩;obtain rfl:=af hr;exact⟨aw _,m,by simp,hE.1⟩
   .have e1:d_ k (e::es) i=d_ k es (i+1):=by simp[d_,hke]
    obtain⟨a1,a2,a3⟩:=ih (i:=i+1) hE.2;rw[e1];simp only[hke,decide_false]at heq hnow
    have hsh:((d_ k es (i+1)).map fun r=>(r.1,(ms.getD (r.1-(i+1)) default).val))=(d_ k es (i+1)).map fun r=>(r.1,((m::ms).getD (r.1-i) default).val):=by
     cases hr:d_ k es (i+1)with
     |none=>rfl
     |some r=>
      have:=(a3 r hr).1;have e1:r.1-i=(r.1-(i+1))+1:=by omega
      simp only[gC,e1,List.getD_cons_succ]
    refine⟨?_,fun hka d hd=>?_,fun r hr=>?_⟩
    .simp only[Instr.findAsking,Sem.run_bind,heq,Result.andThen_ok,gw,if_false];rw[a1,hsh]
    .simp only[Instr.findNow,hnow hka d hd];rw[a2 hka d hd,hsh]
    grind
theorem I0{t:TypeId}{kt vt:Ty}{ks:List Kd}{k:El kt}{kc:List Value}(hk:IN P 8 t=some ks)(hag:gx P t=some (kR kt))(hkd:G8 kt=some ks)(hkc:RT S w kt k kc)
  {es:List (El kt×El vt×Nat)} {ms:List MapEntry} (hE:od S w kt vt es ms):
  (Instr.findKey t (rD (kR kt) kc) ms).run P w=.ok ((d_ k es 0).map fun r=>(r.1,(ms.getD r.1 default).val)) w/\∀r,d_ k es 0=some r->∃m,ms[r.1]?=some m/\Ut S w kt vt r.2 m:=by
 obtain⟨h1,h2,h3⟩:=acK hk hag hkd hkc hE;refine⟨?_,fun r hr=>by simpa using(h3 r hr).2⟩;cases ha:kR kt with
 |true=>
  rw[run_findKey_eq]
  .rw [ha]at h1;simpa using h1
  .grind [gx,dh]
 |false=>have hag':=hag;simp[gx]at hag';obtain⟨d,hd,_⟩:=hag';simp_all[Instr.findKey,cU]
structure aaP(P:Program)(kt et:TypeId)(ka:Bool)(ks:List Kd)(va:Bool)(z:List Value):Prop where
 ag:gx P kt=some ka
 ks:IN P 8 kt=some ks
 ae:gx P et=some va
 ze:jH P et=some z
 za:I9 P et=some va
theorem DT{kt et:TypeId}{ka va:Bool}{ks:List Kd}{z:List Value}(h:H7 P kt et=some (ka,ks,va,z)):aaP P kt et ka ks va z:=by
 simp[H7]at h;split at h
 .rename_i ka' ks' va' z' h1 h2 h3 h4;split at h
  .rename_i h5;obtain⟨rfl,rfl,rfl,rfl⟩:ka'=ka/\ks'=ks/\va'=va/\z'=z:=by simpa using h
   exact⟨h1,h2,h3,h4,h5⟩
  .cases h
 .cases h
theorem LN{t:TypeId}{z:List Value}{va:Bool}(hz:jH P t=some z)(ha:I9 P t=some va)(w:World):(zeroValue t).run P w=.ok (rD va z) w/\(va=false->z.length=1):=by
 simp[jH]at hz;split at hz
 .rename_i v hv;split at hz
  .obtain rfl:=af hz;obtain⟨i,hi,hz⟩:=Option.bind_eq_some_iff.1 hv;simp[I9,hv]at ha
   have:v=rD va v.cells.toList/\(va=false->v.cells.toList.length=1):=by
    cases v with
    |agg cr=>
     obtain rfl:true=va:=by simpa using ha
     simp[rD,Value.cells]
    |_=>
     obtain rfl:false=va:=by simpa using ha
     simp[rD,Value.cells]
   exact⟨by rw[<-this.1];simp[zeroValue,typeInfo,hi,hz],this.2⟩
  .simp at hz
 .simp at hz
theorem m9{r:Nat}{ms:Array MapEntry}{c_:Nat}(hb:w.heap[r]?=some (.map ms c_)):(getObj r).run P w=.ok (.map ms c_) w:=by simp[getObj,Sem.run,hb]
theorem qm{r:Nat}{ms:Array MapEntry}{c_:Nat}(ob:Obj)(hb:w.heap[r]?=some (.map ms c_)):(setObj r ob).run P w=.ok () {w with heap:=w.heap.setIfInBounds r ob}:=by simp[setObj,Sem.run,hb]
theorem Vo{t kt et:TypeId}{ok:Bool}{kT vT:Ty}{ks:List Kd}{m ix:Operand}{q:El kT}{kc:List Value}{z:List Value}{mp:Mp (El kT) (El vT)}{ms:Array MapEntry}{r:Option Nat}(ho:o.op=.lookup t m ix ok)(hu:P.underlying t=some (.map kt et))
  (hm:aaP P kt et (kR kT) ks (kR vT) z) (hkd:G8 kT=some ks) (hz:DC vT=z) (hd:oq vT=true) (hI:Inv S K w0 φ H w) (hx:ρ m=.map r) (hms:match r with|some r=>w.heap[r]?=some (.map ms mp.c_)|none=>ms= #[]) (hE:od S w kT vT mp.es ms.toList) (hkc:RT S w kT q kc) (hkx:ρ ix=rD (kR kT) kc):
  iA P o ρ S K w0 w φ H n (bif ok then .tp (.co (.x vT (lS mp (pM vT) q)) (.co (.x .b (Db mp q)) .ni))else .x vT (lS mp (pM vT) q)):=by
 obtain⟨f1,f2⟩:=I0 hm.ks hm.ag hkd hkc hE;obtain⟨z1,z2⟩:=LN hm.ze hm.za w;have hkl:kc.length=ks.length:=hkc.len.trans (PK (S:=S) (w:=w) hkd).2.2.symm;have hck:=fun b=>Ju (P:=P) b 9992 8 kt ks hm.ks _ hm.ag kc w hkl
 have hval:∃vc,RT S w vT (lS mp (pM vT) q) vc/\(kR vT=false->vc.length=1)/\rD (kR vT) vc=(match d_ q mp.es 0 with|some r=>(ms.toList.getD r.1 default).val|none=>rD (kR vT) z):=by
  unfold lS;cases hf:d_ q mp.es 0 with
  |none=>exact⟨z,hz▸RT.ze hd,z2,rfl⟩
  |some r=>
   obtain⟨mm,g1,c,d,_,_,g3,g4,_⟩:=f2 r hf;refine⟨d,g3,fun e=>?_,?_⟩
   .rw [g3.len];have:=congrArg eg hz;rw[z2 e]at this;rw[<-this,(RT.ze (S:=S) (w:=w) hd).len]
   .simp [List.getD,g1,g4]
 obtain⟨vc,v1,v2,v3⟩:=hval;have hr:R1 S w φ _ (rD (kR vT) vc):=R1.of (v:=.x vT _) v1 rfl v2;refine ip.pure (val:=if ok then .tuple #[rD (kR vT) vc,.bool (Db mp q)]else rD (kR vT) vc) hI ?_ ?_
 .have hck1:=hck true;have hck2:=hck ms.isEmpty;unfold Db;cases r with
  |none=>subst hms;simp only[execOp,ho,Instr.lookup,hx,Sem.run_bind,cU hu,Result.andThen_ok,hkx,Sem.run_pure];cases hf:d_ q mp.es 0 with|none=>rw[hf]at f1 v3;simp_all|some r=>simp_all
  |some r=>simp only[execOp,ho,Instr.lookup,hx,Sem.run_bind,cU hu,Result.andThen_ok,m9 hms,hkx,Sem.run_pure];cases hf:d_ q mp.es 0 with|none=>rw[hf]at f1 v3;simp_all|some r=>rw[hf]at f1 v3;cases ok<;>simp_all
 .cases ok with|false=>exact hr.rw|true=>exact⟨[_,_],rfl,_,_,rfl,hr,_,_,rfl,⟨[_],rfl,rfl⟩,rfl⟩
end
section
variable{P:Program}{S K:Nat->Prop}{w0 w w':World}{φ φ':iq}{H:Hf}{o:Oper}{ρ:Operand->Value}{n:Nat}{h2:H2}{v:V}{l:List Nat}{vs:List V}{d:Option Nat}{as:List Operand}{g:Option (Nat×Bool)}{t0:Ty}{fi:List Nat}
theorem jE.new(hI:Inv S K w0 φ H w)(hn:φ n=none){b:Obj}(hb:∀c t r,b=.cells c t r->r=(0,0)){l:rJ}{x:O}{v:V}{val:Value}(hl:l.cQ=w.heap.size)
  (hro:iW S w S {w with heap:=w.heap.push b}->RO S {w with heap:=w.heap.push b} (ext φ n l) l x) (hob:ob {w with heap:=w.heap.push b} l x=[l.cQ])
  (hv:RW S {w with heap:=w.heap.push b} (ext φ n l) v val):jE S K w0 w φ H n (n+1) v [(n,some x)] val {w with heap:=w.heap.push b}:=
 ⟨cA _,S,_,iW.push hI.IQ b,pY l hn,(fun i m h1 h2=>by
  simp[ext]at h1
  grind),hv,hI.new hn hb hl hro (by rw[hob];simp)⟩
theorem Jt(t:TypeId)(val:Value):(newVar t val).run P w=.ok ⟨w.heap.size,0,none⟩ {w with heap:=w.heap.push (.cells val.cells t)}:=by simp[newVar,newRow]
theorem jE.box(hI:Inv S K w0 φ H w)(hn:φ n=none)(t:TypeId){u:Ty}{c:V}{val:Value}(hf:fg c false u=true)(hc:RC S w φ c val.cells.toList):
  jE S K w0 w φ H n (n+1) (.op n u []) [(n,some (.bx u c))] (.pointer (some ⟨w.heap.size,0,none⟩)) {w with heap:=w.heap.push (.cells val.cells t)}:=
 jE.new hI hn (l:=⟨w.heap.size,0,0,0,u,none⟩) (fun _ _ _ h=>by cases h;rfl) rfl (fun hs=>⟨rfl,hf,_,xc w _ t,hc.mono hs (pY _ hn)⟩) rfl
  (R1.rw (R1.CH ⟨_,gQ _ _ _,rfl,by cases u<;>trivial,by cases u<;>rfl⟩ rfl))
theorem YE{t:TypeId}{z:List Value}(ho:o.op=.alloc t)(hz:jH P t=some z)(hI:Inv S K w0 φ H w)(hn:φ n=none)(h:(zG (DC t0) z&&fg (SL t0) false t0)=true):
  ip P o ρ S K w0 w φ H n (n+1) (.op n t0 []) [(n,some (.bx t0 (SL t0)))]:=by
 simp at h;obtain⟨val,hv,hc,_⟩:=yF hz w;refine⟨.value _,_,_,?_,.inl rfl,jE.box hI hn t h.2 (by rw[hc,<-BH h.1];exact WT h.2)⟩;simp[execOp,ho,Instr.alloc,hv,Jt]
theorem afH{t:TypeId}{x:Operand}{v c:V}(ho:o.op=.box t x)(hI:Inv S K w0 φ H w)(hn:φ n=none)(hx:RW S w φ v (ρ x))(h:QL t0 v=some c):
  ip P o ρ S K w0 w φ H n (n+1) (.op n t0 []) [(n,some (.bx t0 c))]:=by
 obtain⟨k1,k2⟩:=RF h (RE h hx).cells.1;refine⟨.value _,_,_,?_,.inl rfl,jE.box hI hn t k2 k1⟩;simp[execOp,ho,Instr.box,Jt]
theorem I_{n:Int}(h0:0<=n)(h1:n<=2147483648):IntKind.i64.wrap n=n:=by unfold IntKind.wrap IntKind.bits IntKind.signed;simp;split<;>omega
theorem GQ{v:Value}{k:IntKind}{n:Int}(h:v=.int k n):(asInt v).run P w=.ok n w:=by subst h;simp[asInt,asIntOf]
theorem w4{v:Value}{k:IntKind}{n:Int}(h:v=.int k n):(asIntOf v).run P w=.ok (k,n) w:=by subst h;simp[asIntOf]
theorem SK{b:Nat}{cr:Array Value}(ho:uq w b cr){a c e:List Value}(h:cr.toList=a++c++e):At w b a.length c:=by
 have:At w b 0 cr.toList:=(Fj ho).2 fun i v hi=>by simpa using hi
 rw[h]at this;have:=xM this;rwa[dJ]at this
theorem DB{z:List Value}{m:Nat}(hz:z.length=m)(hm:0<m)(k:Nat):(aG (k*m)).map (fun i=>z.getD (i %m) undef)=(az k z).flatten:=by
 induction k with
 |zero=>simp
 |succ k ih=>
  rw[Nat.succ_mul,List.range_add,List.map_append,List.replicate_succ',List.flatten_append];congr 1;apply List.ext_getElem
  .simp [hz]
  simp_all[Nat.mod_eq_of_lt]
theorem Fo{zc:Array Value}{z:List Value}{sz n:Nat}(hz:zc.toList=z)(hl:z.length=sz)(hpos:0<sz):
  ((uh n).map (fun i=>zc[i %zc.size]!)).toList=(aG n).map fun i=>z.getD (i %sz) undef:=by
 grind [Array.toList_map,Array.toList_range,List.map_congr_left,Nat.mod_lt]
theorem Ib{el:TypeId}(h:vg P el=true):∃i,P.info? el=some i/\0<i.bytes/\i.bytes<=16384:=by
 unfold vg at h
 grind
theorem Ee{t el:TypeId}{m:Nat}{lo co:Operand}{z:List Value}{kl kc:IntKind}{a b:Int}(ho:o.op=.makeSlice t lo co)(hu:P.underlying t=some (.slice el))
  (hs:fh P el=some (m+1)) (hz:jH P el=some z) (hzl:z.length=m+1) (hb:vg P el=true) (hl:ρ lo=.int kl a) (hc:ρ co=.int kc b) (h0:0<=a) (h1:a<=b) (h3:b<=2147483648):
  ∃cr:Array Value,cr.toList=(az b.toNat z).flatten/\(execOp ρ o).run P w=.ok (.value (.slice (some ⟨w.heap.size,0,none⟩) a.toNat b.toNat)) {w with heap:=w.heap.push (.cells cr el)}:=by
 obtain⟨i,hi,hby0,hby⟩:=Ib hb;obtain⟨zv,hzr,hzv,hzp⟩:=yF hz w;have hwa:IntKind.i64.wrap a=a:=I_ h0 (by omega);have hwb:IntKind.i64.wrap b=b:=I_ (by omega) (by omega);have hmul:(i.bytes:Int)*b<=16384*2147483648:=Int.mul_le_mul (by omega) (by omega) (by omega) (by omega);let cr:Array Value:=(uh (b.toNat*(m+1))).map (fun i=>zv.cells[i %zv.cells.size]!);refine⟨cr,(Fo hzv hzl (oX _)).trans (DB hzl (oX _) _),?_⟩;have hinfo:∀w:World,(typeInfo el).run P w=.ok i w:=fun w=>by simp[typeInfo,hi]
 have harr0:∀zc:Array Value,(b.toNat*(m+1)=0->zc= #[])->(¬b.toNat*(m+1)=0->zc=zv.cells)->((uh (b.toNat*(m+1))).map (fun i=>zc[i %zc.size]!))=cr:=by
  grind
 simp only[execOp,ho,Sem.run_bind,Instr.makeSlice,cU hu,Result.andThen_ok,GQ hl,GQ hc,hinfo,hwa,hwb];rw[Sem.run_ite,if_neg (by simp;omega)];simp only[Sem.run_pure,Result.andThen_ok,Sem.run_bind,run_askRoom,m8 hs];by_cases hc0:b.toNat*(m+1)=0
 .simp_all [if_pos,Sem.run_bind,Sem.run_pure,Result.andThen_ok,newRow,run_newObj]
 .simp_all [if_neg,Sem.run_bind,Sem.run_pure,Result.andThen_ok,newRow,run_newObj]
theorem TB{α:Type}{z:α}{a b:Int}{r:List α}(h:Fm z a b=some r):0<=a/\a<=b/\b<=2147483648/\r=az a.toNat z:=by unfold Fm at h;simp_all
theorem jE.cr(hI:Inv S K w0 φ H w)(hn:φ n=none)(el:TypeId){u:Ty}{r:List (El u)}{c e:List Value}{cr:Array Value}{cap:Nat}(hd:oq u=true)(hsz:0<ei u)(hr:o_ (RT S w u) r c)(ha:cr.toList=c++e)(hcap:r.length<=cap)(hext:cap*ei u<=cr.size):
  jE S K w0 w φ H n (n+1) (.so n) [(n,some (.ar u (.mk r) 0))] (.slice (some ⟨w.heap.size,0,none⟩) r.length cap) {w with heap:=w.heap.push (.cells cr el)}:=by
 refine jE.new hI hn (l:=⟨w.heap.size,0,cr.size,cap,u,some r.length⟩) (fun _ _ _ h=>by cases h;rfl) rfl (fun hs=>⟨rfl,rfl,hd,hsz,fun r' e'=>?_⟩) rfl
  (R1.rw (R1.CH ⟨_,gQ _ _ _,0,cap,rfl,hcap,by simp,by simp,by simpa using hext⟩ rfl))
 cases e';have hm:r.length*ei u<=cap*ei u:=du _ hcap;exact⟨cr,c,xc w cr el,rfl,hcap,by simp;omega,hr.imp fun _ _ _=>RT.mono hs,SK (a:=[]) (xc w cr el) (by simpa using ha)⟩
theorem M5{t el:TypeId}{m:Nat}{lo co:Operand}{z:List Value}{kl kc:IntKind}{a b:Int}{r:List (El t0)}(ho:o.op=.makeSlice t lo co)(hu:P.underlying t=some (.slice el))
  (hs:fh P el=some (m+1)) (hz:jH P el=some z) (hzl:z.length=m+1) (hb:vg P el=true) (hI:Inv S K w0 φ H w) (hn:φ n=none) (hl:ρ lo=.int kl a) (hc:ρ co=.int kc b)
  (h:(zG (DC t0) z&&H4 t0)=true) (hmk:Fm (pM t0) a b=some r):ip P o ρ S K w0 w φ H n (n+1) (.so n) [(n,some (.ar t0 (.mk r) 0))]:=by
 simp only[ax,H4,fM]at h;obtain⟨h1,h3,h4⟩:=h;obtain⟨a1,a2,a3,rfl⟩:=TB hmk;obtain⟨cr,q1,q2⟩:=Ee (w:=w) ho hu hs hz hzl hb hl hc a1 a2 a3;have hzz:=BH h1;have hlen:z.length=ei t0:=by rw[<-hzz];exact(RT.ze (S:=S) (w:=w) h3).len
 have hD:=jE.cr (K:=K) (w0:=w0) (cr:=cr) hI hn el h3 h4 (GA (RT.ze h3) a.toNat) (e:=(az (b.toNat-a.toNat) z).flatten) (by
  grind [List.flatten_append,List.replicate_append_replicate]) (cap:=b.toNat) (by simp;omega) (by
  have:=congrArg eg q1;simp[hlen]at this;omega)
 rw[List.length_replicate]at hD;exact⟨.value _,_,_,q2,.inl rfl,hD⟩
theorem Yy{t el:TypeId}{m:Nat}{lo co:Operand}{z:List Value}{kl kc:IntKind}{a b:Int}{u:Ty}{r:List (Sl (El u))}(ho:o.op=.makeSlice t lo co)(hu:P.underlying t=some (.slice el))
  (hs:fh P el=some (m+1)) (hz:jH P el=some z) (hzl:z.length=m+1) (hb:vg P el=true) (hz1:J8 z=true) (hI:Inv S K w0 φ H w) (hn:φ n=none) (hl:ρ lo=.int kl a) (hc:ρ co=.int kc b)
  (h:H4 u=true) (hmk:Fm (Sl.nil:Sl (El u)) a b=some r):ip P o ρ S K w0 w φ H n (n+1) (.sr n) [(n,some (.rw u (.mk r) none))]:=by
 simp only[ax,H4,fM]at h;obtain rfl:z=[.slice none 0 0]:=by grind [J8]
 obtain⟨a1,a2,a3,rfl⟩:=TB hmk;obtain⟨cr,q1,q2⟩:=Ee (w:=w) ho hu hs hz hzl hb hl hc a1 a2 a3;have hfl:∀k,(az k [Value.slice none 0 0]).flatten=az k (.slice none 0 0):=by simp_all
 rw[hfl]at q1;have hsize:=by have:=congrArg eg q1;simpa using this
 have hget:∀i,i<a.toNat->cr[i]?=some (.slice none 0 0):=fun i hi=>by rw[<-eF,q1,List.getElem?_replicate,if_pos (by omega)]
 refine⟨.value _,_,_,q2,.inl rfl,jE.new hI hn (l:=⟨w.heap.size,0,cr.size,b.toNat,.sl u,some a.toNat⟩) (fun _ _ _ h=>by cases h;rfl) rfl (fun hs=>⟨rfl,by simp[nB],h.1,h.2,fun r' e'=>?_⟩) ?_
  (R1.rw (R1.CH ⟨_,gQ _ _ _,0,b.toNat,rfl,by omega,by simp,by simp,by simp[ei,hsize]⟩ rfl))⟩
 .cases e';refine⟨cr,xc w cr el,rfl,by simp;omega,by simp[hsize];omega,fun i j b hi _ hb=>?_,fun i x hi=>⟨.slice none 0 0,?_,?_⟩⟩
  .simp_all [vR,xX,xc]
  .grind
  .rw [List.getElem?_replicate]at hi;split at hi
   .obtain rfl:=af hi;exact rfl
   .cases hi
 simp_all[ob,Jy,List.cons.injEq,true_and,List.mem_range,vR,xX,xc]
theorem RA{t kt et:TypeId}{kT vT:Ty}(ho:o.op=.makeMap t none)(hI:Inv S K w0 φ H w)(hn:φ n=none)(hd:oq vT=true)(hk:(G8 kT).isSome=true):
  ip P o ρ S K w0 w φ H n (n+1) (.om n) [(n,some (.mp kT vT Mp.none))]:=by
 refine⟨.value _,_,{w with heap:=w.heap.push (.map #[] 0)},by simp[execOp,ho,Instr.makeMap],.inl rfl,jE.new hI hn (l:=⟨w.heap.size,0,0,0,.un,none⟩) (fun _ _ _ h=>by cases h) rfl
  (fun hs=>⟨hd,nu.1 hk, #[],by simp[Mp.none],trivial⟩) rfl (R1.rw (R1.CH ⟨_,gQ _ _ _,rfl⟩ rfl))⟩
end
abbrev SgS(t:Ty)(s:Sl (El t)):(t:Ty)×Sl (El t):=⟨t,s⟩
def Qg(u t:Ty)(s:Sl (El u))(lo:Nat)(r:Sl (El t)):Prop:=(s.rp=true/\r=.nil)\/∃q m,SgS u s=SgS t (.mk q)/\r=.mk ((q.drop lo).take m)/\lo+m<=q.length
def nnl:O->Prop
 |.ar _ s _|.im _ s _=>s.rp=false
 |.rw _ s _=>(s:Sl _).rp=false
 |_=>True
def fG(n:Nat)(h:H2):V->Prop
 |.so id|.sr id|.om id|.op id _ _|.vs id _=>id<n
 |.ep id _ _ _=>id<n/\∀o,fO h id=some o->nnl o
 |.sb id ver lo t r=>id<n/\(r.rp=false->∀o,fO h id=some o->nnl o)/\∀u s v,(fO h id=some (.ar u s v)\/fO h id=some (.im u s v))->ver<=v/\(v=ver->Qg u t s lo r)
 |.fn _ _ l|.rc l|.tp l=>fG n h l
 |.co a r=>fG n h a/\fG n h r
 |_=>True
section
variable{P:Program}{S K:Nat->Prop}{w0 w w':World}{φ φ':iq}{H:Hf}{n:Nat}{h:H2}{l:List Nat}
def SF(S:Nat->Prop)(w:World)(φ:iq)(H:Hf)(l:List Nat)(b:Nat):Prop:=S b\/∃i∈l,∃o lo,H i=some o/\φ i=some lo/\b∈ob w lo o
theorem SF.QK(l:List Nat):iW S w (SF S w φ H l) w:=⟨fun _ h=>.inl h,fun _ _=>rfl⟩
theorem SF.sub{l m:List Nat}(h:∀i∈l,i∈m):iW (SF S w φ H l) w (SF S w φ H m) w:=⟨fun _ hb=>hb.imp id fun⟨i,hi,q⟩=>⟨i,h i hi,q⟩,fun _ _=>rfl⟩
theorem GB{α:Type}{R:α->List Value->Prop}{sz:Nat}{l:List α}{c:List Value}(hn:∀x∈l,∀c,R x c->c.length=sz)(h:o_ R l c)(k m:Nat)(hk:k<=l.length):∃a d b,c=a++d++b/\a.length=k*sz/\o_ R ((l.drop k).take m) d:=by
 have e:l=l.take k++((l.drop k).take m++(l.drop k).drop m):=by rw[dG,dG]
 rw[e]at h;obtain⟨a,b,rfl,h1,h2⟩:=ns.1 h;obtain⟨d,f,rfl,h3,h4⟩:=ns.1 h2;refine⟨a,d,f,by simp,?_,h3⟩;rw[o_.len (fun x hx=>hn x (List.mem_of_mem_take hx)) h1,bw,ig hk]
theorem RT.C9{S':Nat->Prop}{l1:rJ}{lo:Nat}{t:Ty}{s:Sl (El t)}{c d:List Value}(hh:E6 l1 lo (nB s) c)(ht:l1.t=t)(hsz:0<ei t)(hS:S' l1.cQ)(hd:o_ (RT S' w t) s.l d)(ha:At w l1.cQ (l1.jA+lo*ei t) d):RT S' w (.sl t) s c:=by
 cases s with
 |nil=>exact hh
 |mk r=>
  obtain⟨addr,cap,rfl,h1,h2,h3,h4⟩:=hh;refine⟨_,cap,rfl,h1,hsz,?_⟩;rcases jJ cap with e|e
  .simp_all
  .rw [ht]at h3;exact .inr ⟨hS,rfl,d,hd,by rw[h3 e];exact ha⟩
theorem SF.cQ{i:Nat}{o:O}{lo:rJ}{b:Nat}(hi:i∈l)(ho:H i=some o)(hl:φ i=some lo)(hb:b∈ob w lo o):SF S w φ H l b:=.inr ⟨i,hi,o,lo,ho,hl,hb⟩
theorem RO.aki{S':Nat->Prop}{l1:rJ}{t:Ty}{r:List (Sl (El t))}(hs:iW S w S' w)(h:RO S w φ l1 (.rw t (.mk r) none))(hb:∀b∈ob w l1 (.rw t (.mk r) none),S' b):∃d,o_ (RT S' w (.sl t)) r d/\At w l1.cQ l1.jA d:=by
 obtain⟨_,_,h3,h4,h5⟩:=h;obtain⟨cr,k1,_,_,_,_,k5⟩:=h5 r rfl
 have go:∀(q:List _)(j:Nat),(∀i x,q[i]?=some x->r[j+i]?=some x)->∃d,o_ (RT S' w (.sl t)) q d/\At w l1.cQ (l1.jA+j) d:=by
  intro q;induction q with
  |nil=>intro j _;exact⟨[],rfl,trivial⟩
  |cons x q ih=>
   intro j hq;obtain⟨d,d1,d2⟩:=ih _ fun i y hi=>by have:=hq (i+1) y (by simpa using hi);rwa[show j+(i+1)=j+1+i by omega]at this
   have hx:=hq 0 x rfl;obtain⟨v,v1,v2⟩:=k5 j x hx;refine⟨v::d,⟨[v],d,rfl,?_,d1⟩,(k1.cell _).trans v1,d2⟩;cases x with|nil=>obtain rfl:v=_:=v2;rfl|mk rr=>obtain⟨b,addr,cap,arr',d',rfl,m2,m3,m4,m5,m6⟩:=v2;have hSb:=hb b (by exact List.mem_cons_of_mem _ (L_ (bG.1 hx).1 (by simp) (by simp[xX,k1.cell,v1])));exact⟨_,cap,rfl,m3,h4,.inr ⟨hSb,rfl,d',m5.imp fun _ _ _=>RT.mono hs,m6⟩⟩
 exact go r 0 fun i x hi=>by rwa[dJ]
def WP(B S:Nat->Prop)(w:World)(t:Ty)(s:Sl (El t))(c:List Value):Prop:=match s with|.nil=>c=[.slice none 0 0]|.mk l=>∃a cap,c=[.slice (some a) l.length cap]/\l.length<=cap/\0<ei t/\(l=[]/\cap=0\/B a.block/\a.spot=none/\∃d,o_ (RT S w t) l d/\At w a.block a.off d)
theorem WP.rt{B S':Nat->Prop}{t:Ty}{s:Sl (El t)}{c:List Value}(h:WP B S w t s c)(hs:iW S w S' w)(hB:∀b,B b->S' b):RT S' w (.sl t) s c:=by cases s with|nil=>exact h|mk r=>obtain⟨a,cap,h1,h2,h3,h4⟩:=h;exact⟨a,cap,h1,h2,h3,h4.imp id fun⟨k1,k2,d,k3,k4⟩=>⟨hB _ k1,k2,d,k3.imp fun _ _ _=>RT.mono hs,k4⟩⟩
theorem WP.C9{B:Nat->Prop}{l1:rJ}{lo:Nat}{t:Ty}{s:Sl (El t)}{c d:List Value}(hh:E6 l1 lo (nB s) c)(ht:l1.t=t)(hsz:0<ei t)(hS:B l1.cQ)(hd:o_ (RT S w t) s.l d)(ha:At w l1.cQ (l1.jA+lo*ei t) d):WP B S w t s c:=by
 cases s with
 |nil=>exact hh
 |mk r=>
  obtain⟨addr,cap,rfl,h1,h2,h3,h4⟩:=hh;refine⟨_,cap,rfl,h1,hsz,?_⟩;rcases jJ cap with e|e
  .simp_all
  .rw [ht]at h3;exact .inr ⟨hS,rfl,d,hd,by rw[h3 e];exact ha⟩
theorem adL{v:V}{t:Ty}{s:Sl (El t)}{c:List Value}(hI:Inv S K w0 φ H w)(hf:Oo h v=some ⟨t,s,l⟩)(hv:RC S w φ v c)(ha:∀i∈l,H i=fO h i)(hal:tM h v=true)(hok:fG n h v):
  WP (SF S w φ H l) S w t s c/\(oq t=true/\0<ei t\/l=[]):=by
 have N0:∀{id:Nat}{l1:rJ}{u:Ty}{q:List (El u)}{ver:Nat},id∈l->φ id=some l1->(fO h id=some (.ar u (.mk q) ver)\/fO h id=some (.im u (.mk q) ver))->l1.t=u/\oq u=true/\0<ei u/\SF S w φ H l l1.cQ/\∃d,o_ (RT S w u) q d/\At w l1.cQ l1.jA d:=by
  intro id l1 u q ver hi hl ho;rcases ho with ho|ho
  all_goals
   obtain⟨l2,o1,o2,_⟩:=hI.o9 id _ ((ha id hi).trans ho);obtain rfl:=af (hl.symm.trans o1)
  .obtain ⟨h1,h2,h3,h4,h5⟩:=o2
   grind [SF.cQ,trans,ob]
  .obtain ⟨h1,h2,h3,h4,h5⟩:=o2;obtain⟨k0,d,k5,k6⟩:=h5 q rfl;exact⟨h1,h3,h4,.inl k0,d,k5,k6⟩
 have nils:∀{id:Nat}{l1:rJ}{u:Ty}{q:Sl (El u)}{ver:Nat},id∈l->φ id=some l1->(fO h id=some (.ar u q ver)\/fO h id=some (.im u q ver))->l1.n=nB q/\oq u=true/\0<ei u:=by
  intro id l1 u q ver hi hl ho;rcases ho with ho|ho
  all_goals
   obtain⟨l2,o1,o2,_⟩:=hI.o9 id _ ((ha id hi).trans ho);obtain rfl:=af (hl.symm.trans o1);exact⟨o2.2.1,o2.2.2.1,o2.2.2.2.1⟩
 unfold Oo at hf;split at hf
 .obtain ⟨e1,e2⟩:=ir (af hf);subst e1;obtain⟨rfl,rfl⟩:=aq (eq_of_heq e2);refine⟨?_,.inr rfl⟩;rename_i s0;cases s0 with|nil=>exact hv|mk r=>obtain⟨a,cap,h1,h2,h3,h4⟩:=hv;exact⟨a,cap,h1,h2,h3,h4.imp id fun⟨k1,k2⟩=>⟨.inl k1,k2⟩⟩
 .rename_i id;obtain⟨l1,k1,k2⟩:=hv;have key:∀{u:Ty}{q:Sl (El u)}{ver:Nat},(fO h id=some (.ar u q ver)\/fO h id=some (.im u q ver))->some (⟨u,q,[id]⟩:(t:Ty)×Sl (El t)×List Nat)=some ⟨t,s,l⟩->WP (SF S w φ H l) S w t s c/\(oq t=true/\0<ei t\/l=[]):=by intro u q ver ho hf;obtain⟨e1,e2⟩:=ir (af hf);subst e1;obtain⟨rfl,rfl⟩:=aq (eq_of_heq e2);obtain⟨n1,n2,n3⟩:=nils (by simp) k1 ho;rw[n1]at k2;refine⟨?_,.inl ⟨n2,n3⟩⟩;cases q with|nil=>exact k2|mk r=>obtain⟨p1,_,p3,p4,dd,p5,p6⟩:=N0 (by simp) k1 ho;exact WP.C9 k2 p1 p3 p4 p5 (by rw[jc];exact p6)
  grind
 .rename_i id ver lo u r;obtain⟨e1,e2⟩:=ir (af hf);subst e1;obtain⟨rfl,rfl⟩:=aq (eq_of_heq e2);obtain⟨l1,k1,k2,_,k3⟩:=hv
  have key:∀{u2:Ty}{q:Sl (El u2)},(fO h id=some (.ar u2 q ver)\/fO h id=some (.im u2 q ver))->WP (SF S w φ H [id]) S w u r c/\(oq u=true/\0<ei u\/[id]=[]):=by
   intro u2 q ho;obtain⟨n1,n2,n3⟩:=nils (by simp) k1 ho;rcases(hok.2.2 u2 q ver ho).2 rfl with⟨q1,rfl⟩|⟨qq,m,q1,rfl,q3⟩
   .have hsh:l1.t=u2:=by
     rcases ho with ho|ho
     all_goals
      obtain⟨l2,o1,o2,_⟩:=hI.o9 id _ ((ha id (by simp)).trans ho);obtain rfl:=af (k1.symm.trans o1);exact o2.1
    obtain rfl:u2=u:=hsh.symm.trans k2;exact⟨k3,.inl ⟨n2,n3⟩⟩
   .obtain ⟨rfl,e⟩:=ir q1;obtain rfl:=eq_of_heq e;obtain⟨p1,p2,p3,p4,dd,p5,p6⟩:=N0 (by simp) k1 ho;obtain⟨a,d2,b,rfl,r1,r2⟩:=GB (fun _ _ _ h=>RT.len h) p5 lo m (by omega);exact⟨WP.C9 k3 p1 p3 p4 r2 (by rw[<-r1];exact xM p6),.inl ⟨p2,p3⟩⟩
  simp only[tM,ax]at hal;have hal2:=hal.2;split at hal2
  .rename_i u2 q v2 ho;obtain rfl:v2=ver:=by simpa using hal2
   exact key (.inl ho)
  .rename_i u2 q v2 ho;obtain rfl:v2=ver:=by simpa using hal2
   exact key (.inr ho)
  .cases hal2
 .cases hf
theorem XI{v:V}{t:Ty}{s:Sl (El t)}{c:List Value}{S':Nat->Prop}(hI:Inv S K w0 φ H w)(hs:iW S w S' w)(hf:Oo h v=some ⟨t,s,l⟩)(hv:RC S w φ v c)(ha:∀i∈l,H i=fO h i)(hal:tM h v=true)(hok:fG n h v)(hS:∀b,SF S w φ H l b->S' b):
  RT S' w (.sl t) s c:=(adL hI hf hv ha hal hok).1.rt hs hS
theorem Gf:∀{v x:V}{l:List Nat}{c:List Value}{S':Nat->Prop},Inv S K w0 φ H w->iW S w S' w->zK h v=some (x,l)->RC S w φ v c->(∀i∈l,H i=fO h i)->tM h v=true->fG n h v->(∀b,SF S w φ H l b->S' b)->RC S' w φ x c:=by
 intro v;induction v with
 |so id=>
  intro x l c S' hI hs hf hv ha hal hok hS;simp only[zK]at hf;split at hf
  .rename_i t s l' hsl;obtain⟨rfl,rfl⟩:=aq (af hf);exact XI hI hs hsl hv ha hal hok hS
  .cases hf
 |sb id ver lo t r=>
  intro x l c S' hI hs hf hv ha hal hok hS;simp only[zK]at hf;split at hf
  .rename_i t s l' hsl;obtain⟨rfl,rfl⟩:=aq (af hf);exact XI hI hs hsl hv ha hal hok hS
  .cases hf
 |sr id=>
  intro x l c S' hI hs hf hv ha hal hok hS;simp only[zK]at hf;split at hf
  .rename_i t s ho;obtain⟨rfl,rfl⟩:=aq (af hf);obtain⟨l1,k1,k2⟩:=hv;have ho':=(ha id (by simp)).trans ho;obtain⟨l2,o1,o2,_⟩:=hI.o9 id _ ho';obtain rfl:=af (k1.symm.trans o1);have hn:=o2.2.1;rw[hn]at k2;cases s with|nil=>exact k2|mk r=>obtain⟨d,d1,d2⟩:=o2.aki hs fun b hb=>hS b (SF.cQ (by simp) ho' k1 hb);exact RT.C9 (t:=.sl t) (s:=(.mk r:Sl (El (.sl t)))) k2 o2.1 (by simp[ei]) (hS _ (SF.cQ (by simp) ho' k1 (by simp[ob]))) d1 (by rw[jc];exact d2)
  .cases hf
 |rc l0 ih=>
  intro x l c S' hI hs hf hv ha hal hok hS;simp only[zK]at hf;split at hf
  .rename_i y l' hy;obtain⟨rfl,rfl⟩:=aq (af hf);show RC S' w φ y c;exact ih hI hs hy hv ha hal hok hS
  .cases hf
 |co a r iha ihr=>
  rintro x l c S' hI hs hf ⟨d,e,rfl,h1,h2⟩ ha hal hok hS;simp only[zK]at hf;simp only[tM,ax]at hal;split at hf
  .rename_i y l1 z l2 hy hz;obtain⟨rfl,rfl⟩:=aq (af hf);exact⟨d,e,rfl,iha hI hs hy h1 (fun i hi=>ha i (by simp[hi])) hal.1 hok.1 fun b hb=>hS b ((SF.sub (by simp_all)).sub b hb),ihr hI hs hz h2 (fun i hi=>ha i (by simp[hi])) hal.2 hok.2 fun b hb=>hS b ((SF.sub (by simp_all)).sub b hb)⟩
  .cases hf
 |fn z f l0 ih=>intro x l c S' hI hs hf hv ha hal hok hS;cases z with|true=>obtain⟨rfl,rfl⟩:=aq (af hf);exact hv.mono hs (Ren.refl _)|false=>cases hf
 |_=>
  intro x l c S' hI hs hf hv ha hal hok hS
  first
   |(cases hf;done)
   |(obtain⟨rfl,rfl⟩:=aq (af hf);exact hv.mono hs (Ren.refl _))
def E7(h:H2)(i:Nat):Option (Option O):=match fO h i with|some (.rw _ _ none)=>some none|_=>(V7 h i).map some
theorem acG{i:Nat}{r:Option O}{o':O}(hr:E7 h i=some r)(ho:r=some o'):∃o,fO h i=some o/\∀{S':Nat->Prop}{lo:rJ},iW S w S' w->RO S w φ lo o->(∀b∈ob w lo o,S' b)->RO S' w φ lo o'/\ob w lo o'=[]:=by
 subst ho
 have sl:∀{t:Ty}{s:Sl (El t)}{v:Nat},(fO h i=some (.ar t s v)\/fO h i=some (.im t s v))->o'=.im t s v->∃o,fO h i=some o/\∀{S':Nat->Prop}{lo:rJ},iW S w S' w->RO S w φ lo o->(∀b∈ob w lo o,S' b)->RO S' w φ lo o'/\ob w lo o'=[]:=by
  rintro t s v (ho|ho) rfl
  .refine ⟨_,ho,fun hs h hb=>⟨⟨h.1,h.2.1,h.2.2.1,h.2.2.2.1,fun r e=>?_⟩,rfl⟩⟩;obtain⟨cr,d,_,_,_,_,k5,k6⟩:=h.2.2.2.2 r e;exact⟨hb _ (by rw[e];simp[ob]),d,k5.imp fun _ _ _=>RT.mono hs,k6⟩
  .exact ⟨_,ho,fun hs h hb=>⟨h.mono hs (Ren.refl _) fun _ _=>rfl,rfl⟩⟩
 unfold E7 at hr;split at hr
 .cases hr
 .obtain ⟨o2,ho2,e⟩:=dh.1 hr;obtain rfl:=af e;unfold V7 at ho2;split at ho2
  .grind
  .grind
  .rename_i ho;obtain rfl:=af ho2;exact⟨_,ho,fun hs h hb=>⟨h.mono hs (Ren.refl _) fun _ _=>rfl,rfl⟩⟩
  .rename_i t c ho;cases ec:(oq t&&iu _ 300)<;>rw[ec]at ho2
   .cases ho2
   split at ho2<;>first|(cases ho2)|skip
   split at ho2<;>first|(cases ho2;done)|skip
   rename_i x hx;obtain rfl:=af ho2;simp at ec;refine⟨_,ho,fun hs h hb=>⟨?_,rfl⟩⟩;obtain⟨h1,h2,cr,h3,h4⟩:=h;exact⟨h1,ec.1,hb _ (by simp[ob]),cr.toList,Dr hx (h4.mono hs (Ren.refl _)),(Fj h3).2 fun i v hi=>by simpa using hi⟩
  .cases ho2
theorem E8:∀{l:List Nat}{s s':S2},AR h l s=some s'->∃u:xm,s'=⟨s.jl,u++s.heap,s.next,u.map (·.1)++s.wo,s.gh⟩/\u.map (·.1)=l/\∀p∈u,E7 h p.1=some p.2:=by
 intro l;induction l with
 |nil=>intro s s' hf;obtain rfl:=af hf;exact⟨[],rfl,rfl,fun p hp=>by simp at hp⟩
 |cons i l ih=>
  intro s s' hf;simp[AR]at hf;split at hf
  .rename_i ho;split at hf
   .rename_i s1 h1;obtain rfl:=af hf;obtain⟨u,rfl,h3,h4⟩:=ih h1;refine⟨(i,none)::u,rfl,by simp[h3],fun p hp=>?_⟩;rcases aO.1 hp with rfl|hp
    .simp [E7,ho]
    .exact h4 p hp
   .cases hf
  .split at hf
   .rename_i o s1 h0 h1;obtain rfl:=af hf;obtain⟨u,rfl,h3,h4⟩:=ih h1;refine⟨(i,some o)::u,rfl,by simp[h3],fun p hp=>?_⟩;rcases aO.1 hp with rfl|hp
    .grind [E7,absurd]
    .exact h4 p hp
   .cases hf
theorem nE{α:Type}{u:List (Nat×α)}{i:Nat}:(∀x,iV u i=some x->(i,x)∈u)/\(iV u i=none->∀p∈u,p.1≠i):=by
 induction u with
 |nil=>exact⟨(fun x h=>by cases h),fun _ p hp=>by simp at hp⟩
 |cons q u ih=>
  simp[iV]
  grind
theorem Inv.R8(hI:Inv S K w0 φ H w){u:xm}(hk:u.map (·.1)=l)(hu:∀p∈u,E7 h p.1=some p.2)(ha:∀i∈l,H i=fO h i):Inv (SF S w φ H l) K w0 φ (up H u) w:=by
 have hSF:∀b,SF S w φ H l b->(S b\/(¬S b/\¬K b/\b<w.heap.size)):=by
  rintro b (hb|⟨i,hi,o,lo,ho,hl,hb⟩)
  .exact .inl hb
  .obtain ⟨l2,a1,_,a4⟩:=hI.o9 i o ho;obtain rfl:=af (hl.symm.trans a1);exact .inr (a4 b hb)
 refine hI.iT (fun i=>i∈l) (SF.QK l) (Ren.refl _) (fun b hb=>(hSF b hb).elim (hI.IQ b) fun h=>h.2.2) (fun b hb=>(hSF b hb).elim (hI.sk b) fun h=>h.2.1) hI.yu (fun i o hi ho=>?_) (fun i o lo hi ho hl b hb=>⟨rfl,?_⟩) fun i o hi ho=>?_
 .have:iV u i=none:=by cases e:iV u i with|none=>rfl|some x=>exact absurd (hk▸aR.2 ⟨_,nE.1 x e,rfl⟩) hi
  simpa[up,this]using ho
 .rintro (hb2|⟨j,hj,o2,l2,ho2,hl2,hb2⟩)
  .obtain ⟨l3,a1,_,a4⟩:=hI.o9 i o ho;obtain rfl:=af (hl.symm.trans a1);exact(a4 b hb).1 hb2
  .exact hI.jz i j o o2 lo l2 ho ho2 hl hl2 (fun e=>hi (e▸hj)) b hb hb2
 .have hm:∃r,iV u i=some r:=by cases e:iV u i with|none=>rw[<-hk]at hi;obtain⟨p,hp,e2⟩:=aR.1 hi;exact absurd e2 (nE.2 e p hp)|some x=>exact⟨x,rfl⟩
  obtain⟨r,hr⟩:=hm;simp[up,hr]at ho;obtain⟨o0,h1,h2⟩:=acG (hu _ (nE.1 r hr)) ho;have hH:=(ha i hi).trans h1;obtain⟨l1,a1,a2,_⟩:=hI.o9 i o0 hH;obtain⟨q1,q2⟩:=h2 (SF.QK l) a2 fun b hb=>SF.cQ hi hH a1 hb;exact⟨l1,a1,q1,by rw[q2];simp⟩
end
section
variable{P:Program}{S S' K:Nat->Prop}{w0 w w':World}{φ φ':iq}{H:Hf}{o:Oper}{ρ:Operand->Value}{n:Nat}{h2:H2}{l:List Nat}
theorem KX{b o:Nat}{cr:Array Value}{d:List Value}(ho:uq w b cr)(h:At w b o d)(hle:o+d.length<=cr.size):∃p q,cr.toList=p++d++q/\p.length=o:=by
 refine⟨cr.toList.take o,cr.toList.drop (o+d.length),?_,by simp;omega⟩;have h1:=(Fj ho).1 h
 have:(cr.toList.drop o).take d.length=d:=by
  apply vo
  grind
 conv=>lhs;rw[<-dG o cr.toList,<-dG d.length (cr.toList.drop o),this,ol]
 rw[bm]
theorem Js{b:Nat}{cr arr':Array Value}(ho:uq w b cr)(hsz:arr'.size=cr.size):∀a,uq w b a->∃a',uq (w.setRow b arr') b a'/\a'.size=a.size:=fun a ha=>by obtain rfl:=ha.zH ho;exact⟨arr',Cb ho,hsz⟩
theorem Inv.put(hI:Inv S K w0 φ H w){id:Nat}{o o':O}{l:rJ}{cr arr':Array Value}(ho:H id=some o)(hl:φ id=some l)(hb:l.cQ∈ob w l o)(hown:uq w l.cQ cr)(hsz:arr'.size=cr.size)
  (hro:iW S w S (w.setRow l.cQ arr')->uq (w.setRow l.cQ arr') l.cQ arr'->RO S (w.setRow l.cQ arr') φ l o') (hob:∀x∈ob (w.setRow l.cQ arr') l o',x∈ob w l o):
  iW S w S (w.setRow l.cQ arr')/\Inv S K w0 φ (up H [(id,some o')]) (w.setRow l.cQ arr'):=
 hI.set ho hl hb (fun c hc=>setRow_other w l.cQ c _ hc) (by simp) (Ej hown) (Js hown hsz) ⟨rfl,rfl,rfl,aw _⟩ (fun hs=>hro hs (Cb hown)) hob
theorem MM{t:TypeId}{b:Nat}{cr:Array Value}{val:Value}{p m q:List Value}(hn:fh P t=some m.length)(ho:uq w b cr)(he:cr.toList=p++m++q)(hl:val.cells.toList.length=m.length)(h1:∀x∈val.cells.toList,one x=true):
  (Instr.storeAt t (.pointer (some ⟨b,p.length,none⟩)) val).run P w=.ok () (w.setRow b (p++val.cells.toList++q).toArray):=by
 obtain⟨ty,hb⟩:=ho;have hsz:=congrArg eg he;simp at hsz;have:=run_storeCells_at P b p.length ty val.cells.toList 0 cr w hb (by omega) (fun v hv=>by exact h1 v hv);simp_all[Instr.storeAt,Instr.sureAddr,storeVar,m8]
theorem jE.set{m:Nat}{S1:Nat->Prop}{u:xm}(hs:iW S w S1 w')(hI:Inv S1 K w0 φ (up H u) w'):jE S K w0 w φ H m m (.tp .ni) u undef w':=⟨aw _,S1,φ,hs,Ren.refl _,(fun i l h1 h2=>by rw[h1]at h2;cases h2),⟨[],rfl,rfl⟩,hI⟩
theorem Ci{t:TypeId}{a x:Operand}{pv:Value}(ho:o.op=.store t a x)(hp:ρ a=pv)(h:(Instr.storeAt t pv (ρ x)).run P w=.ok () w'):(execOp ρ o).run P w=.ok .skip w':=by simp[execOp,ho,hp,h]
theorem Pc{t:TypeId}{a x:Operand}{id:Nat}{u u2:Ty}{p:xK}{wv c w1 c':V}(ho:o.op=.store t a x)(hs:fh P t=some (LG wv))(hI:Inv S K w0 φ H w)(hp:RW S w φ (.op id u p) (ρ a))(hx:RW S w φ wv (ρ x))
  (hH:H id=some (.bx u c)) (hu:Fw u p=some u2) (hn:QL u2 wv=some w1) (hset:vD c p w1=some c') (hf:fg c' false u=true):ip P o ρ S K w0 w φ H n n (.tp .ni) [(id,some (.bx u c'))]:=by
 obtain⟨l,k1,k2,k3,k4⟩:=R1.iB hp;obtain⟨l2,o1,⟨b1,b2,cr,b3,b4⟩,_⟩:=hI.o9 id _ hH;obtain rfl:=af (k1.symm.trans o1);obtain⟨hw1,hw2⟩:=(RE hn hx).cells;obtain⟨hw3,hw4⟩:=RF hn hw1;obtain⟨pa,m,qa,e1,e2,e3,_,e5⟩:=Bq b2 b4 k3 hu;have hl:(ρ x).cells.toList.length=m.length:=by rw[hw3.len,arZ _ _ _ hw4,e3]
 have hm:m.length=LG wv:=by rw[<-hl,hw1.len]
 have run:=MM (by rw[hm];exact hs) b3 e1 hl hw2
 have hset':=hI.put (arr':=(pa++(ρ x).cells.toList++qa).toArray) (o':=.bx u c') hH k1 (by simp[ob]) b3 (by have:=congrArg eg e1;simp at this hl|-;omega)
  (fun hs hown=>⟨b1,hf,_,hown,by simpa using(e5 w1 c' _ hset hw3).mono hs (Ren.refl _)⟩) (by simp[ob])
 refine⟨.skip,undef,_,Ci ho ?_ run,.inr ⟨rfl,rfl⟩,jE.set hset'.1 hset'.2⟩;rw[e2];exact(aE k4).1
theorem Inv.cells(hI:Inv S K w0 φ H w){id:Nat}{l:rJ}{u:Ty}{r:List (El u)}{ver:Nat}(hH:H id=some (.ar u (.mk r) ver))(hl:φ id=some l):
  l.t=u/\l.n=some r.length/\oq u=true/\0<ei u/\∃cr p d q,uq w l.cQ cr/\cr.size=l.ext/\r.length<=l.cap/\l.jA+r.length*ei u<=l.ext/\cr.toList=p++d++q/\p.length=l.jA/\o_ (RT S w u) r d/\At w l.cQ l.jA d:=by
 obtain⟨l2,o1,⟨b1,b2,b3,b4,b5⟩,_⟩:=hI.o9 id _ hH;obtain rfl:=af (hl.symm.trans o1);obtain⟨cr,d,c1,c2,c3,c4,c5,c6⟩:=b5 r rfl;obtain⟨p,q,e1,e2⟩:=KX c1 c6 (by rw[c2,o_.len (fun _ _ _ h=>RT.len h) c5];exact c4);exact⟨b1,b2,b3,b4,cr,p,d,q,c1,c2,c3,c4,e1,e2,c5,c6⟩
theorem Inv.adO(hI:Inv S K w0 φ H w){id:Nat}{l:rJ}{u:Ty}{r r':List (El u)}{ver ver':Nat}{cr:Array Value}{p d d' q:List Value}(hH:H id=some (.ar u (.mk r) ver))(hl:φ id=some l)
  (hown:uq w l.cQ cr) (he:cr.toList=p++d++q) (hp:p.length=l.jA) (hd:d'.length=d.length) (hr':r'.length=r.length) (hr:∀w',iW S w S w'->o_ (RT S w' u) r' d'):
  iW S w S (w.setRow l.cQ (p++d'++q).toArray)/\Inv S K w0 φ (up H [(id,some (.ar u (.mk r') ver'))]) (w.setRow l.cQ (p++d'++q).toArray):=by
 obtain⟨b1,b2,b3,b4,arr2,_,_,_,c1,c2,c3,c4,_⟩:=hI.cells hH hl;obtain rfl:=c1.zH hown;refine hI.put hH hl (by simp[ob]) hown (by have:=congrArg eg he;simp at this|-;omega) (fun hs hown'=>⟨b1,by rw[b2];simp[nB,hr'],b3,b4,fun r2 e=>?_⟩) (by simp[ob]);cases e;exact⟨_,d',hown',by have:=congrArg eg he;simp at this|-;omega,by omega,by rw[hr'];exact c4,hr _ hs,by have:=SK hown' (a:=p) (c:=d') (e:=q) (by simp);rwa[hp]at this⟩
theorem Pd{t:TypeId}{a x:Operand}{id m:Nat}{u u2:Ty}{p:xK}{c:V}{s:Sl (El u)}{ver:Nat}{y:El u2}{y2:El u}{val:Value}{cs:List Value}(ho:o.op=.store t a x)(hs:fh P t=some cs.length)(hI:Inv S K w0 φ H w)(hp:RW S w φ (.ep id m u p) (ρ a))
  (hv:ρ x=val) (hcs:val.cells.toList=cs) (hone:∀x∈cs,one x=true) (hy:RT S w u2 y cs) (hH:H id=some (.ar u s ver)) (hu:Fw u p=some u2) (hset:vD (.x u (gt s.l m)) p (.x u2 y)=some c) (hc:vf u c=some y2):
  ∃w',(execOp ρ o).run P w=.ok .skip w'/\iW S w S w'/\Inv S K w0 φ (up H [(id,some (.ar u (.mk (s.l.set m y2)) (ver+1)))]) w':=by
 obtain⟨l,m1,k1,k2,k3,k4,k5,k6⟩:=R1.iB hp;have hn:nB s=some m1:=by obtain⟨l2,o1,⟨_,b2,_⟩,_⟩:=hI.o9 id _ hH;simp_all
 obtain⟨r,rfl,e0⟩:=q_ hn;obtain⟨b1,b2,b3,b4,cr,pa,d,qa,c1,c2,c3,c4,e1,e2,c5,c6⟩:=hI.cells hH k1;obtain⟨a1,mm,q1,rfl,r1,r2,r3⟩:=Cq (fun _ _ _ h=>RT.len h) (show m<r.length by omega) c5;obtain⟨a2,m2,q2,rfl,s1,s2,_,s4⟩:=Bq (v:=.x u (gt r m)) (φ:=φ) (by simp[fg]) r2 k5 hu;have hl:val.cells.toList.length=m2.length:=by rw[hcs,hy.len,s2]
 have run:=MM (p:=pa++a1++a2) (q:=q2++q1++qa) (by rw[<-hl,hcs];exact hs) c1 (by rw[e1];simp) hl (by rw[hcs];exact hone);rw[hcs]at run;have hnew:=r3 y2 _ (zw hc (s4 _ _ _ hset hy)).1;rw[hcs]at hl;have hset':=hI.adO (ver':=ver+1) hH k1 c1 e1 e2 (by simp;omega) (by simp) fun w' hs=>hnew.imp fun _ _ _=>RT.mono hs;have ee:pa++a1++a2++cs++(q2++q1++qa)=pa++(a1++(a2++cs++q2)++q1)++qa:=by simp
 rw[ee]at run;refine⟨_,Ci ho ?_ (by rw[hv];exact run),hset'.1,hset'.2⟩
 grind
theorem mq(l:rJ)(i:Nat):vR w l none i=xX w l i:=by simp[vR]
theorem FI(l:rJ)(m id:Nat):vR w l (some (m,id)) m=[]:=by simp[vR]
theorem sN(l:rJ){m id i:Nat}(h:m≠i):vR w l (some (m,id)) i=xX w l i:=by simp[vR,h]
theorem tG{l:rJ}{t:Ty}{r:List (Sl (El t))}{ln:Option (Nat×Nat)}{b:Nat}:b∈ob w l (.rw t (.mk r) ln)<->b=l.cQ\/∃i,i<r.length/\b∈vR w l ln i:=by simp[ob,Jy]
theorem Inv.aaI(hI:Inv S K w0 φ H w){id id2 m ver:Nat}{u:Ty}{r:List (Sl (El u))}{x:Sl (El u)}(ho:H id=some (.rw u (.mk r) (some (m,id2))))(h2:H id2=some (.ar u x ver))(hx:r[m]?=some x)(hne:id≠id2):
  Inv S K w0 φ (up H [(id,some (.rw u (.mk r) none)),(id2,none)]) w:=by
 obtain⟨l,a1,a2,a3⟩:=hI.o9 id _ ho;obtain⟨l2,b1,b2,b3⟩:=hI.o9 id2 _ h2;obtain⟨c1,c2,c3,c4,c5⟩:=a2;obtain⟨cr,d1,d2,d3,d4,d5,d6⟩:=c5 r rfl;obtain⟨v,v1,v2⟩:=d6 m x hx;simp only[if_true]at v2;obtain⟨_,lv,v3,v4⟩:=v2;obtain rfl:=af (b1.symm.trans v3);have hm:=(bG.1 hx).1;have hdist:=fun b hb=>hI.jz id id2 _ _ l l2 ho h2 a1 b1 hne b hb;have hblk:∀b∈xX w l m,b∈ob w l2 (.ar u x ver):=by intro b hb;simp only[xX,d1.cell,v1]at hb;rw[b2.2.1]at v4;cases x with|nil=>obtain rfl:=(aE v4).1;simp at hb|mk xr=>obtain⟨addr,cap,e,_⟩:=v4;obtain rfl:=(aE e).1;simpa[ob]using hb
 have hrow:NW S w u x v:=by
  rw[b2.2.1]at v4;cases x with
  |nil=>exact(aE v4).1
  |mk xr=>
   obtain⟨addr,cap,e,f1,f2,f3,f4⟩:=v4;obtain⟨arr2,d',g1,g2,g3,g4,g5,g6⟩:=b2.2.2.2.2 xr rfl;rw[b2.1]at f3 f4;refine⟨l2.cQ,addr,cap,arr2,d',(aE e).1,g1,f1,by rw[g2];exact f4,g5,?_⟩;rcases jJ cap with e0|e0
   .obtain rfl:xr=[]:=cu.1 (by omega);obtain rfl:d'=[]:=g5;trivial
   grind
 have hmem:∀b,b∈ob w l (.rw u (.mk r) none)->b∈ob w l (.rw u (.mk r) (some (m,id2)))\/b∈ob w l2 (.ar u x ver):=by
  intro b hb;rcases tG.1 hb with rfl|⟨i,hi,hb⟩
  .exact .inl (tG.2 (.inl rfl))
  .by_cases e:m=i
   .subst e;rw[mq]at hb;exact .inr (hblk b hb)
   .rw [mq]at hb;exact .inl (tG.2 (.inr ⟨i,hi,by rw[sN l e];exact hb⟩))
 refine hI.iT (fun i=>i=id\/i=id2) (iW.refl _ _) (Ren.refl _) hI.IQ hI.sk hI.yu (fun i o hi ho'=>?_) (fun i o lo hi ho' hl' b hb=>⟨rfl,?_⟩) fun i o hi ho'=>?_
 .rw [cx,if_neg (fun e=>hi (.inl e.symm)),cx,if_neg (fun e=>hi (.inr e.symm))]at ho';exact ho'
 .obtain ⟨l3,q1,_,q3⟩:=hI.o9 i o ho'
  grind
 .rcases hi with rfl|rfl
  .rw [cx,if_pos rfl]at ho';obtain rfl:=af ho';refine⟨l,a1,⟨c1,c2,c3,c4,fun r' e=>?_⟩,fun b hb=>?_⟩
   .cases e;refine⟨cr,d1,d2,d3,d4,fun i j b hi hj hb=>?_,fun i y hi=>?_⟩
    .rw [mq]at hb|-;by_cases e1:m=i
     .subst e1;have hb2:=hblk b hb
      grind [tG,sN]
     .have hb':b∈vR w l (some (m,id2)) i:=by rw[sN l e1];exact hb
      obtain⟨p1,p2⟩:=d5 i j b hi hj hb';refine⟨p1,fun hij hbj=>?_⟩;by_cases e2:m=j
      .subst e2;exact hdist b (tG.2 (.inr ⟨i,hi,hb'⟩)) (hblk b hbj)
      .exact p2 hij (by rw[sN l e2];exact hbj)
    grind
   .have hb3:¬S b/\¬K b/\b<w.heap.size:=(hmem b hb).elim (a3 b) (b3 b);refine⟨hb3.1,hb3.2.1,hb3.2.2,fun j a lm hj ha hlm hbm=>?_,fun j a lm hj hne2 ha=>?_⟩
    .rw [cx,if_neg (fun e=>hj (.inl e.symm)),cx,if_neg (fun e=>hj (.inr e.symm))]at ha;rcases hmem b hb with hb4|hb4
     .exact hI.jz i j _ a l lm ho ha a1 hlm (fun e=>hj (.inl e.symm)) b hb4 hbm
     .exact hI.jz id2 j _ a l2 lm h2 ha b1 hlm (fun e=>hj (.inr e.symm)) b hb4 hbm
    .rcases hj with rfl|rfl
     .exact absurd rfl hne2
     .rw [cx,if_neg (fun e=>hne2 e.symm),cx,if_pos rfl]at ha;cases ha
  .rw [cx,if_neg hne,cx,if_pos rfl]at ho';cases ho'
theorem Inv.split(hI:Inv S K w0 φ H w){id m n:Nat}{u:Ty}{r:List (Sl (El u))}{x:Sl (El u)}(ho:H id=some (.rw u (.mk r) none))(hx:r[m]?=some x)(hn:φ n=none):
  ∃l2 l v,φ id=some l/\w.cell? ⟨l.cQ,l.jA+m,none⟩=some v/\RC S w (ext φ n l2) (.so n) [v]/\Inv S K w0 (ext φ n l2) (up H [(n,some (.ar u x 0)),(id,some (.rw u (.mk r) (some (m,n))))]) w:=by
 obtain⟨l,a1,a2,a3⟩:=hI.o9 id _ ho;have a2':=a2;obtain⟨c1,c2,c3,c4,c5⟩:=a2;obtain⟨cr,d1,d2,d3,d4,d5,d6⟩:=c5 r rfl;obtain⟨v,v1,v2⟩:=d6 m x hx;have hm:=(bG.1 hx).1;have hne:id≠n:=fun e=>by rw[<-e,a1]at hn;cases hn
 have key:∃l2:rJ,l2.n=nB x/\RC S w (ext φ n l2) (.so n) [v]/\RO S w (ext φ n l2) l2 (.ar u x 0)/\∀b∈ob w l2 (.ar u x 0),b∈xX w l m:=by
  cases x with
  |nil=>obtain rfl:v=_:=v2;exact⟨⟨0,0,0,0,u,none⟩,rfl,⟨_,gQ _ _ _,rfl⟩,⟨rfl,rfl,c3,c4,fun r' e=>by cases e⟩,by simp[ob]⟩
  |mk xr=>
   obtain⟨b,addr,cap,arr2,d',rfl,g2,g3,g4,g5,g6⟩:=v2;have hmul:xr.length*ei u<=cap*ei u:=du _ g3;refine⟨⟨b,addr,arr2.size,cap,u,some xr.length⟩,rfl,⟨_,gQ _ _ _,addr,cap,rfl,g3,by simp,by simp,by simpa using g4⟩,⟨rfl,rfl,c3,c4,fun r' e=>?_⟩,?_⟩
   .grind
   .simp [ob,xX,d1.cell,v1]
 obtain⟨l2,k1,k2,k3,k4⟩:=key;have hmine:∀b∈xX w l m,b∈ob w l (.rw u (.mk r) none):=fun b hb=>tG.2 (.inr ⟨m,hm,by rw[mq];exact hb⟩)
 have hsub:∀b,b∈ob w l (.rw u (.mk r) (some (m,n)))->b∈ob w l (.rw u (.mk r) none):=by
  intro b hb;rcases tG.1 hb with rfl|⟨i,hi,hb⟩
  .exact tG.2 (.inl rfl)
  .by_cases e:m=i
   .subst e;rw[FI]at hb;cases hb
   .rw [sN l e]at hb;exact tG.2 (.inr ⟨i,hi,by rw[mq];exact hb⟩)
 have hapart:∀b,b∈ob w l (.rw u (.mk r) (some (m,n)))->b∉xX w l m:=by
  intro b hb hb2;rw[<-mq l m]at hb2;rcases tG.1 hb with rfl|⟨i,hi,hb⟩
  .exact (d5 m m _ hm hm hb2).1 rfl
  grind [FI,sN,mq]
 have hren:=pY (φ:=φ) l2 hn;refine⟨l2,l,v,a1,(d1.cell _).trans v1,k2,hI.iT (fun i=>i=id\/i=n) (iW.refl _ _) hren hI.IQ hI.sk hI.yu (fun i o hi ho'=>?_) (fun i o lo hi ho' hl' b hb=>⟨rfl,?_⟩) fun i o hi ho'=>?_⟩
 .rw [cx,if_neg (fun e=>hi (.inr e.symm)),cx,if_neg (fun e=>hi (.inl e.symm))]at ho';exact ho'
 .obtain ⟨l3,q1,_,q3⟩:=hI.o9 i o ho'
  grind
 .rcases hi with rfl|rfl
  .rw [cx,if_neg (fun e=>hne e.symm),cx,if_pos rfl]at ho';obtain rfl:=af ho';refine⟨l,hren _ _ a1,⟨c1,c2,c3,c4,fun r' e=>?_⟩,fun b hb=>?_⟩
   .cases e;refine⟨cr,d1,d2,d3,d4,fun p q b hp hq hb=>?_,fun p y hp=>?_⟩
    .by_cases e1:m=p
     .subst e1;rw[FI]at hb;cases hb
     grind [sN,mq,FI]
    .obtain ⟨y2,w1,w2⟩:=d6 p y hp;refine⟨y2,w1,?_⟩;by_cases e1:m=p
     .subst e1;obtain rfl:=af (hx.symm.trans hp);obtain rfl:=af (v1.symm.trans w1);simp_all[if_true,gQ]
     .simp only[if_neg e1];exact w2
   .obtain ⟨q1,q2,q3⟩:=a3 b (hsub b hb);refine⟨q1,q2,q3,fun j a lm hj ha hlm hbm=>?_,fun j a lm hj hne2 ha hlm hbm=>?_⟩
    .rw [cx,if_neg (fun e=>hj (.inr e.symm)),cx,if_neg (fun e=>hj (.inl e.symm))]at ha;exact hI.jz i j _ a l lm ho ha a1 hlm (fun e=>hj (.inl e.symm)) b (hsub b hb) hbm
    .rcases hj with rfl|rfl
     .exact absurd rfl hne2
     .rw [cx,if_pos rfl]at ha;obtain rfl:=af ha;obtain rfl:=af ((gQ _ _ _).symm.trans hlm);exact hapart b hb (k4 b hbm)
  .rw [cx,if_pos rfl]at ho';obtain rfl:=af ho';refine⟨l2,gQ _ _ _,k3,fun b hb=>?_⟩;have hb2:=hmine b (k4 b hb);obtain⟨q1,q2,q3⟩:=a3 b hb2;refine⟨q1,q2,q3,fun j a lm hj ha hlm hbm=>?_,fun j a lm hj hne2 ha hlm hbm=>?_⟩
   .rw [cx,if_neg (fun e=>hj (.inr e.symm)),cx,if_neg (fun e=>hj (.inl e.symm))]at ha;exact hI.jz id j _ a l lm ho ha a1 hlm (fun e=>hj (.inl e.symm)) b hb2 hbm
   .rcases hj with rfl|rfl
    .rw [cx,if_neg (fun e=>hne2 e.symm),cx,if_pos rfl]at ha;obtain rfl:=af ha;obtain rfl:=af ((hren _ _ a1).symm.trans hlm);exact hapart b hbm (k4 b hb)
    .exact absurd rfl hne2
theorem Yz{t:TypeId}{a:Operand}{id m:Nat}{u:Ty}{r:Sl (Sl (El u))}(ho:o.op=.load t a)(hag:gx P t=some false)(hs:fh P t=some 1)(hI:Inv S K w0 φ H w)(hp:RW S w φ (.ep id m (.sl u) []) (ρ a))(hH:H id=some (.rw u r none))(hn:φ n=none):
  ip P o ρ S K w0 w φ H n (n+1) (.so n) [(n,some (.ar u (gt r.l m) 0)),(id,some (.rw u r (some (m,n))))]:=by
 obtain⟨l,m1,k1,k2,k3,k4,k5,k6⟩:=R1.iB hp;have hlen:nB r=some m1:=by obtain⟨l2,o1,⟨_,b2,_⟩,_⟩:=hI.o9 id _ hH;simp_all
 obtain⟨rr,rfl,e0⟩:=q_ hlen;have hx:rr[m]?=some _:=ZA (by omega);obtain⟨l2,l',v,q1,q2,q3,q4⟩:=hI.split hH hx hn;have e2:CG (.sl u) []=0:=rfl;have e3:ei (.sl u)=1:=rfl;have run:=zZ (c:=[v]) hag hs ⟨q2,trivial⟩ rfl fun _=>rfl;refine⟨.value v,v,w,?_,.inl rfl,cA _,S,_,iW.refl _ _,pY l2 hn,(fun i lo h1 h3=>?_),(R1.CH q3 rfl).rw,q4⟩
 .simp_all [execOp,Instr.loadAt,Instr.sureAddr,rD]
 simp_all[ext]
theorem Pb{t:TypeId}{a x:Operand}{id id2 m ver:Nat}{u:Ty}{v:Sl (Sl (El u))}{r:Sl (El u)}{ln:Option (Nat×Nat)}(ho:o.op=.store t a x)(hs:fh P t=some 1)(hI:Inv S K w0 φ H w)(hp:RW S w φ (.ep id m (.sl u) []) (ρ a))(hx:RW S w φ (.so id2) (ρ x))
  (hH:H id=some (.rw u v ln)) (h2:H id2=some (.ar u r ver)) (hne:id2≠id) (hb:XG ln m=true):ip P o ρ S K w0 w φ H n n (.tp .ni) [(id,some (.rw u (.mk (v.l.set m r)) none)),(id2,none)]:=by
 obtain⟨l,m1,k1,k2,k3,k4,k5,k6⟩:=R1.iB hp;obtain⟨l',a1,a2,a3⟩:=hI.o9 id _ hH;obtain rfl:=af (k1.symm.trans a1);obtain⟨rr,rfl,e0⟩:=q_ (a2.2.1.symm.trans k3);obtain⟨c1,c2,c3,c4,c5⟩:=a2;obtain⟨cr,d1,d2,d3,d4,d5,d6⟩:=c5 rr rfl;have hm:m<rr.length:=by omega
 obtain⟨l2,b1,b2,b3⟩:=hI.o9 id2 _ h2;have hx1:=R1.iB hx;have hx2:=hx1;obtain⟨l2',x1,x2⟩:=hx2;obtain rfl:=af (b1.symm.trans x1);obtain⟨_,hone,hxe⟩:∃v,one v=true/\ρ x=v:=by grind [J_,aE]
 have hcells:(ρ x).cells.toList=[ρ x]:=by rw[Mm (by rw[hxe];exact hone)]
 obtain⟨old,o1,_⟩:=d6 m _ (ZA hm);have hat:At w l.cQ (l.jA+m) [old]:=⟨(d1.cell _).trans o1,trivial⟩
 obtain⟨p,q,e1,e2⟩:=KX d1 hat (by grind);have run:=MM (P:=P) (w:=w) (t:=t) (b:=l.cQ) (cr:=cr) (val:=ρ x) (p:=p) (m:=[old]) (q:=q) hs d1 e1 (by rw[hcells];rfl) (by rw[hcells];simp[hxe,hone]);rw[hcells]at run
 have hget:∀j,(p++[ρ x]++q).toArray[j]?=if j=l.jA+m then some (ρ x)else cr[j]?:=by
  intro j;rw[<-eF (xs:=cr),e1];simp only[fu,bm,List.singleton_append,List.getElem?_append,List.getElem?_cons,<-e2];by_cases h1:j<p.length
  .rw [if_pos h1,if_neg (by omega),if_pos h1]
  .by_cases h3:j=p.length
   .simp [h3]
   .rw [if_neg h1,if_neg (by omega),if_neg h3,if_neg h1,if_neg (by omega)]
 have hslot:∀i,m≠i->vR w l ln i=xX w l i:=by intro i hi;cases ln with|none=>exact mq l i|some q=>obtain⟨m',i'⟩:=q;obtain rfl:m'=m:=dT hb;exact sN l hi
 have hrowB:∀i,m≠i->xX (w.setRow l.cQ (p++[ρ x]++q).toArray) l i=xX w l i:=by intro i hi;simp only[xX,(Cb d1 (cr:=(p++[ρ x]++q).toArray)).cell,d1.cell,hget];rw[if_neg (by omega)]
 have hrow:∀i b,b∈vR (w.setRow l.cQ (p++[ρ x]++q).toArray) l (some (m,id2)) i->m≠i/\b∈vR w l ln i:=by
  intro i b hb;by_cases e:m=i
  .subst e;rw[FI]at hb;cases hb
  grind [sN]
 have hset:=hI.put (arr':=(p++[ρ x]++q).toArray) (o':=.rw u (.mk (rr.set m r)) (some (m,id2))) hH k1 (tG.2 (.inl rfl)) d1 (by have:=congrArg eg e1;simp at this|-;omega)
  (fun hs hown=>⟨c1,by rw[c2];simp[nB],c3,c4,fun r' e=>by
   cases e;refine⟨_,hown,by rw[<-d2];have:=congrArg eg e1;simp at this|-;omega,by simpa using d3,by simpa using d4,fun i j b hi hj hb=>?_,fun i y hi=>?_⟩
   .grind
   .by_cases e:m=i
    .subst e;rw[o7 hm]at hi;obtain rfl:=af hi;refine⟨ρ x,by rw[hget,if_pos rfl],?_⟩;simp only[if_true];exact⟨⟨l2,b1,b2.2.1⟩,RC.mono hs (Ren.refl _) hx1⟩
    .rw [List.getElem?_set_ne e]at hi;obtain⟨y2,g1,g2⟩:=d6 i y hi;refine⟨y2,by rw[hget,if_neg (by omega)];exact g1,?_⟩;simp only[if_neg e];have hr:NW S w u y y2:=by cases ln with|none=>exact g2|some q=>obtain⟨m',i'⟩:=q;obtain rfl:m'=m:=dT hb;simpa only[if_neg e]using g2
     refine hr.mono hs fun a1' n1 m1 ea=>?_;refine setRow_other w l.cQ _ _ fun e5=>?_;have:a1'.block∈vR w l ln i:=by rw[hslot i e];simp[xX,d1.cell,g1,ea]
     grind⟩)
  (fun b hb=>by
   rcases tG.1 hb with rfl|⟨i,hi,hb⟩
   .exact tG.2 (.inl rfl)
   grind [tG])
 have habs:=hset.2.aaI (id:=id) (id2:=id2) (m:=m) (r:=rr.set m r) (x:=r) (ver:=ver) (by rw[cx,if_pos rfl]) (by rw[cx,if_neg (fun e=>hne e.symm)];exact h2) (by rw[o7 hm]) (fun e=>hne e.symm);refine⟨.skip,undef,_,Ci ho ?_ run,.inr ⟨rfl,rfl⟩,jE.set hset.1 ?_⟩
 .have e1:=(aE k6).1;have e3:CG (.sl u) []=0:=rfl;have e4:ei (.sl u)=1:=rfl;rw[e3,e4,Nat.mul_one,gr,<-e2]at e1;exact e1
 .have:up (up H [(id,some (.rw u (.mk (rr.set m r)) (some (m,id2))))]) [(id,some (.rw u (.mk (rr.set m r)) none)),(id2,none)]=up H [(id,some (.rw u (.mk (rr.set m r)) none)),(id2,none)]:=by
   funext j;simp only[cx,GH];by_cases e:id=j
   .simp [e]
   .simp [e]
  rw[this]at habs;exact habs
end
section
variable{P:Program}{S S' K:Nat->Prop}{w0 w w':World}{φ φ':iq}{H:Hf}{o:Oper}{ρ:Operand->Value}{n:Nat}{h2:H2}
theorem yG{v:Value}{k:IntKind}{n:Int}{y:Nat}{code:BoundsCode}(h:v=.int k n)(h0:0<=n)(h1:n<=y):(Instr.sliceBound v y code).run P w=.ok n.toNat w:=by simp[Instr.sliceBound,w4 h,h0,h1]
def QP(ρ:Operand->Value):Option Operand->Option Int->Prop
 |none,none=>True
 |some x,some n=>∃k,ρ x=.int k n
 |_,_=>False
theorem EH{R0:Bool}{len cap:Nat}{lo hi:Option Operand}{l h:Option Int}(hl:QP ρ lo l)(hh:QP ρ hi h)(h0:0<=l.getD 0)(h1:l.getD 0<=h.getD len)(h2:h.getD len<=cap):
  (Instr.sliceBounds R0 len cap (lo.map ρ) (hi.map ρ) none).run P w=.ok ((l.getD 0).toNat,(h.getD len).toNat,cap) w:=by
 unfold Instr.sliceBounds;cases hi with
 |none=>
  cases h with
  |some _=>exact hh.elim
  |none=>
   cases lo with
   |none=>cases l with|none=>simp|some _=>exact hl.elim
   |some x=>cases l with|none=>exact hl.elim|some n=>obtain⟨k,e⟩:=hl;have:=yG (P:=P) (w:=w) (v:=.int k n) (code:=.sliceB) rfl h0 h1;simp[e,this]
 |some y=>
  cases h with
  |none=>exact hh.elim
  |some n=>
   obtain⟨k,e⟩:=hh;simp at h1 h2;have hb:=yG (P:=P) (w:=w) (v:=.int k n) (code:=if R0 then .sliceAcap else .sliceAlen) rfl (by omega) h2;cases lo with
   |none=>cases l with|none=>simp[e,hb]|some _=>exact hl.elim
   |some x=>cases l with|none=>exact hl.elim|some n'=>obtain⟨k',e'⟩:=hl;simp at h0 h1;have:=yG (P:=P) (w:=w) (v:=.int k' n') (y:=n.toNat) (code:=.sliceB) rfl h0 (by omega);simp[e,e',hb,this]
variable{t el:TypeId}{sz:Nat}{x:Operand}{lo hi:Option Operand}{a b:Option Int}
theorem P7{a0:Addr}{len cap:Nat}(ho:o.op=.slice t x lo hi none)(hu:P.underlying t=some (.slice el))(hsz:fh P el=some sz)(hl:QP ρ lo a)(hh:QP ρ hi b)
  (hx:ρ x=.slice (some a0) len cap) (h0:0<=a.getD 0) (h1:a.getD 0<=b.getD len) (h3:b.getD len<=len) (hc:len<=cap) (hsp:cap≠(a.getD 0).toNat->a0.spot=none):
  (execOp ρ o).run P w=.ok (.value (.slice (some (if cap=(a.getD 0).toNat then a0 else⟨a0.block,a0.off+(a.getD 0).toNat*sz,none⟩)) ((b.getD len).toNat-(a.getD 0).toNat) (cap-(a.getD 0).toNat))) w:=by
 have hb:=EH (P:=P) (w:=w) (R0:=true) (cap:=cap) hl hh h0 h1 (by omega);simp[execOp,ho,Instr.sliceAt,Instr.slice,Sem.run_bind,cU hu,Result.andThen_ok,hx,td,hb,m8 hsz];split
 .rfl
 .rename_i hne;obtain⟨bb,off,spot⟩:=a0;obtain rfl:spot=none:=hsp hne;simp[Cp]
theorem Gm{α:Type}{l r:List α}{lo hi:Int}(h:rG l lo hi=some r):0<=lo/\lo<=hi/\hi<=l.length/\r=(l.drop lo.toNat).take (hi.toNat-lo.toNat)/\r.length=hi.toNat-lo.toNat:=by
 obtain⟨h1,rfl⟩:=By.1 h
 grind
theorem acX{l1:rJ}{lo0 m:Nat}(ho:o.op=.slice t x lo hi none)(hu:P.underlying t=some (.slice el))(hsz:fh P el=some (ei l1.t))(hl:QP ρ lo a)(hh:QP ρ hi b)
  (hx:E6 l1 lo0 (some m) [ρ x]) (h0:0<=a.getD 0) (h1:a.getD 0<=b.getD m) (h3:b.getD m<=m):
  ∃v,(execOp ρ o).run P w=.ok (.value v) w/\E6 l1 (lo0+(a.getD 0).toNat) (some ((b.getD m).toNat-(a.getD 0).toNat)) [v]:=by
 obtain⟨addr,cap,e,k1,k2,k3,k4⟩:=hx;have e:=(aE e).1;refine⟨_,P7 ho hu hsz hl hh e h0 h1 h3 k1 (fun _=>rfl),?_⟩;generalize ha:(a.getD 0).toNat=p at*;by_cases ec:cap=p
 .rw [if_pos ec];exact⟨addr,cap-p,rfl,by omega,by omega,fun h=>by omega,by grind⟩
 .rw [if_neg ec];have hk3:=k3 (by omega);refine⟨_,cap-p,rfl,by omega,by omega,fun _=>?_,?_⟩
  .simp [hk3,h_];omega
  .have:p*ei l1.t+(cap-p)*ei l1.t=cap*ei l1.t:=by rw[<-h_];congr 1;omega
   simp only;omega
theorem ago{u:Ty}{r y:List (El u)}(ho:o.op=.slice t x lo hi none)(hu:P.underlying t=some (.slice el))(hsz:fh P el=some (ei u))(hl:QP ρ lo a)(hh:QP ρ hi b)
  (hx:RT S w (.sl u) (.mk r:Sl (El u)) [ρ x]) (hc:rG r (a.getD 0) (b.getD r.length)=some y):∃v,(execOp ρ o).run P w=.ok (.value v) w/\RT S w (.sl u) (.mk y:Sl (El u)) [v]:=by
 obtain⟨h0,h1,h3,rfl,hlen⟩:=Gm hc;obtain⟨a0,cap,e,k1,k2,k3⟩:=hx;have e:=(aE e).1;refine⟨_,P7 ho hu hsz hl hh e h0 h1 h3 k1 (fun hne=>?_),?_⟩
 .grind
 refine⟨_,_,by rw[hlen],by omega,k2,?_⟩;rcases k3 with⟨rfl,rfl⟩|⟨k3,k4,d,k5,k6⟩
 .exact .inl ⟨by simp,by omega⟩
 .by_cases ec:cap=(a.getD 0).toNat
  .simp_all
  .rw [if_neg ec];obtain⟨p,d2,q,rfl,r1,r2⟩:=GB (fun _ _ _ h=>RT.len h) k5 (a.getD 0).toNat _ (by omega);exact .inr ⟨k3,rfl,d2,r2,by rw[<-r1];exact xM k6⟩
theorem Nv{y:List Unit}(ho:o.op=.slice t x lo hi none)(hu:P.underlying t=some (.slice el))(hsz:fh P el=some sz)(hl:QP ρ lo a)(hh:QP ρ hi b)
  (hx:ρ x=.slice none 0 0) (hc:rG ([]:List Unit) (a.getD 0) (b.getD 0)=some y):(execOp ρ o).run P w=.ok (.value (.slice none 0 0)) w:=by
 obtain⟨h0,h1,h3,_⟩:=Gm hc;simp at h3;have e1:a.getD 0=0:=by omega
 have e2:b.getD 0=0:=by omega
 have hb:=EH (P:=P) (w:=w) (R0:=true) (len:=0) (cap:=0) hl hh h0 (by simpa using h1) (by simpa using h3);have e3:b.getD (((0:Nat):Int))=0:=e2;rw[e1,e3]at hb;simp only[execOp,ho,hx,Instr.sliceAt,Instr.slice,Sem.run_bind,cU hu,Result.andThen_ok,td,hb,m8 hsz];rfl
theorem acW{s y:ByteArray}(ho:o.op=.slice t x lo hi none)(hu:P.underlying t=some .string)(hl:QP ρ lo a)(hh:QP ρ hi b)(hx:ρ x=.string s)(hc:Jj s (a.getD 0) (b.getD s.size)=some y):
  (execOp ρ o).run P w=.ok (.value (.string y)) w:=by
 unfold Jj at hc;split at hc
 .rename_i hb;obtain rfl:=af hc;have:=EH (P:=P) (w:=w) (R0:=false) hl hh hb.1 hb.2.1 hb.2.2;simp[execOp,ho,hx,Instr.sliceAt,Instr.slice,cU hu,this]
 .cases hc
theorem yd{i:Int}{m k:Nat}(h:bS i m=some k):0<=i/\i<m/\i.toNat=k/\k<m:=by obtain⟨rfl,h'⟩:=jy.1 h;omega
theorem Gh{y:Operand}{kk:IntKind}{i:Int}{bb off len cap:Nat}(ho:o.op=.indexAddr t x y)(hu:P.underlying t=some (.slice el))(hsz:fh P el=some sz)(hy:ρ y=.int kk i)(hx:ρ x=.slice (some ⟨bb,off,none⟩) len cap)(h0:0<=i)(h1:i<len):
  (execOp ρ o).run P w=.ok (.value (.pointer (some ⟨bb,off+i.toNat*sz,none⟩))) w:=by
 simp[execOp,ho,hx,Instr.indexAt,w4 hy,cU hu,h0,h1,m8 hsz,Cp]
theorem Kn{y:Operand}{kk:IntKind}{i:Int}{bb off len:Nat}(ho:o.op=.indexAddr t x y)(hu:P.underlying t=some (.array len el))(hsz:fh P el=some sz)(hy:ρ y=.int kk i)(hx:ρ x=.pointer (some ⟨bb,off,none⟩))(h0:0<=i)(h1:i<len):
  (execOp ρ o).run P w=.ok (.value (.pointer (some ⟨bb,off+i.toNat*sz,none⟩))) w:=by
 have hu':=cU hu;simp only[execOp,ho,hx,Instr.indexAt,Sem.run_bind,w4 hy,Result.andThen_ok,hu',Instr.sureAddr,Sem.run_pure,h0,h1,and_self,if_true,m8 hsz,Cp]
theorem anh{u:Ty}{s:Sl (El u)}{v:Value}{i:Int}{k:Nat}(hx:RT S w (.sl u) s [v])(h:bS i s.l.length=some k):∃bb off len cap,v=.slice (some ⟨bb,off,none⟩) len cap/\0<=i/\i<len/\i.toNat=k/\RW S w φ (.pt u (gt s.l k)) (.pointer (some ⟨bb,off+k*ei u,none⟩)):=by
 obtain⟨h0,h1,h3,h4⟩:=yd h;obtain⟨r,rfl,h5⟩:=Sl.afW h4;obtain⟨a0,cap,e,k1,k2,k3⟩:=hx;rcases k3 with⟨rfl,_⟩|⟨k3,k4,d,k5,k6⟩
 .exact absurd h5 (Nat.not_lt_zero _)
 .obtain ⟨bb,off,sp⟩:=a0;obtain rfl:sp=none:=k4;obtain⟨p,m,q,rfl,r1,r2,_⟩:=Cq (fun _ _ _ h=>RT.len h) h5 k5;exact⟨bb,off,_,cap,(aE e).1,h0,h1,h3,(R1.CH (v:=.pt u _) ⟨bb,_,m,rfl,k3,r2,by rw[<-r1];exact xM k6⟩ rfl).rw⟩
theorem Zp{l1:rJ}{id lo q:Nat}{v:Value}{i:Int}{k:Nat}(hl:φ id=some l1)(hx:E6 l1 lo (some q) [v])(hin:inN l1 lo (some q))(h:bS i q=some k):∃bb off len cap,v=.slice (some ⟨bb,off,none⟩) len cap/\0<=i/\i<len/\i.toNat=k/\RW S w φ (.ep id (lo+k) l1.t []) (.pointer (some ⟨bb,off+k*ei l1.t,none⟩)):=by
 obtain⟨h0,h1,h3,h4⟩:=yd h;obtain⟨addr,cap,e,k1,k2,k3,k4⟩:=hx;obtain⟨m,m1,m2⟩:=hin;have e0:CG l1.t []=0:=by cases l1.t<;>rfl
 exact⟨l1.cQ,addr,q,cap,(aE e).1,h0,h1,h3,(R1.CH (v:=.ep id _ l1.t []) ⟨l1,m,hl,rfl,m1,by omega,by cases l1.t<;>trivial,by grind⟩ rfl).rw⟩
theorem YJ{p:xK}{t0:Ty}{m k:Nat}{u:Ty}(hp:Vv t0 p)(hu:Fw t0 p=some (.ar m u))(hk:k<m):Vv t0 (p++[.ix k])/\CG t0 (p++[.ix k])=CG t0 p+k*ei u:=by
 induction p generalizing t0 with
 |nil=>
  obtain rfl:t0=.ar m u:=by cases t0<;>first|(cases hu;done)|(cases hu;rfl)
  exact⟨⟨hk,by cases u<;>trivial⟩,by cases u<;>simp[CG]⟩
 |cons q p ih=>
  cases q with
  |fd j=>
   cases t0<;>first|exact hp.elim|skip
   obtain⟨u3,h3,hp⟩:=hp;simp only[Fw,h3]at hu;obtain⟨q1,q2⟩:=ih hp hu;exact⟨⟨u3,h3,q1⟩,by simp only[eX,CG,h3,q2,gF]⟩
  |ix j=>
   cases t0<;>first|exact hp.elim|skip
   obtain⟨q1,q2⟩:=ih hp.2 hu;exact⟨⟨hp.1,q1⟩,by simp only[eX,CG,q2,gF]⟩
theorem Se{y:Operand}{kk:IntKind}{s:ByteArray}{i c:Int}(ho:o.op=.index t x y)(hu:P.underlying t=some .string)(hy:ρ y=.int kk i)(hx:ρ x=.string s)(h:atS s i=some c):(execOp ρ o).run P w=.ok (.value (.int .u8 c)) w:=by
 unfold atS at h;split at h
 .rename_i h0;obtain⟨b,hb,rfl⟩:=dh.1 h;simp[execOp,ho,hx,Instr.index,w4 hy,cU hu,h0,hb]
 .cases h
theorem YA{y:Operand}{kk:IntKind}{agg:Bool}{len m k:Nat}{u:Ty}{v:Arr len (El u)}{i:Int}(ho:o.op=.index t x y)(hu:P.underlying t=some (.array len el))(ha:gx P el=some agg)(hs:fh P el=some m)
  (hI:Inv S K w0 φ H w) (hy:ρ y=.int kk i) (hx:RW S w φ (.x (.ar len u) v) (ρ x)) (hm:ei u=m) (hg:kR u=agg) (h1:agg=false->m=1) (h:bS i len=some k):ip P o ρ S K w0 w φ H n n (.x u (gt v.1 k)) []:=by
 obtain⟨h0,h3,h4,h5⟩:=yd h;obtain⟨c,k1,k2⟩:=R1.agg hx;obtain⟨p,mm,q,rfl,r1,r2,_⟩:=Cq (fun _ _ _ h=>RT.len h) (by rw[v.2];exact h5) (k1);have hl:=r2.len.trans hm;subst hl;have:=OB (w:=w) (a:=p) (b:=q) ha hs h1;refine ip.pure hI ?_ (R1.of (v:=.x u _) r2 hg h1).rw;rw[r1,hm]at this;simp[execOp,ho,k2,Instr.index,w4 hy,cU hu,h0,h3,m8 hs,h4]at this|-;simp[this]
end
section
variable{P:Program}{S S' K:Nat->Prop}{w0 w w':World}{φ φ':iq}{H:Hf}{o:Oper}{ρ:Operand->Value}{n:Nat}{h2:H2}{l:List Nat}
def zE(P:Program)(w:World)(sz k:Nat)(xv:Value)(c:List Value):Prop:=c.length=k*sz/\∀w':World,w'.heap=w.heap->(Builtin.lenOf xv).run P w'=.ok k w'/\∀j,j<=k->(Builtin.firstCells sz j xv).run P w'=.ok (c.take (j*sz)).toArray w'
theorem Qa{sz k cap b off:Nat}{c:List Value}(h:At w b off c)(hl:c.length=k*sz):zE P w sz k (.slice (some ⟨b,off,none⟩) k cap) c:=by
 refine⟨hl,fun w' hw=>⟨rfl,fun j hj=>?_⟩⟩;have hle:j*sz<=k*sz:=du _ hj;have e:(c.take (j*sz)).length=j*sz:=by rw[bw];omega
 have:=run_loadCells_list (P:=P) w' _ (c.take (j*sz)) fun i v hi=>by
  rw[Cp];rw[List.getElem?_take]at hi;split at hi
  .have:=h.get hi;simpa[World.cell?,hw]using this
  .cases hi
 rw[e]at this;exact this
theorem WP.aeB{B:Nat->Prop}{t:Ty}{s:Sl (El t)}{xv:Value}(h:WP B S w t s [xv]):∃c,o_ (RT S w t) s.l c/\zE P w (ei t) s.l.length xv c:=by
 have nil:∀q cap,xv=.slice q 0 cap->zE P w (ei t) 0 xv []:=by
  rintro q cap rfl;refine⟨by simp,fun w' _=>⟨rfl,fun j hj=>?_⟩⟩;obtain rfl:j=0:=by omega
  cases q with|none=>simp[Builtin.firstCells]|some a=>simp[Builtin.firstCells];rfl
 cases s with
 |nil=>exact⟨[],rfl,nil _ _ (aE h).1⟩
 |mk r=>
  obtain⟨a,cap,e,h2,h3,h4⟩:=h;have e:=(aE e).1;rcases h4 with⟨rfl,rfl⟩|⟨_,k2,d,k3,k4⟩
  .exact ⟨[],rfl,nil _ _ e⟩
  .obtain ⟨b,off,sp⟩:=a;obtain rfl:sp=none:=k2;exact⟨d,k3,by rw[e];exact Qa k4 (o_.len (fun _ _ _ h=>RT.len h) k3)⟩
theorem DG{x:V}{xv:Value}{t0 t:Ty}{m:Sl (El t)}{ids:List Nat}{nn:Nat}(hI:Inv S K w0 φ H w)(hx:RW S w φ x xv)(h:slX t0 h2 x=some ⟨t,m,ids⟩)(ha:∀i∈ids,H i=fO h2 i)(hal:tM h2 x=true)(hok:fG nn h2 x):
  ∃c,o_ (RT S w t) m.l c/\zE P w (ei t) m.l.length xv c:=by
 have gen:Oo h2 x=some ⟨t,m,ids⟩->∃c,o_ (RT S w t) m.l c/\zE P w (ei t) m.l.length xv c:=by
  intro h
  have:RC S w φ x [xv]:=by
   cases x<;>first|(cases h;done)|exact R1.iB hx|skip
   rename_i u _ _;cases u<;>first|(cases h;done)|exact R1.iB hx
  exact(adL hI h this ha hal hok).1.aeB
 unfold slX at h;split at h
 .obtain ⟨e1,e2⟩:=ir (af h);subst e1;obtain⟨rfl,rfl⟩:=aq (eq_of_heq e2);exact WP.aeB (B:=S) (R1.iB hx)
 .exact gen h
theorem acC(need:Nat)(c:Nat):Builtin.growBy need 4 c<=3*c+3072:=by
 grind [Builtin.growBy]
theorem afY{need cap:Nat}(h1:need<=2147483648)(h2:cap<need):Builtin.nextslicecap need cap<=6442454016:=by
 grind [Builtin.nextslicecap,acC]
def HA(P:Program)(el:TypeId)(n:Nat):Prop:=n<=2147483648\/(Ew P el=true/\n<=17592186044416)
theorem ab9{need cap:Nat}(h1:need<=17592186044416)(h2:cap<need):Builtin.nextslicecap need cap<=35184372088832:=by
 have key:∀r c,c<=need+(need+768)/4->Builtin.growBy need r c<=need+(need+768)/4:=by intro r;induction r with|zero=>intro c hc;exact hc|succ r ih=>grind [Builtin.growBy]
 grind [Builtin.nextslicecap]
structure QI(P:Program)(o:Oper)(s x:Operand)(el:TypeId)(m:Nat)(z:List Value):Prop where
 op:∃c st xt el2,o.op=.call c/\c.callee=.builtin .append/\c.args= #[s,x]/\c.argTypes= #[st,xt]/\P.underlying st=some (.slice el)/\P.underlying xt=some (.slice el2)
 sz:fh P el=some (m+1)
 ze:jH P el=some z
 zl:z.length=m+1
 by_:vg P el=true
variable{s x:Operand}{el:TypeId}{m k sLen sCap:Nat}{z new:List Value}
theorem OC(hT:QI P o s x el m z){jA:Option Addr}{old:List Value}(hs:ρ s=.slice jA sLen sCap)(hel:zE P w (m+1) k (ρ x) new)(hlt:sCap<sLen+k)(hle:HA P el (sLen+k))
  (hold:∀w':World,w'.heap=w.heap->(Builtin.firstCells (m+1) sLen (.slice jA sLen sCap)).run P w'=.ok old.toArray w'):
  ∃newCap e,sLen+k<=newCap/\e.length=(newCap-(sLen+k))*(m+1)/\(execOp ρ o).run P w=.ok (.value (.slice (some ⟨w.heap.size,0,none⟩) (sLen+k) newCap))
   {({w with drawn:=w.drawn+1}:World)with heap:=w.heap.push (.cells (old++new++e).toArray el)}:=by
 obtain⟨⟨c,st,xt,el2,ho,hcal,hargs,hts,hus,hux⟩,hsz,hz,hzl,hby⟩:=hT;obtain⟨inf,hinf,hb0,hb1⟩:=Ib hby;obtain⟨zv,hzr,hzv,_⟩:=yF hz w;have hinfo:∀w:World,(typeInfo el).run P w=.ok inf w:=fun w=>by simp[typeInfo,hinf]
 have hzr':∀w:World,(zeroValue el).run P w=.ok zv w:=by intro w';simp only[zeroValue,typeInfo,Sem.run_bind,run_program,Result.andThen_ok,hinf,Sem.run_pure]at hzr|-;cases hzz:inf.zero with|none=>rw[hzz]at hzr;simp at hzr|some q=>simp_all
 have hunx:∀w:World,(underlying xt).run P w=.ok (.slice el2) w:=cU hux;refine⟨(Question.appendCap (sLen+k) sCap el).cut (w.tape w.drawn (.appendCap (sLen+k) sCap el)),(Builtin.zeroCells zv.cells ((Question.appendCap (sLen+k) sCap el).cut (w.tape w.drawn (.appendCap (sLen+k) sCap el))-(sLen+k))).toList,by simp[Question.cut],?_,?_⟩
 .grind [Builtin.zeroCells]
 have hcap:¬Builtin.nextslicecap (sLen+k) sCap*inf.bytes>2^48:=by
  rcases hle with hle|⟨hwd,hle⟩
  .have h1:=afY hle hlt;have h2:=Nat.mul_le_mul h1 hb1;omega
  .have h1:=ab9 hle hlt;have hb8:inf.bytes<=8:=by unfold Ew at hwd;simp_all
   have h2:Builtin.nextslicecap (sLen+k) sCap*inf.bytes<=35184372088832*8:=Nat.mul_le_mul h1 hb8;omega
 have hbz:¬inf.bytes=0:=by omega
 have hnle:¬sLen+k<=sCap:=by omega
 have ho2:=hold {w with drawn:=w.drawn+1} rfl;have hn2:=(hel.2 {w with drawn:=w.drawn+1} rfl).2 k (aw _);rw[<-hel.1,dM]at hn2;have hl2:=(hel.2 w rfl).1
 simp only[execOp,ho,hcal,resolve,hargs,Sem.run_bind,Sem.run_pure,Result.andThen_ok,invoke,builtin,Builtin.append_,hts,iR,bN,iv,hs,fu,
  eB,ge,cU hus,m8 hsz,hunx,hl2,hnle,if_false,hinfo,hcap,hbz,gw,or_self,and_false,run_choose,Question.forced,run_askRoom,ho2,hn2,hzr',newRow,run_newObj,fq,if_true]
 congr 4;apply Array.ext';simp
theorem XR(hT:QI P o s x el m z){b addr:Nat}{cr:Array Value}{p mm q:List Value}(hs:ρ s=.slice (some ⟨b,addr,none⟩) sLen sCap)(hel:zE P w (m+1) k (ρ x) new)(hle:sLen+k<=sCap)
  (hown:uq w b cr) (he:cr.toList=p++mm++q) (hp:p.length=addr+sLen*(m+1)) (hmm:mm.length=new.length) (hone:∀v∈new,one v=true):
  (execOp ρ o).run P w=.ok (.value (.slice (some ⟨b,addr,none⟩) (sLen+k) sCap)) (w.setRow b (p++new++q).toArray):=by
 obtain⟨⟨c,st,xt,el2,ho,hcal,hargs,hts,hus,hux⟩,hsz,hz,hzl,hby⟩:=hT;have hunx:=cU hux;have hn2:=(hel.2 w rfl).2 k (aw _);rw[<-hel.1,dM]at hn2;have hl2:=(hel.2 w rfl).1;obtain⟨ty,hty⟩:=hown;have hsize:=congrArg eg he;simp at hsize;have gj:=run_storeCells_at P b (addr+sLen*(m+1)) ty new 0 cr w hty (by omega) (fun v hv=>by rw[ES];exact hone v hv);have e1:cr.toList.take (addr+sLen*(m+1))=p:=by simp_all
 have e2:cr.toList.drop (addr+sLen*(m+1)+new.length)=q:=by rw[he,<-hp,<-hmm,<-au,List.drop_left]
 simp only[gr,e1,e2]at gj
 simp only[execOp,ho,hcal,resolve,hargs,Sem.run_bind,Sem.run_pure,Result.andThen_ok,invoke,builtin,Builtin.append_,hts,iR,bN,iv,hs,fu,
  eB,ge,cU hus,m8 hsz,hunx,hl2,hle,if_true,fq,hn2,gw,if_false,Cp,List.toList_toArray,gj]
theorem XS(hT:QI P o s x el m z)(hs:ρ s=.slice none 0 0)(hel:zE P w (m+1) 0 (ρ x) new):(execOp ρ o).run P w=.ok (.value (.slice none 0 0)) w:=by
 obtain⟨⟨c,st,xt,el2,ho,hcal,hargs,hts,hus,hux⟩,hsz,hz,hzl,hby⟩:=hT;have hunx:=cU hux;have hn2:=(hel.2 w rfl).2 0 (aw _);have hl2:=(hel.2 w rfl).1
 simp only[execOp,ho,hcal,resolve,hargs,Sem.run_bind,Sem.run_pure,Result.andThen_ok,invoke,builtin,Builtin.append_,hts,iR,bN,iv,hs,fu,
  eB,ge,cU hus,m8 hsz,hunx,hl2,aw,if_true,fq,hn2,gw,if_false,gr]
theorem Inv.anK(hI:Inv S K w0 φ H w){cr arr':Array Value}{l:rJ}{x:O}(hn:φ n=none)(hS:¬S l.cQ)(hK:¬K l.cQ)(hfree:∀j a m,H j=some a->φ j=some m->l.cQ∉ob w m a)(hown:uq w l.cQ cr)(hsz:arr'.size=cr.size)
  (hro:iW S w S (w.setRow l.cQ arr')->uq (w.setRow l.cQ arr') l.cQ arr'->RO S (w.setRow l.cQ arr') (ext φ n l) l x) (hob:ob (w.setRow l.cQ arr') l x=[l.cQ]):
  iW S w S (w.setRow l.cQ arr')/\Inv S K w0 (ext φ n l) (up H [(n,some x)]) (w.setRow l.cQ arr'):=by
 have hother:∀c,c≠l.cQ->(w.setRow l.cQ arr').heap[c]?=w.heap[c]?:=fun c hc=>setRow_other w l.cQ c _ hc;have hsize:(w.setRow l.cQ arr').heap.size=w.heap.size:=by simp
 have hs:iW S w S (w.setRow l.cQ arr'):=⟨fun _ h=>h,fun b h=>hother b fun e=>hS (e▸h)⟩
 refine⟨hs,hI.iT (fun j=>j=n) hs (pY l hn) (fun b hb=>hsize▸hI.IQ b hb) hI.sk ?_ (fun i a hi ha=>?_) (fun i a m hi ha hm b hb=>?_) fun i a hi ha=>?_⟩
 .refine ⟨hI.yu.WM,fun b hb=>(hother b fun e=>hK (e▸hb)).trans (hI.yu.tH b hb),hsize▸hI.yu.grow,fun a ha=>(Ej hown a).trans (hI.yu.frz a ha),fun b a h=>?_,hI.yu.io.trans ⟨rfl,rfl,rfl,aw _⟩⟩;obtain⟨a',k1,k2⟩:=hI.yu.N0 b a h;by_cases e:b=l.cQ
  .grind [Js]
  .exact ⟨a',k1.mg (hother b e),k2⟩
 .rw [cx,if_neg (fun e=>hi e.symm)]at ha;exact ha
 .obtain ⟨m2,b1,_,b4⟩:=hI.o9 i a ha
  grind
 .subst hi;rw[cx,if_pos rfl]at ha;obtain rfl:=af ha;refine⟨l,gQ _ _ _,hro hs (Cb hown),fun b hb=>?_⟩;rw[hob]at hb;obtain rfl:=List.mem_singleton.1 hb;refine⟨hS,hK,hsize▸hown.lt,fun j a m hj ha hm=>?_,fun j a m hj hne=>absurd hj hne⟩;rw[cx,if_neg (fun e=>hj e.symm)]at ha;exact hfree j a m ha hm
theorem Inv.aoi(hI:Inv S K w0 φ H w){l:rJ}{x:O}(hn:φ n=none)(hro:RO S w (ext φ n l) l x)(hob:ob w l x=[]):Inv S K w0 (ext φ n l) (up H [(n,some x)]) w:=by
 refine hI.iT (fun j=>j=n) (iW.refl _ _) (pY l hn) hI.IQ hI.sk hI.yu (fun i a hi ha=>?_) (fun i a m hi ha hm b hb=>⟨rfl,?_⟩) fun i a hi ha=>?_
 .rw [cx,if_neg (fun e=>hi e.symm)]at ha;exact ha
 .obtain ⟨m2,b1,_,b4⟩:=hI.o9 i a ha;simp_all
 .subst hi;rw[cx,if_pos rfl]at ha;obtain rfl:=af ha;exact⟨l,gQ _ _ _,hro,by rw[hob];simp⟩
theorem jE.ext{l:rJ}{u:xm}{v:V}{val:Value}(hn:φ n=none)(hs:iW S w S w')(hv:RW S w' (ext φ n l) v val)(hI:Inv S K w0 (ext φ n l) (up H u) w'):jE S K w0 w φ H n (n+1) v u val w':=
 ⟨cA _,S,_,hs,pY l hn,(fun i m h1 h3=>by
  grind [Ev.ext]),hv,hI⟩
theorem jE.after{u1 u:xm}{v:V}{val:Value}{n':Nat}(h:jE S K w0 w φ (up H u1) n n' v u val w'):jE S K w0 w φ H n n' v (u++u1) val w':=by obtain⟨h1,S',φ',h2,h3,h4,h5,h6⟩:=h;exact⟨h1,S',φ',h2,h3,h4,h5,by rw[mj];exact h6⟩
theorem Uo(hT:QI P o s x el m z)(hI:Inv S K w0 φ H w)(hn:φ n=none){t:Ty}{ml:List (El t)}(hd:oq t=true)(hsz:ei t=m+1)(hs:ρ s=.slice none 0 0)(hr:o_ (RT S w t) ml new)(hel:zE P w (m+1) ml.length (ρ x) new)(hle:HA P el ml.length):
  ∃val w',(execOp ρ o).run P w=.ok (.value val) w'/\jE S K w0 w φ H n (n+1) (.so n) [(n,some (.ar t (AZ Sl.nil ml ml) 0))] val w':=by
 cases ml with
 |nil=>exact⟨_,w,XS hT hs hel,jE.ext (l:=⟨0,0,0,0,t,none⟩) hn (iW.refl _ _) (R1.rw (R1.CH ⟨_,gQ _ _ _,rfl⟩ rfl)) (hI.aoi hn ⟨rfl,rfl,hd,by omega,fun r e=>by cases e⟩ rfl)⟩
 |cons y ml=>
  obtain⟨newCap,e,h1,h3,h4⟩:=OC hT (old:=[]) hs hel (by simp) (by simpa using hle) fun w' _=>by simp[Builtin.firstCells]
  rw[dJ]at h1 h3 h4;have hD:=jE.cr (cr:=([]++new++e).toArray) (e:=e) (hI.D3 _ (cA _)) hn el hd (by omega) (hr.imp fun _ _ _=>RT.mono (iW.D3 S w _)) (by simp) h1 (by simp[hel.1,h3];rw[<-h_];simp_all);refine⟨_,_,h4,?_⟩;obtain⟨a1,S',φ',a2,a3,a4,a5,a6⟩:=hD;exact⟨a1,S',φ',(iW.D3 S w _).trans a2,a3,a4,a5,a6⟩
theorem adr(hT:QI P o s x el m z)(hI:Inv S K w0 φ H w)(hn:φ n=none){id lo ver:Nat}{t:Ty}{l1:rJ}{l0 vl ml:List (El t)}{sv:Sl (El t)}(hH:H id=some (.ar t (.mk l0) ver))(hl:φ id=some l1)
  (hs:E6 l1 lo (some vl.length) [ρ s]) (hv:vl=(l0.drop lo).take vl.length) (hlo:lo+vl.length<=l0.length) (hsz:ei t=m+1) (hr:o_ (RT S w t) ml new) (hel:zE P w (m+1) ml.length (ρ x) new) (hle:HA P el (vl.length+ml.length)):
  ∃val w',(execOp ρ o).run P w=.ok (.value val) w'/\jE S K w0 w φ H n (n+1) (.so n) [(n,some (.ar t (.mk (vl++ml)) 0)),(id,none)] val w':=by
 obtain⟨b1,b2,b3,b4,cr,pa,d,qa,c1,c2,c3,c4,e1,e2,c5,c6⟩:=hI.cells hH hl;obtain⟨da,d0,db,rfl,r1,r2⟩:=GB (fun _ _ _ h=>RT.len h) c5 lo vl.length (by omega);rw[<-hv]at r2;have hd0:d0.length=vl.length*(m+1):=by rw[o_.len (fun _ _ _ h=>RT.len h) r2,hsz]
 obtain⟨l2,o1,_,o3⟩:=hI.o9 id _ hH;obtain rfl:=af (hl.symm.trans o1);obtain⟨oS,oK,_⟩:=o3 l1.cQ (by simp[ob])
 have hkill:Inv S K w0 φ (up H [(id,none)]) w:=hI.G7 fun i a ha=>by
  rw[cx]at ha;split at ha
  .cases ha
  .exact ha
 have hfree:∀j a mm,up H [(id,none)] j=some a->φ j=some mm->l1.cQ∉ob w mm a:=by
  intro j a mm ha hm;rw[cx]at ha;split at ha
  .cases ha
  .rename_i hj;exact fun hb=>hI.jz id j _ a l1 mm hH ha hl hm hj l1.cQ (by simp[ob]) hb
 obtain⟨addr,cap,es,k1,k2,k3,k4⟩:=hs;have es:=(aE es).1;rw[b1,hsz]at k3 k4
 have hat:At w l1.cQ addr d0:=by
  rcases jJ cap with e|e
  .obtain rfl:d0=[]:=cu.1 (by
    grind)
   trivial
  .rw [k3 e];have:=xM c6;rwa[r1,hsz]at this
 have hone:∀v∈new,one v=true:=o_.all (fun _ _ _ h=>RT.one h) hr;by_cases hroom:vl.length+ml.length<=cap
 .have hcm:(vl.length+ml.length)*(m+1)<=cap*(m+1):=du _ hroom;rw[h_]at hcm;obtain⟨p0,q0,f1,f2⟩:=KX c1 hat (by omega);have hq0:q0=q0.take new.length++q0.drop new.length:=(dG _ _).symm;have hlen:=congrArg eg f1;simp at hlen;have hnl:=hel.1;have run:=XR hT (p:=p0++d0) (mm:=q0.take new.length) (q:=q0.drop new.length) es hel hroom c1 (by rw[f1,bm (p0++d0),<-hq0]) (by simp;omega) (by simp;omega) hone
  have hcl:=hkill.anK (l:=⟨l1.cQ,addr,l1.ext,cap,t,some (vl++ml).length⟩) (x:=.ar t (.mk (vl++ml)) 0) (arr':=(p0++d0++new++q0.drop new.length).toArray) hn oS oK hfree c1 (by simp;omega)
   (fun hs hown=>⟨rfl,rfl,b3,b4,fun r e=>by cases e;refine⟨_,d0++new,hown,by rw[<-c2];simp;omega,by simpa using hroom,by rw[hsz];simp[h_];omega,ns.2 ⟨d0,new,rfl,r2.imp fun _ _ _=>RT.mono hs,hr.imp fun _ _ _=>RT.mono hs⟩,?_⟩;have:=SK hown (a:=p0) (c:=d0++new) (e:=q0.drop new.length) (by simp);rwa[f2]at this⟩) rfl
  refine⟨_,_,run,jE.after (u:=[(n,some (.ar t (.mk (vl++ml)) 0))]) (jE.ext (l:=⟨l1.cQ,addr,l1.ext,cap,t,some (vl++ml).length⟩) hn hcl.1 (R1.rw (R1.CH ⟨_,gQ _ _ _,addr,cap,by simp,by simpa using hroom,by simp,by simp,by simp only;rw[hsz];exact k4⟩ rfl)) hcl.2)⟩
 .obtain ⟨newCap,e,h1,h3,h4⟩:=OC hT (old:=d0) es hel (by omega) hle fun w' hw=>by have:=(Qa (P:=P) (sz:=m+1) (k:=vl.length) (cap:=cap) hat hd0).2 w' hw|>.2 vl.length (aw _);rwa[<-hd0,dM]at this
  have gj:=iW.D3 S w (w.drawn+1);have hD:=jE.cr (K:=K) (w0:=w0) (cr:=(d0++new++e).toArray) (e:=e) (hkill.D3 (w.drawn+1) (cA _)) hn el b3 (by omega) (r:=vl++ml) (ns.2 ⟨d0,new,rfl,r2.imp fun _ _ _=>RT.mono gj,hr.imp fun _ _ _=>RT.mono gj⟩) (by simp) (by simpa using h1) (by rw[hsz];simp[hel.1,h3,hd0];rw[<-h_,<-h_];apply du;omega);refine⟨_,_,h4,jE.after (u:=[(n,some (.ar t (.mk (vl++ml)) 0))]) ?_⟩;obtain⟨a1,S',φ',a2,a3,a4,a5,a6⟩:=hD;rw[au]at a5;exact⟨a1,S',φ',gj.trans a2,a3,a4,a5,a6⟩
end
section
variable{P:Program}{S S' K:Nat->Prop}{w0 w w':World}{φ φ':iq}{H:Hf}{o:Oper}{ρ:Operand->Value}{n:Nat}{h2:H2}{l:List Nat}
theorem adx{α:Type}{R:α->List Value->Prop}{sz:Nat}{l:List α}{c:List Value}(hn:∀x∈l,∀c,R x c->c.length=sz)(h:o_ R l c){k m:Nat}(hk:k+m<=l.length):
  ∃a d b,c=a++d++b/\a.length=k*sz/\d.length=m*sz/\∀y e,o_ R y e->y.length=m->o_ R (kV l k y) (a++e++b):=by
 have e:l=l.take k++((l.drop k).take m++(l.drop k).drop m):=by rw[dG,dG]
 rw[e]at h;obtain⟨a,b,rfl,h1,h2⟩:=ns.1 h;obtain⟨d,f,rfl,h3,h4⟩:=ns.1 h2;refine⟨a,d,f,by simp,?_,?_,fun y e hy hl=>?_⟩
 .rw [o_.len (fun x hx=>hn x (List.mem_of_mem_take hx)) h1,bw,ig (by omega)]
 .rw [o_.len (fun x hx=>hn x (List.mem_of_mem_drop (List.mem_of_mem_take hx))) h3,bw,List.length_drop,ig (by omega)]
 .unfold kV;rw[hl,bm,bm];exact ns.2 ⟨a,e++f,rfl,h1,ns.2 ⟨e,f,rfl,hy,by rw[<-ol];exact h4⟩⟩
theorem Inv.seg(hI:Inv S K w0 φ H w){id lo len k ver ver':Nat}{u:Ty}{l1:rJ}{l0 y:List (El u)}{e:List Value}{xv:Value}(hH:H id=some (.ar u (.mk l0) ver))(hl:φ id=some l1)(hh:E6 l1 lo (some len) [xv])(hk:k<=len)(hlo:lo+len<=l0.length)
  (hy:o_ (RT S w u) y e) (hyl:y.length=k):∃addr cap cr p mm q,xv=.slice (some ⟨l1.cQ,addr,none⟩) len cap/\uq w l1.cQ cr/\cr.toList=p++mm++q/\p.length=addr/\mm.length=e.length/\
   iW S w S (w.setRow l1.cQ (p++e++q).toArray)/\Inv S K w0 φ (up H [(id,some (.ar u (.mk (kV l0 lo y)) ver'))]) (w.setRow l1.cQ (p++e++q).toArray):=by
 obtain⟨b1,b2,b3,b4,cr,pa,d,qa,c1,c2,c3,c4,e1,e2,c5,c6⟩:=hI.cells hH hl;obtain⟨da,d0,db,rfl,r1,r2,r3⟩:=adx (fun _ _ _ h=>RT.len h) c5 (k:=lo) (m:=k) (by omega);obtain⟨addr,cap,es,k1,k2,k3,k4⟩:=hh;have hel:e.length=k*ei u:=by rw[o_.len (fun _ _ _ h=>RT.len h) hy,hyl]
 have hnew:=r3 y e hy hyl;have hsl:(kV l0 lo y).length=l0.length:=Ed _ _ _ (by omega);have hput:=hI.adO (ver':=ver') (d':=da++e++db) hH hl c1 e1 e2 (by simp;omega) hsl fun w' hs=>hnew.imp fun _ _ _=>RT.mono hs;rcases jJ k with h0|h0
 .subst h0;rw[jc]at hel r2;obtain rfl:=cu.1 hel;have hle:addr<=cr.toList.length:=by rw[Array.length_toList,c2];omega
  refine⟨addr,cap,cr,cr.toList.take addr,[],cr.toList.drop addr,(aE es).1,c1,by simp,by rw[bw];omega,rfl,?_⟩;simp_all
 grind
theorem LO{b addr:Nat}{cr:Array Value}{p mm q e:List Value}(hown:uq w b cr)(he:cr.toList=p++mm++q)(hp:p.length=addr)(hmm:mm.length=e.length)(hone:∀v∈e,one v=true):
  (storeCells ⟨b,addr,none⟩ e).run P w=.ok () (w.setRow b (p++e++q).toArray):=by
 obtain⟨ty,hty⟩:=hown;have hsize:=congrArg eg he;simp at hsize;have gj:=run_storeCells_at P b addr ty e 0 cr w hty (by omega) (fun v hv=>by exact hone v hv)
 grind
theorem jE.tH{m:Nat}{u:xm}{v:V}{val:Value}(hs:iW S w S w')(hv:RW S w' φ v val)(hI:Inv S K w0 φ (up H u) w'):jE S K w0 w φ H m m v u val w':=⟨aw _,S,φ,hs,Ren.refl _,(fun i l h1 h2=>by rw[h1]at h2;cases h2),hv,hI⟩
variable{c:te}{d x:Operand}{dt xt el:TypeId}{m:Nat}
theorem OD(ho:o.op=.call c)(hcal:c.callee=.builtin .copy)(hargs:c.args= #[d,x])(hts:c.argTypes= #[dt,xt])(hud:P.underlying dt=some (.slice el))(hsz:fh P el=some (m+1)){q:Option Addr}{len cap k:Nat}{new:List Value}
  (hd:ρ d=.slice q len cap) (hel:zE P w (m+1) k (ρ x) new) (gj:∀a,q=some a->(storeCells a (new.take (min k len*(m+1)))).run P w=.ok () w') (hq:q=none->len=0/\w'=w):
  (execOp ρ o).run P w=.ok (.value (goInt ((min k len:Nat):Int))) w':=by
 obtain⟨h1,h3⟩:=hel.2 w rfl;have h4:=h3 (min k len) (Nat.min_le_left _ _);have hmn:Nat.min k len=min k len:=rfl;cases q with
 |none=>
  obtain⟨rfl,rfl⟩:=hq rfl;have e0:min k 0=0:=Nat.min_zero _;rw[e0]at h4
  simp only[execOp,ho,hcal,resolve,hargs,Sem.run_bind,Sem.run_pure,Result.andThen_ok,invoke,builtin,Builtin.copy_,hts,iR,bN,hd,fu,
   eB,ge,cU hud,m8 hsz,h1,hmn,e0,h4]
 |some a=>
  have:=gj a rfl
  simp[execOp,ho,hcal,resolve,hargs,Sem.run_bind,Sem.run_pure,Result.andThen_ok,invoke,builtin,Builtin.copy_,hts,iR,bN,hd,fu,
   eB,ge,cU hud,m8 hsz,h1,hmn,h4,this]
theorem zE.take{t:Ty}{r:List (El t)}{new:List Value}{xv:Value}{sz:Nat}(hel:zE P w sz r.length xv new)(hr:o_ (RT S w t) r new)(hsz:ei t=sz)(k:Nat)(hk:k<=r.length):o_ (RT S w t) (r.take k) (new.take (k*sz)):=by
 have e:r=r.take k++r.drop k:=(dG _ _).symm;rw[e]at hr;obtain⟨a,b,rfl,h1,_⟩:=ns.1 hr;have hl:=o_.len (fun _ _ _ h=>RT.len h) h1
 grind
theorem abY(ho:o.op=.call c)(hcal:c.callee=.builtin .copy)(hargs:c.args= #[d,x])(hts:c.argTypes= #[dt,xt])(hud:P.underlying dt=some (.slice el))(hsz:fh P el=some (m+1))(hI:Inv S K w0 φ H w)
  {id lo len ver ver':Nat} {u:Ty} {l1:rJ} {l0 r:List (El u)} {new:List Value} (hH:H id=some (.ar u (.mk l0) ver)) (hl:φ id=some l1) (hh:E6 l1 lo (some len) [ρ d]) (hlo:lo+len<=l0.length) (hszu:ei u=m+1)
  (hr:o_ (RT S w u) r new) (hel:zE P w (m+1) r.length (ρ x) new):ip P o ρ S K w0 w φ H n n (.x (.i .i64) ((min r.length len:Nat):Int)) [(id,some (.ar u (.mk (IG l0 lo len r)) ver'))]:=by
 have hmin:min r.length len<=r.length:=Nat.min_le_left _ _;obtain⟨addr,cap,cr,p,mm,q,e1,e2,e3,e4,e5,e6,e7⟩:=hI.seg (k:=min r.length len) hH hl hh (Nat.min_le_right _ _) hlo (hel.take hr hszu _ hmin) (by rw[bw];omega)
 have ecp:kV l0 lo (r.take (min r.length len))=IG l0 lo len r:=by
  unfold IG
  grind
 rw[ecp]at e7;have hone:=o_.all (fun _ _ _ h=>RT.one h) (hel.take hr hszu _ hmin);refine⟨.value _,_,_,OD ho hcal hargs hts hud hsz e1 hel (fun a ea=>?_) (fun e=>by cases e),.inl rfl,jE.tH e6 (R1.CH (v:=.x (.i .i64) _) rfl rfl).rw e7⟩;obtain rfl:=af ea;exact LO e2 e3 e4 e5 hone
theorem Ph(ho:o.op=.call c)(hcal:c.callee=.builtin .copy)(hargs:c.args= #[d,x])(hts:c.argTypes= #[dt,xt])(hud:P.underlying dt=some (.slice el))(hsz:fh P el=some (m+1))(hd:ρ d=.slice none 0 0){k:Nat}{new:List Value}
  (hel:zE P w (m+1) k (ρ x) new):(execOp ρ o).run P w=.ok (.value (.int .i64 0)) w:=by
 have:=OD ho hcal hargs hts hud hsz hd hel (fun a e=>by cases e) (fun _=>⟨rfl,rfl⟩);rw[Nat.min_zero]at this;exact this
theorem YC(ho:o.op=.call c)(hcal:c.callee=.builtin .clear)(hargs:c.args= #[d])(hts:c.argTypes= #[dt])(hud:P.underlying dt=some (.slice el)){z:List Value}(hz:jH P el=some z)(hzl:z.length=m+1)(hI:Inv S K w0 φ H w)
  {id lo len ver ver':Nat} {u:Ty} {l1:rJ} {l0:List (El u)} (hH:H id=some (.ar u (.mk l0) ver)) (hl:φ id=some l1) (hh:E6 l1 lo (some len) [ρ d]) (hlo:lo+len<=l0.length) (hd:oq u=true) (hzu:DC u=z):
  ip P o ρ S K w0 w φ H n n (.tp .ni) [(id,some (.ar u (.mk (IG l0 lo len (az len (pM u)))) ver'))]:=by
 obtain⟨zv,hzr,hzv,_⟩:=yF hz w
 have hcells:(Builtin.zeroCells zv.cells len).toList=(az len z).flatten:=by
  have:=Fo (n:=len*(m+1)) hzv hzl (oX m);rw[DB hzl (oX _)]at this
  grind [Builtin.zeroCells]
 have hy:o_ (RT S w u) _ (az len z).flatten:=GA (hzu▸RT.ze hd) len;obtain⟨addr,cap,cr,p,mm,q,e1,e2,e3,e4,e5,e6,e7⟩:=hI.seg hH hl hh (aw _) hlo hy (by simp);have ecp:kV l0 lo (az len (pM u))=IG l0 lo len (az len (pM u)):=by unfold IG;rw[List.take_of_length_le (by simp)]
 rw[ecp]at e7;have gj:=LO (P:=P) e2 e3 e4 e5 (o_.all (fun _ _ _ h=>RT.one h) hy);refine⟨.value _,.tuple #[],w.setRow l1.cQ (p++(az len z).flatten++q).toArray,?_,.inl rfl,jE.tH e6 ⟨[],rfl,rfl⟩ e7⟩;cases len with
 |zero=>
  simp only[List.replicate_zero,List.flatten_nil]at gj|-;have hsame:=by have:=gj;simp only[storeCells,Sem.run_pure,Result.ok.injEq,true_and]at this;exact this.symm
  rw[hsame]
  simp only[execOp,ho,hcal,resolve,hargs,Sem.run_bind,Sem.run_pure,Result.andThen_ok,invoke,builtin,Builtin.clear_,hts,iR,bN,e1,fu,
   eB,cU hud]
 |succ len=>
  simp only[execOp,ho,hcal,resolve,hargs,Sem.run_bind,Sem.run_pure,Result.andThen_ok,invoke,builtin,Builtin.clear_,hts,iR,bN,e1,fu,
   eB,cU hud,hzr,hcells,gj]
end
section
variable{P:Program}{S S' K:Nat->Prop}{w0 w w':World}{φ φ':iq}{H:Hf}{o:Oper}{ρ:Operand->Value}{n:Nat}{kT vT:Ty}
theorem od.get{es:List (El kT×El vT×Nat)}:∀{ms:List MapEntry}{i:Nat}{e:El kT×El vT×Nat},od S w kT vT es ms->es[i]?=some e->∃m,ms[i]?=some m/\Ut S w kT vT e m:=by
 induction es with
 |nil=>intro ms i e _ h;simp at h
 |cons x es ih=>
  intro ms i e hE h;cases ms with
  |nil=>exact hE.elim
  |cons m ms=>
   cases i with
   |zero=>
    obtain rfl:x=e:=by simpa using h
    exact⟨m,rfl,hE.1⟩
   |succ i=>exact ih (i:=i) hE.2 (by simpa using h)
theorem od.push{es:List (El kT×El vT×Nat)}{e:El kT×El vT×Nat}{m:MapEntry}(he:Ut S w kT vT e m):∀{ms:List MapEntry},od S w kT vT es ms->od S w kT vT (es++[e]) (ms++[m]):=by
 induction es with
 |nil=>intro ms h;cases ms with|nil=>exact⟨he,trivial⟩|cons m ms=>exact h.elim
 |cons x es ih=>intro ms h;cases ms with|nil=>exact h.elim|cons m ms=>exact⟨h.1,ih h.2⟩
theorem od.put{es:List (El kT×El vT×Nat)}{v:El vT}{m:MapEntry}:∀{ms:List MapEntry}{i:Nat},od S w kT vT es ms->(∀e,es[i]?=some e->Ut S w kT vT (e.1,v,e.2.2) m)->od S w kT vT (qJ es i v) (ms.set i m):=by
 induction es with
 |nil=>intro ms i h _;cases ms<;>first|exact h|exact h.elim
 |cons x es ih=>intro ms i h he;cases ms with
  |nil=>exact h.elim
  |cons m' ms=>cases i with|zero=>exact⟨he x rfl,h.2⟩|succ i=>exact⟨h.1,ih h.2 fun e hi=>he e (by simpa using hi)⟩
theorem od.anx{es:List (El kT×El vT×Nat)}:∀{ms:List MapEntry}{i:Nat},od S w kT vT es ms->od S w kT vT (es.eraseIdx i) (ms.eraseIdx i):=by
 induction es with
 |nil=>intro ms i h;cases ms<;>first|exact h|exact h.elim
 |cons x es ih=>intro ms i h;cases ms with
  |nil=>exact h.elim
  |cons m' ms=>cases i with|zero=>exact h.2|succ i=>exact⟨h.1,ih h.2⟩
theorem Inv.EG(hI:Inv S K w0 φ H w){id:Nat}{l:rJ}{m m':Mp (El kT) (El vT)}{ms ms':Array MapEntry}(hH:H id=some (.mp kT vT m))(hl:φ id=some l)(hms:w.heap[l.cQ]?=some (.map ms m.c_))(hE:od S w kT vT m'.es ms'.toList):
  iW S w S {w with heap:=w.heap.setIfInBounds l.cQ (.map ms' m'.c_)}/\Inv S K w0 φ (up H [(id,some (.mp kT vT m'))]) {w with heap:=w.heap.setIfInBounds l.cQ (.map ms' m'.c_)}:=by
 obtain⟨l2,o1,⟨b1,b2,_⟩,_⟩:=hI.o9 id _ hH;have hlt:=(Array.getElem?_eq_some_iff.1 hms).1;have hother:∀b,b≠l.cQ->(w.heap.setIfInBounds l.cQ (.map ms' m'.c_))[b]?=w.heap[b]?:=fun b hb=>by rw[Array.getElem?_setIfInBounds,if_neg (fun e=>hb e.symm)]
 refine hI.set hH hl (by simp[ob]) hother (by simp) (fun a=>?_) (fun cr⟨t,h⟩=>by rw[hms]at h;cases h) ⟨rfl,rfl,rfl,aw _⟩ (fun hs=>⟨b1,b2,ms',by simp[hlt],hE.mono hs⟩) (by simp[ob]);unfold World.frozen?
 grind
theorem Zl{old new:Value}(h1:old=new)(h2:Instr.sameBits 10000 new new=true):(Instr.keyThatStays old new).run P w=.ok new w:=by subst h1;unfold Instr.keyThatStays;rw[if_pos h2];rfl
theorem aao{ks:List Kd}{c:List Value}{ka:Bool}(hone:ka=false->ks.length=1)(hc:PL ks c=true)(n:Nat):Instr.sameBits (n+1) (rD ka c) (rD ka c)=true:=by
 have k1:∀{q:Kd}{x:Value},VR q x=true->∀n,Instr.sameBits n x x=true:=by intro q x h n;cases q<;>cases x<;>first|(simp[VR]at h;done)|(cases n<;>simp[Instr.sameBits,Su])
 have all:∀{ks:List Kd}{c:List Value},PL ks c=true->c.length=ks.length/\∀x∈c,∀n,Instr.sameBits n x x=true:=by
  intro ks;induction ks with
  |nil=>intro c h;cases c<;>simp_all[PL]
  |cons q ks ih=>
   intro c h;cases c with
   |nil=>simp[PL]at h
   |cons x c=>
    simp only[PL]at h
    grind
 obtain⟨hl,ha⟩:=all hc;cases ka with|true=>grind [rD,Instr.sameBits,List.getElem_of_mem,Prod.mk.injEq]|false=>rw[hone rfl]at hl;obtain⟨x,rfl⟩:=iw.1 hl;exact ha x (by simp) _
structure SH(P:Program)(S:Nat->Prop)(w:World)(kt:TypeId)(kT:Ty)(ks:List Kd)(q:El kT)(kc:List Value):Prop where
 ag:gx P kt=some (kR kT)
 tk:IN P 8 kt=some ks
 kd:G8 kT=some ks
 rt:RT S w kT q kc
theorem SH.Ub{kt:TypeId}{ks:List Kd}{q:El kT}{kc:List Value}(h:SH P S w kt kT ks q kc)(em:Bool)(w:World):(Instr.checkKey em (8+9992) kt (rD (kR kT) kc)).run P w=.ok () w:=Ju em 9992 8 kt ks h.tk _ h.ag kc w (h.rt.len.trans (PK (S:=S) (w:=w) h.kd).2.2.symm)
theorem SH.adJ{kt:TypeId}{ks:List Kd}{q:El kT}{kc:List Value}(h:SH P S w kt kT ks q kc){e:El kT×El vT×Nat}{m:MapEntry}(hE:Ut S w kT vT e m)(he:e.1=q):m.key=rD (kR kT) kc/\(Instr.keyThatStays m.key (rD (kR kT) kc)).run P w=.ok (rD (kR kT) kc) w:=by
 obtain⟨c,d,k1,k2,_⟩:=hE;obtain⟨a1,a2,_⟩:=PK h.kd;have:=a2 k1 h.rt;rw[decide_eq_true he]at this;have e2:m.key=rD (kR kT) kc:=by rw[k2,acR this]
 obtain⟨_,ag,hag',hone⟩:=GJ 8 kt ks h.tk;obtain rfl:kR kT=ag:=af (h.ag.symm.trans hag')
 grind [Zl,aao]
theorem EF{ms:Array MapEntry}{i:Nat}{m:MapEntry}{f:MapEntry->MapEntry}(h:ms.toList[i]?=some m):(ms.modify i f).toList=ms.toList.set i (f m):=by
 apply vo
 grind
theorem XM{α:Type}{l:List α}{i:Nat}{x:α}(h:l[i]?=some x):l.set i x=l:=by
 apply vo
 grind
variable{t kt et:TypeId}{m ix x:Operand}{ks:List Kd}{q:El kT}{kc:List Value}{mp:Mp (El kT) (El vT)}{ms:Array MapEntry}{l:rJ}{id:Nat}
theorem Pf{z:List Value}(ho:o.op=.mapEntry t m ix)(hu:P.underlying t=some (.map kt et))(hk:SH P S w kt kT ks q kc)(hze:jH P et=some z)(hza:I9 P et=some (kR vT))(hz:DC vT=z)(hd:oq vT=true)
  (hI:Inv S K w0 φ H w) (hx:ρ m=.map (some l.cQ)) (hkx:ρ ix=rD (kR kT) kc) (hH:H id=some (.mp kT vT mp)) (hl:φ id=some l):
  ip P o ρ S K w0 w φ H n n (.tp (.co (.x vT (pp mp (pM vT) q).2.1) (.co (.x (.i .i64) (pp mp (pM vT) q).2.2) .ni))) [(id,some (.mp kT vT (pp mp (pM vT) q).1))]:=by
 obtain⟨l2,o1,⟨b1,b2,ms,hms,hE⟩,_⟩:=hI.o9 id _ hH;obtain rfl:=af (hl.symm.trans o1);obtain⟨f1,f2⟩:=I0 (P:=P) hk.tk hk.ag hk.kd hk.rt hE;obtain⟨z1,z2⟩:=LN hze hza w;have hck:=hk.Ub false w;have tup:∀{w':World}{v:El vT}{vc:List Value}{b:Int},RT S w' vT v vc->(kR vT=false->vc.length=1)->RW S w' φ (.tp (.co (.x vT v) (.co (.x (.i .i64) b) .ni))) _:=fun h h1=>⟨[_,_],rfl,_,_,rfl,R1.of (v:=.x vT _) h rfl h1,_,_,rfl,⟨[_],rfl,rfl⟩,rfl⟩;unfold pp;cases hf:d_ q mp.es 0 with
 |some r=>
  obtain⟨i,e⟩:=r;obtain⟨mm,g1,g2⟩:=f2 _ hf;obtain⟨g3,g4⟩:=hk.adJ g2 (kg hf).2.2;rw[hf]at f1;have hmod:ms.modify i (fun e=>{e with key:=rD (kR kT) kc})=ms:=by apply Array.ext';rw[EF g1,show({mm with key:=rD (kR kT) kc}:MapEntry)=mm by rw[<-g3]];exact XM g1
  obtain⟨hs,hI'⟩:=hI.EG (m':=mp) hH hl hms hE;obtain⟨c,dd,_,_,p3,p4,p5⟩:=g2;have hdl:kR vT=false->dd.length=1:=fun e1=>by rw[p3.len];have:=z2 e1;rw[<-hz]at this;rw[<-this,(RT.ze (S:=S) (w:=w) hd).len]
  refine⟨.value (.tuple #[mm.val,goInt mm.born]),_,{w with heap:=w.heap.setIfInBounds l.cQ (.map ms mp.c_)},?_,.inl rfl,jE.tH hs ?_ hI'⟩
  .have ea:ms[i]?=some mm:=by simp_all
   have eb:ms.toList.getD i default=mm:=by simp only[List.getD];rw[g1];rfl
   simp only[execOp,ho,Instr.mapEntry,hx,Sem.run_bind,cU hu,Result.andThen_ok,m9 hms,hkx];rw[hck];simp only[gC,eb]at f1;simp only[Result.andThen_ok,Sem.run_bind,f1,ea,gC,Option.getD_some,g4,hmod,qm _ hms,Sem.run_pure]
  .rw [p4,p5];exact tup (p3.mono hs) hdl
 |none=>
  rw[hf]at f1;have hE':od S w kT vT (mp.es++[(q,pM vT,mp.c_)]) (ms.push {key:=rD (kR kT) kc,val:=rD (kR vT) z,born:=mp.c_}).toList:=by rw[qd];exact hE.push ⟨kc,z,hk.rt,rfl,hz▸RT.ze hd,rfl,rfl⟩
  obtain⟨hs,hI'⟩:=hI.EG (m':=⟨mp.es++[(q,pM vT,mp.c_)],mp.c_+1⟩) hH hl hms hE';refine⟨.value (.tuple #[rD (kR vT) z,goInt mp.c_]),_,{w with heap:=w.heap.setIfInBounds l.cQ _},?_,.inl rfl,jE.tH hs ?_ hI'⟩
  .simp only[execOp,ho,Instr.mapEntry,hx,Sem.run_bind,cU hu,Result.andThen_ok,m9 hms,hkx];rw[hck];simp only[Result.andThen_ok,Sem.run_bind,f1,td,z1,qm _ hms,Sem.run_pure]
  .exact tup (hz▸RT.ze hd) z2
theorem Vm{y:El vT}{vc:List Value}(ho:o.op=.mapUpdate t m ix x)(hu:P.underlying t=some (.map kt et))(hk:SH P S w kt kT ks q kc)
  (hI:Inv S K w0 φ H w) (hx:ρ m=.map (some l.cQ)) (hkx:ρ ix=rD (kR kT) kc) (hvx:ρ x=rD (kR vT) vc) (hy:RT S w vT y vc) (hH:H id=some (.mp kT vT mp)) (hl:φ id=some l):
  ip P o ρ S K w0 w φ H n n (.tp .ni) [(id,some (.mp kT vT (Cw mp q y)))]:=by
 obtain⟨l2,o1,⟨b1,b2,ms,hms,hE⟩,_⟩:=hI.o9 id _ hH;obtain rfl:=af (hl.symm.trans o1);obtain⟨f1,f2⟩:=I0 hk.tk hk.ag hk.kd hk.rt hE;have hck:=hk.Ub false w;unfold Cw;cases hf:d_ q mp.es 0 with
 |some r=>
  obtain⟨i,e⟩:=r;obtain⟨mm,g1,g2⟩:=f2 _ hf;obtain⟨g3,g4⟩:=hk.adJ g2 (kg hf).2.2;rw[hf]at f1;have hE':od S w kT vT (qJ mp.es i y) (ms.modify i (fun e=>{e with key:=rD (kR kT) kc,val:=ρ x})).toList:=by rw[EF g1];refine hE.put fun e' he'=>?_;obtain⟨_,h5,h6⟩:=kg hf;rw[Nat.sub_zero,he']at h5;obtain rfl:=af h5;obtain⟨c,dd,p1,p2,p3,p4,p5⟩:=g2;exact⟨kc,vc,by rw[h6];exact hk.rt,rfl,hy,hvx,p5⟩
  obtain⟨hs,hI'⟩:=hI.EG (m':=⟨qJ mp.es i y,mp.c_⟩) hH hl hms hE';refine⟨.skip,undef,{w with heap:=w.heap.setIfInBounds l.cQ _},?_,.inr ⟨rfl,rfl⟩,jE.set hs hI'⟩;have ea:ms[i]?=some mm:=by rw[<-eF];exact g1
  simp only[execOp,ho,Instr.mapUpdate,hx,Sem.run_bind,cU hu,Result.andThen_ok,m9 hms,hkx];rw[hck];simp only[Result.andThen_ok,Sem.run_bind,f1,ea,gC,Option.getD_some,g4,qm _ hms,Sem.run_pure]
 |none=>
  rw[hf]at f1;have hE':od S w kT vT (mp.es++[(q,y,mp.c_)]) (ms.push {key:=rD (kR kT) kc,val:=ρ x,born:=mp.c_}).toList:=by rw[qd];exact hE.push ⟨kc,vc,hk.rt,rfl,hy,hvx,rfl⟩
  obtain⟨hs,hI'⟩:=hI.EG (m':=⟨mp.es++[(q,y,mp.c_)],mp.c_+1⟩) hH hl hms hE';refine⟨.skip,undef,{w with heap:=w.heap.setIfInBounds l.cQ _},?_,.inr ⟨rfl,rfl⟩,jE.set hs hI'⟩;simp only[execOp,ho,Instr.mapUpdate,hx,Sem.run_bind,cU hu,Result.andThen_ok,m9 hms,hkx];rw[hck];simp[Result.andThen_ok,f1,td,qm _ hms,Sem.run_pure]
theorem Vn{c:te}{kt2:TypeId}(ho:o.op=.call c)(hcal:c.callee=.builtin .delete)(hargs:c.args= #[m,ix])(hts:c.argTypes= #[t,kt2])(hu:P.underlying t=some (.map kt et))(hk:SH P S w kt kT ks q kc)
  (hI:Inv S K w0 φ H w) (hx:ρ m=.map (some l.cQ)) (hkx:ρ ix=rD (kR kT) kc) (hH:H id=some (.mp kT vT mp)) (hl:φ id=some l):ip P o ρ S K w0 w φ H n n (.tp .ni) [(id,some (.mp kT vT (Br mp q)))]:=by
 obtain⟨l2,o1,⟨b1,b2,ms,hms,hE⟩,_⟩:=hI.o9 id _ hH;obtain rfl:=af (hl.symm.trans o1);obtain⟨f1,f2⟩:=I0 (P:=P) hk.tk hk.ag hk.kd hk.rt hE;have hck:=hk.Ub ms.isEmpty w;unfold Br;cases hf:d_ q mp.es 0 with
 |some r=>
  obtain⟨i,e⟩:=r;rw[hf]at f1;have e1:(ms.eraseIdxIfInBounds i).toList=ms.toList.eraseIdx i:=by simp_all
  obtain⟨hs,hI'⟩:=hI.EG (m':=⟨mp.es.eraseIdx i,mp.c_⟩) hH hl hms (by rw[e1];exact hE.anx);refine⟨.value (.tuple #[]),.tuple #[],{w with heap:=w.heap.setIfInBounds l.cQ _},?_,.inl rfl,jE.tH hs ⟨[],rfl,rfl⟩ hI'⟩
  simp only[execOp,ho,hcal,resolve,hargs,Sem.run_bind,Sem.run_pure,Result.andThen_ok,invoke,builtin,Builtin.delete_,hts,iR,bN,iv,hx,hkx,fu,
   eB,ge,cU hu,m9 hms]
  simp only[gC]at f1;rw[hck];simp only[Result.andThen_ok,Sem.run_bind,f1,qm _ hms,Sem.run_pure]
 |none=>
  rw[hf]at f1;obtain⟨hs,hI'⟩:=hI.EG (m':=mp) hH hl hms hE;refine⟨.value (.tuple #[]),.tuple #[],{w with heap:=w.heap.setIfInBounds l.cQ _},?_,.inl rfl,jE.tH hs ⟨[],rfl,rfl⟩ hI'⟩
  simp only[execOp,ho,hcal,resolve,hargs,Sem.run_bind,Sem.run_pure,Result.andThen_ok,invoke,builtin,Builtin.delete_,hts,iR,bN,iv,hx,hkx,fu,
   eB,ge,cU hu,m9 hms]
  rw[hck];simp only[td]at f1;simp only[Result.andThen_ok,Sem.run_bind,f1,qm _ hms,Sem.run_pure]
theorem Lg{st:Operand}{kk:IntKind}{b:Int}{y:El vT}{vc:List Value}{mp':Mp (El kT) (El vT)}(ho:o.op=.entryStore t m st x)(hI:Inv S K w0 φ H w)(hx:ρ m=.map (some l.cQ))(hb:ρ st=.int kk b)(hvx:ρ x=rD (kR vT) vc)(hy:RT S w vT y vc)
  (hH:H id=some (.mp kT vT mp)) (hl:φ id=some l) (h:JW mp b y=some mp'):ip P o ρ S K w0 w φ H n n (.tp .ni) [(id,some (.mp kT vT mp'))]:=by
 obtain⟨l2,o1,⟨b1,b2,ms,hms,hE⟩,_⟩:=hI.o9 id _ hH;obtain rfl:=af (hl.symm.trans o1);obtain⟨i,hi,rfl⟩:=dh.1 h
 have hfind:∀{es:List _}{ms:List MapEntry},od S w kT vT es ms->ms.findIdx? (fun e=>(e.born:Int)==b)=es.findIdx? (fun e=>decide ((e.2.2:Int)=b)):=by
  intro es;induction es with
  |nil=>intro ms h;cases ms with|nil=>rfl|cons m ms=>exact h.elim
  |cons e es ih=>intro ms h;cases ms with|nil=>exact h.elim|cons m ms=>obtain⟨_,_,_,_,_,_,h5⟩:=h.1;simp only[List.findIdx?_cons,ih h.2,h5];rfl
 have hlt:=(List.findIdx?_eq_some_iff_getElem.1 hi).1;obtain⟨mm,g1,g2⟩:=hE.get (bf hlt);have hE':od S w kT vT (qJ mp.es i y) (ms.modify i (fun e=>{e with val:=ρ x})).toList:=by rw[EF g1];refine hE.put fun e' he'=>?_;rw[bf hlt]at he';obtain rfl:=af he';obtain⟨c,dd,p1,p2,p3,p4,p5⟩:=g2;exact⟨c,vc,p1,p2,hy,hvx,p5⟩
 obtain⟨hs,hI'⟩:=hI.EG (m':=⟨qJ mp.es i y,mp.c_⟩) hH hl hms hE';refine⟨.skip,undef,{w with heap:=w.heap.setIfInBounds l.cQ _},?_,.inr ⟨rfl,rfl⟩,jE.set hs hI'⟩;have hfi2:ms.findIdx? (fun e=>(e.born:Int)==b)=some i:=by rw[<-hi,<-hfind hE,<-List.findIdx?_toArray]
 simp[execOp,ho,Instr.entryStore,hx,Sem.run_bind,Result.andThen_ok,m9 hms,GQ hb,hfi2,qm _ hms,Sem.run_pure]
end
section
variable{P:Program}{S K:Nat->Prop}{w0 w w':World}{φ φ':iq}{H:Hf}{o:Oper}{ρ:Operand->Value}{n:Nat}{h2:H2}{v:V}{l:List Nat}{vs:List V}{d:Option Nat}{as:List Operand}{g:Option (Nat×Bool)}{t0:Ty}{fi:List Nat}{bI:II}
theorem abe{t ty:TypeId}{b:BinOp}{x y:Operand}(ho:o.op=.binOp b t x y ty)(hc:∀v,ρ (.const v)=v)(hI:Inv S K w0 φ H w)(hr:Ar S w φ ρ [x,y] vs)(h:CK ⟨⟨d,.NK b,[x,y],g⟩,t0,fi⟩ vs h2=some (v,l)):iA P o ρ S K w0 w φ H n v:=by
 obtain⟨v1,v2,rfl,h1,h3⟩:=hr.two;have CI:∀{r:Option V}{a c:Value},(match r with|some v=>some (v,([]:List Nat))|none=>none)=some (v,l)->tg v1=some a->tg v2=some c->(∀{v},r=some v->∃y,AY b a c=some y/\tg v=some y)->iA P o ρ S K w0 w φ H n v:=by intro r a c h e1 e2 h4;cases r with|none=>cases h|some v'=>obtain⟨rfl,rfl⟩:=aq (af h);obtain⟨y,k1,k2⟩:=h4 rfl;exact YD ho hI h1 h3 e1 e2 k1 k2
 cases v1<;>first|(cases h;done)|skip
 rename_i u a;cases v2<;>first|(cases u<;>cases h;done)|skip
 rename_i u2 c;cases u<;>cases u2<;>first|(cases h;done)|skip
 .exact CI h rfl rfl fun e=>adg e fun hz=>by
   have hz':afA [x,y]=true:=hz;unfold afA at hz';split at hz'
   .rename_i k m e2;obtain⟨_,e2⟩:=aE e2;obtain⟨rfl,_⟩:=aE e2;have h5:=R1.int h3;rw[hc]at h5;cases h5;simpa using hz'
   .cases hz'
 .exact CI h rfl rfl Uj
 .exact CI h rfl rfl Qr
theorem QR{t ty:TypeId}{b:BinOp}{x y:Operand}(ho:o.op=.binOp b t x y ty)(hop:b=.eql\/b=.neq)(hu:P.underlying t=some .bool)(hI:Inv S K w0 φ H w)(hr:Ar S w φ ρ [x,y] vs)(h:CK ⟨⟨d,.Kr (b==.neq),as,g⟩,t0,fi⟩ vs h2=some (v,l)):
  iA P o ρ S K w0 w φ H n v:=by
 obtain⟨v1,v2,rfl,h1,h3⟩:=hr.two;change (match zN .b v1,zN .b v2 with|some a,some c=>some (V.x .b (bif b==BinOp.neq then !(a==c)else a==c),([]:List Nat))|_,_=>none)=_ at h;split at h<;>first|(cases h;done)|skip
 rename_i p q e1 e2;obtain⟨rfl,rfl⟩:=aq (af h);exact Vp ho hop hu hI (Qh e1 h1) (Qh e2 h3)
theorem LD{t ty:TypeId}{b:BinOp}{x y z:Operand}{kind:Nat}(ho:o.op=.binOp b t x y ty)(hop:b=.eql\/b=.neq)(hu:Tv P t kind)(hI:Inv S K w0 φ H w)
  (hc:∀v,ρ (.const v)=v) (hz:(z=x/\Di kind y=true)\/(z=y/\Di kind x=true)) (hsh:A6 φ h2) (hr:Ar S w φ ρ [z] vs) (h:CK ⟨⟨d,.P_ kind (b==.neq),as,g⟩,t0,fi⟩ vs h2=some (v,l)):iA P o ρ S K w0 w φ H n v:=by
 obtain⟨v1,rfl,h1⟩:=hr.one;change (match RH h2 kind v1 with|some v=>some (bif b==BinOp.neq then YZ v else v,([]:List Nat))|none=>none)=_ at h;split at h<;>first|(cases h;done)|skip
 rename_i r hn;obtain⟨rfl,rfl⟩:=aq (af h);exact YB ho hop hu hI hc hz hsh h1 hn
theorem abd{t ty:TypeId}{b:BinOp}{x y:Operand}{k:Ev.K}{args:List Operand}(ho:o.op=.binOp b t x y ty)(hk:Co P b t x y=(k,args))(hc:∀v,ρ (.const v)=v)(hI:Inv S K w0 φ H w)(hsh:A6 φ h2)(hr:Ar S w φ ρ args vs)(h:CK ⟨⟨d,k,args,g⟩,t0,fi⟩ vs h2=some (v,l)):
  iA P o ρ S K w0 w φ H n v:=by
 have gY:(Ev.K.gY,([]:List Operand))=(k,args)->iA P o ρ S K w0 w φ H n v:=by intro e;obtain⟨rfl,rfl⟩:=aq e;cases vs with|nil=>cases h|cons a r=>exact hr.elim
 have plainBin:(Ev.K.NK b,[x,y])=(k,args)->iA P o ρ S K w0 w φ H n v:=by intro e;obtain⟨rfl,rfl⟩:=aq e;exact abe ho hc hI hr h
 have nilBin:∀kind,(b=.eql\/b=.neq)->Tv P t kind->s_ kind (b==.neq) x y=(k,args)->iA P o ρ S K w0 w φ H n v:=by
  intro kind hop hu hk;unfold s_ at hk;split at hk
  .rename_i hy;obtain⟨rfl,rfl⟩:=aq hk;exact LD ho hop hu hI hc (.inl ⟨rfl,hy⟩) hsh hr h
  .split at hk
   .rename_i hx;obtain⟨rfl,rfl⟩:=aq hk;exact LD ho hop hu hI hc (.inr ⟨rfl,hx⟩) hsh hr h
   .exact gY hk
 have eqs:(b=.eql\/b=.neq)->(match P.underlying t with
  |some .bool=>(Ev.K.Kr (b==.neq),[x,y])
  |some (.int _)|some (.float _)|some .string=>(Ev.K.NK b,[x,y])
  |some (.slice _)=>s_ 0 (b==.neq) x y
  |some (.pointer _)=>s_ 1 (b==.neq) x y
  |some (.func _ _ _)=>s_ 2 (b==.neq) x y
  |some (.struct _)|some (.array _ _)=>match IN P 8 t with|some ks=>if P.eqGuardType P.depth t=false then(Ev.K.Mj (b==.neq) ks,[x,y])else(Ev.K.gY,[])|none=>(Ev.K.gY,[])
  |_=>(Ev.K.gY,[]))=(k,args)->iA P o ρ S K w0 w φ H n v:=by
  intro hop hk
  have agg:gx P t=some true->(match IN P 8 t with
   |some ks=>if P.eqGuardType P.depth t=false then(Ev.K.Mj (b==.neq) ks,[x,y])else(Ev.K.gY,[])
   |none=>(Ev.K.gY,[]))=(k,args)->iA P o ρ S K w0 w φ H n v:=by
   intro hag hk;split at hk
   .rename_i hks;split at hk
    .rename_i hg;obtain⟨rfl,rfl⟩:=aq hk;exact UG ho hop hks hag hg hI hr h
    .exact gY hk
   .exact gY hk
  split at hk
  .rename_i hu;obtain⟨rfl,rfl⟩:=aq hk;exact QR ho hop hu hI hr h
  .exact plainBin hk
  .exact plainBin hk
  .exact plainBin hk
  .rename_i hu;exact nilBin 0 hop ⟨_,hu⟩ hk
  .rename_i hu;exact nilBin 1 hop ⟨_,hu⟩ hk
  .rename_i hu;exact nilBin 2 hop ⟨_,_,_,hu⟩ hk
  .rename_i hu;exact agg (by simp[gx,hu]) hk
  .rename_i hu;exact agg (by simp[gx,hu]) hk
  .exact gY hk
 cases b with|eql=>exact eqs (.inl rfl) hk|neq=>exact eqs (.inr rfl) hk|_=>exact plainBin hk
theorem afd{t:TypeId}{b:UnOp}{x:Operand}(ho:o.op=.unOp b t x)(hI:Inv S K w0 φ H w)(hr:Ar S w φ ρ [x] vs)(h:CK ⟨⟨d,.un b,as,g⟩,t0,fi⟩ vs h2=some (v,l)):iA P o ρ S K w0 w φ H n v:=by
 obtain⟨v1,rfl,h1⟩:=hr.one;cases b<;>cases v1<;>first|(cases h;done)|skip
 all_goals first
  |(obtain⟨rfl,rfl⟩:=aq (af h);exact adS ho hI h1 rfl rfl rfl)
  |(rename_i u a
    cases u<;>first|(cases h;done)|(obtain⟨rfl,rfl⟩:=aq (af h);exact adS ho hI h1 rfl rfl rfl))
theorem N9{s t:TypeId}{k k':IntKind}{x:Operand}(ho:o.op=.convert s t x)(hs:P.underlying s=some (.int k'))(hd:P.underlying t=some (.int k))(hI:Inv S K w0 φ H w)(hr:Ar S w φ ρ [x] vs)(h:CK ⟨⟨d,.I1 k,as,g⟩,t0,fi⟩ vs h2=some (v,l)):
  iA P o ρ S K w0 w φ H n v:=by
 obtain⟨v1,rfl,h1⟩:=hr.one;cases v1<;>first|(cases h;done)|skip
 rename_i u a;cases u<;>first|(cases h;done)|skip
 obtain⟨rfl,rfl⟩:=aq (af h);exact ip.pure (val:=.int k (wr k a)) hI (by simp[execOp,ho,R1.int h1,convert,cU hs,cU hd,Conv.intToInt]) (R1.CH (v:=.x (.i k) _) rfl rfl).rw
theorem UH{s t:TypeId}{k':IntKind}{k:FloatKind}{x:Operand}(ho:o.op=.convert s t x)(hs:P.underlying s=some (.int k'))(hd:P.underlying t=some (.float k))(hI:Inv S K w0 φ H w)(hr:Ar S w φ ρ [x] vs)(h:CK ⟨⟨d,.T_ k,as,g⟩,t0,fi⟩ vs h2=some (v,l)):
  iA P o ρ S K w0 w φ H n v:=by
 obtain⟨v1,rfl,h1⟩:=hr.one;cases v1<;>first|(cases h;done)|skip
 rename_i u a;cases u<;>first|(cases h;done)|skip
 obtain⟨rfl,rfl⟩:=aq (af h);exact ip.pure (val:=.float k (k.nearest a)) hI (by simp[execOp,ho,R1.int h1,convert,cU hs,cU hd,Conv.intToFloat]) (Ft (v:=.x (.f k) _) rfl (.lit rfl)).rw
theorem MA{s t:TypeId}{x:Operand}(ho:o.op=.convert s t x)(hs:P.underlying s=some .string)(hd:P.underlying t=some .string)(hI:Inv S K w0 φ H w)(hr:Ar S w φ ρ [x] vs)(h:CK ⟨⟨d,.Gs,as,g⟩,t0,fi⟩ vs h2=some (v,l)):iA P o ρ S K w0 w φ H n v:=by
 obtain⟨v1,rfl,h1⟩:=hr.one;cases v1<;>first|(cases h;done)|skip
 rename_i u a;cases u<;>first|(cases h;done)|skip
 obtain⟨rfl,rfl⟩:=aq (af h);have e:=xV (v:=.x .s a) rfl h1;exact ip.pure (val:=.string a) hI (by simp[execOp,ho,e,convert,cU hs,cU hd]) (R1.CH (v:=.x .s a) rfl rfl).rw
theorem N7{t:TypeId}{x:Operand}{gg:Bool}{m:Nat}(ho:o.op=.load t x)(hag:gx P t=some gg)(hs:fh P t=some m)(hI:Inv S K w0 φ H w)(hr:Ar S w φ ρ [x] vs)(ha:∀i∈l,H i=fO h2 i)
  (h:CK ⟨⟨d,.load gg m,as,g⟩,t0,fi⟩ vs h2=some (v,l)):iA P o ρ S K w0 w φ H n v:=by
 obtain⟨v1,rfl,h1⟩:=hr.one;change (match F4 h2 v1 with|some (w,l)=>bif QN h2 gg m w then some (w,l)else none|none=>none)=_ at h;split at h<;>first|(cases h;done)|skip
 rename_i y l' hl;cases e:QN h2 gg m y<;>rw[e]at h
 .cases h
 obtain⟨rfl,rfl⟩:=aq (af h);exact abX ho hag hs hI h1 hl e ha
theorem QQ{t kt et:TypeId}{ka va ok:Bool}{ks:List Kd}{z:List Value}{m ix:Operand}(ho:o.op=.lookup t m ix ok)(hu:P.underlying t=some (.map kt et))(hm:H7 P kt et=some (ka,ks,va,z))(hI:Inv S K w0 φ H w)(hr:Ar S w φ ρ [m,ix] vs)
  (ha:∀i∈l,H i=fO h2 i) (h:CK ⟨⟨d,.lookup ka ks va z ok,as,g⟩,t0,fi⟩ vs h2=some (v,l)):iA P o ρ S K w0 w φ H n v:=by
 obtain⟨v1,v2,rfl,h1,h3⟩:=hr.two;have hM:=DT hm;cases v1<;>first|(cases h;done)|skip
 rename_i id
 change (match Y9 h2 (.om id)with
  |some ⟨kt,vt,mp,l⟩=>(match zN kt v2 with
   |some k=>bif(kR kt==ka)&&(kR vt==va)&&decide (G8 kt=some ks)&&zG (DC vt) z&&oq vt&&(va||ei vt==1)then
     some (bif ok then V.tp (.co (.x vt (lS mp (pM vt) k)) (.co (.x .b (Db mp k)) .ni))else .x vt (lS mp (pM vt) k),l)else none
   |none=>none)
  |none=>none)=_ at h
 split at h<;>first|(cases h;done)|skip
 rename_i kT vT mp l' hmv;split at h<;>first|(cases h;done)|skip
 rename_i q hq;simp only[Y9]at hmv;split at hmv<;>first|(cases hmv;done)|skip
 rename_i kT' vT' mp' hob;obtain⟨rfl,hmv⟩:=ir (af hmv);obtain⟨rfl,hmv⟩:=ir (eq_of_heq hmv);obtain⟨rfl,rfl⟩:=aq (eq_of_heq hmv);cases e:((kR kT'==ka)&&(kR vT'==va)&&decide (G8 kT'=some ks)&&zG (DC vT') z&&oq vT'&&(va||ei vT'==1))<;>rw[e]at h
 .cases h
 obtain⟨rfl,rfl⟩:=aq (af h);simp only[ax,beq_iff_eq,decide_eq_true_eq]at e;obtain⟨⟨⟨⟨⟨rfl,rfl⟩,e3⟩,e4⟩,e5⟩,_⟩:=e;obtain⟨kc,c1,c2,_⟩:=yi hq h3;obtain⟨lo,k1,k2⟩:=R1.iB h1;obtain⟨lo2,o1,⟨_,_,ms,q1,q2⟩,_⟩:=hI.o9 id _ ((ha id (by simp)).trans hob);obtain rfl:=af (k1.symm.trans o1);exact Vo (r:=some lo.cQ) ho hu hM e3 (BH e4) e5 hI (aE k2).1 q1 q2 c1 c2
end
section
variable{P:Program}{S K:Nat->Prop}{w0 w w':World}{φ φ':iq}{H:Hf}{o:Oper}{ρ:Operand->Value}{n:Nat}{h2:H2}{v:V}{l:List Nat}{vs:List V}{d:Option Nat}{as:List Operand}{g:Option (Nat×Bool)}{t0:Ty}{fi:List Nat}{bI:II}{k:Ev.K}{args:List Operand}
theorem DQ{α:Type}{x:Array α}{y:α}(h:x.toList=[y]):x= #[y]:=by rw[<-Array.toArray_toList (xs:=x),h]
theorem Ba{α:Type}{x:Array α}{y z:α}(h:x.toList=[y,z]):x= #[y,z]:=by rw[<-Array.toArray_toList (xs:=x),h]
theorem Xf{t kt et:TypeId}{x:Operand}{c:te}(ho:o.op=.call c)(hcal:c.callee=.builtin .len)(hargs:c.args= #[x])(hts:c.argTypes= #[t])(hu:P.underlying t=some (.map kt et))(hI:Inv S K w0 φ H w)(hr:Ar S w φ ρ [x] vs)(ha:∀i∈l,H i=fO h2 i)(h:CK ⟨⟨d,.RY,as,g⟩,t0,fi⟩ vs h2=some (v,l)):
  iA P o ρ S K w0 w φ H n v:=by
 obtain⟨v0,rfl,hx⟩:=hr.one;cases v0<;>first|(cases h;done)|skip
 .rename_i k
  match k,h,hx with|3,h,hx=>obtain⟨rfl,rfl⟩:=aq (af h);have e:ρ x=.map none:=(aE (R1.iB (v:=.nl 3) hx)).1;refine ip.pure (val:=.int .i64 0) hI ?_ (R1.rw (R1.CH rfl rfl));simp[execOp,ho,hcal,hargs,hts,resolve,invoke,builtin,e,Builtin.len_,cU hu,goInt]
 .rename_i id;change (match fO h2 id with|some (.mp _ _ m)=>some (V.x (.i .i64) (m.es.length:Int),[id])|_=>none)=_ at h;split at h<;>first|(cases h;done)|skip
  rename_i kT vT m hm;obtain⟨rfl,rfl⟩:=aq (af h);obtain⟨l1,k1,k2⟩:=R1.iB (v:=.om id) hx;have e:ρ x=.map (some l1.cQ):=(aE k2).1;obtain⟨l2,o1,⟨_,_,ms,hms,hE⟩,_⟩:=hI.o9 id _ ((ha id (by simp)).trans hm);obtain rfl:=af (k1.symm.trans o1);have hl:=hE.len;refine ip.pure (val:=.int .i64 (m.es.length:Int)) hI ?_ (R1.rw (R1.CH rfl rfl));have hg:=m9 (P:=P) hms;simp[execOp,ho,hcal,hargs,hts,resolve,invoke,builtin,e,Builtin.len_,cU hu,goInt,hg,hl]
theorem Zi{a b:V}{q:List V}{h:H2}{o:IM}(he:CK ⟨{o with k:=.RY},t0,fi⟩ (a::b::q) h=some (v,l)):False:=by
 cases a<;>first|(cases he)|skip
 rename_i k;rcases k with _|_|_|_|k<;>cases he
theorem N_{b:Builtin}{c:te}(ho:o.op=.call c)(hcal:c.callee=.builtin b)(hk:mQ P b c.args.toList c.argTypes.toList=(k,args))(hI:Inv S K w0 φ H w)(hsh:A6 φ h2)(hr:Ar S w φ ρ args vs)(ha:∀i∈l,H i=fO h2 i)
  (h:CK ⟨⟨d,k,args,g⟩,t0,fi⟩ vs h2=some (v,l)):iA P o ρ S K w0 w φ H n v:=by
 have lenC:∀{str:Bool}{t:TypeId},c.argTypes.toList=[t]->(if str then P.underlying t=some .string else∃b,P.underlying t=some (.slice b))->b=.len->(Ev.K.len str,c.args.toList)=(k,args)->iA P o ρ S K w0 w φ H n v:=by
  intro str t ht hu hb e;obtain⟨rfl,rfl⟩:=aq e;subst hb
  have:∃x,c.args.toList=[x]:=by
   generalize c.args.toList=la at hr
   match la,vs,hr,h with
   |[x],_,_,_=>exact⟨x,rfl⟩
   |[],[],_,h=>cases str<;>cases h
   |x::y::r,a::b::q,_,h=>cases str<;>cases a<;>first|(cases h;done)|(rename_i kk _;cases kk<;>cases h;done)|(rename_i u _ _;cases u<;>cases h)
  grind [abb,DQ]
 unfold mQ at hk;split at hk
 .rename_i t hts;split at hk
  .simp_all
  .simp_all
  .rename_i hu;obtain⟨rfl,rfl⟩:=aq hk
   obtain⟨x,hx⟩:∃x,c.args.toList=[x]:=by
    generalize c.args.toList=la at hr
    match la,vs,hr,h with|[x],_,_,_=>exact⟨x,rfl⟩|[],[],_,h=>cases h|x::y::r,a::b::q,_,h=>exact(Zi (o:=⟨d,.RY,_,g⟩) h).elim
   grind [Xf,DQ]
  .obtain ⟨rfl,rfl⟩:=aq hk;cases h
 .obtain ⟨rfl,rfl⟩:=aq hk;exact Jg (m:=true) ho hcal hI hr h
 .obtain ⟨rfl,rfl⟩:=aq hk;exact Jg (m:=false) ho hcal hI hr h
 all_goals
  (repeat' split at hk)<;>(obtain⟨rfl,rfl⟩:=aq hk;cases h)
theorem abc{t el:TypeId}{sz:Nat}{x y:Operand}(ho:o.op=.indexAddr t x y)(hu:P.underlying t=some (.slice el))(hsz:fh P el=some sz)(hI:Inv S K w0 φ H w)(hr:Ar S w φ ρ [x,y] vs)(h:CK ⟨⟨d,.ixB sz,as,g⟩,t0,fi⟩ vs h2=some (v,l)):iA P o ρ S K w0 w φ H n v:=by
 obtain⟨v1,v2,rfl,h1,h3⟩:=hr.two;cases v1<;>first|(cases h;done)|skip
 rename_i id t1;cases v2<;>first|(cases t1<;>cases h;done)|skip
 rename_i u2 i;cases t1<;>first|(cases u2<;>cases h;done)|skip
 rename_i u;cases u2<;>first|(cases h;done)|skip
 rename_i kk;change (match Lm u (i:Int).toNat with|some _=>bif decide (0<=(i:Int))&&iu (i:Int).toNat (N1 u)&&(KZ u (i:Int).toNat==(i:Int).toNat*sz)then some (V.op id (.st u) [.fd (i:Int).toNat],([]:List Nat))else none|none=>none)=_ at h;split at h<;>first|(cases h;done)|skip
 rename_i u3 hf;cases e:(decide (0<=(i:Int))&&iu (i:Int).toNat (N1 u)&&(KZ u (i:Int).toNat==(i:Int).toNat*sz))<;>rw[e]at h
 .cases h
 cases h;simp only[ax,decide_eq_true_eq,fM,beq_iff_eq]at e;obtain⟨l1,k1,k2,k3⟩:=R1.iB (v:=.vs id (.st u)) h1;have hlt:(i:Int)<(N1 u:Nat):=(show∀j:Int,0<=j->j.toNat<N1 u->j<(N1 u:Nat)by omega) i e.1.1 e.1.2;have hex:=Gh (P:=P) (w:=w) ho hu hsz (R1.int h3) (aE k3).1 e.1.1 hlt;rw[dJ]at hex;refine ip.pure hI hex (R1.rw (R1.CH ⟨l1,k1,k2,⟨u3,hf,?_⟩,?_⟩ rfl))
 .cases u3<;>trivial
 simp_all[CG,gr]
theorem LC(hk:En P bI o.op=(k,args))(hc:∀v,ρ (.const v)=v)(hI:Inv S K w0 φ H w)(hsh:A6 φ h2)(hr:Ar S w φ ρ args vs)(ha:∀i∈l,H i=fO h2 i)(hp:E5 k=false)(h:CK ⟨⟨d,k,args,g⟩,t0,fi⟩ vs h2=some (v,l)):
  iA P o ρ S K w0 w φ H n v:=by
 have gY:(Ev.K.gY,([]:List Operand))=(k,args)->iA P o ρ S K w0 w φ H n v:=by intro e;obtain⟨rfl,rfl⟩:=aq e;cases h
 have mv:∀{x:Operand},(o.op=.move x\/o.op=.assign x)->(Ev.K.mv,[x])=(k,args)->iA P o ρ S K w0 w φ H n v:=by intro x ho e;obtain⟨rfl,rfl⟩:=aq e;obtain⟨v0,rfl,hx⟩:=hr.one;obtain⟨rfl,rfl⟩:=aq (af h);exact ip.pure hI (by rcases ho with ho|ho<;>simp[execOp,ho]) hx
 generalize hop:o.op=op at hk;unfold En at hk;split at hk
 .exact mv (.inl hop) hk
 .exact mv (.inr hop) hk
 .obtain ⟨rfl,rfl⟩:=aq hk;cases hp
 .split at hk<;>(obtain⟨rfl,rfl⟩:=aq hk;cases h)
 .obtain ⟨rfl,rfl⟩:=aq hk;cases h
 .split at hk
  .rename_i hu hz;split at hk
   .rename_i hpl;split at hk
    .rename_i hall;obtain⟨rfl,rfl⟩:=aq hk
     grind [LF]
    .exact gY hk
   .exact gY hk
  .rename_i hu hz;split at hk
   .rename_i hs;obtain⟨rfl,rfl⟩:=aq hk;exact LF hop hz (.inr ⟨_,_,_,hu,hs,rfl⟩) hI hr h
   .exact gY hk
  .exact gY hk
 .skip;(repeat' split at hk)<;>(obtain⟨rfl,rfl⟩:=aq hk;cases h)
 .split at hk
  .rename_i hag hs;split at hk
   .rename_i hcc;obtain⟨rfl,rfl⟩:=aq hk;obtain⟨_,_,rfl,rfl⟩:=hcc;refine N7 (d:=d) (as:=[]) (g:=g) (t0:=t0) (fi:=fi) (h2:=h2) hop hag hs hI hr ha ?_;obtain⟨v1,rfl,_⟩:=hr.one;exact h
   .obtain ⟨rfl,rfl⟩:=aq hk;exact N7 hop hag hs hI hr ha h
  .exact gY hk
 .split at hk<;>(obtain⟨rfl,rfl⟩:=aq hk;cases h)
 .obtain ⟨rfl,rfl⟩:=aq hk;exact Mz hop hI hr h
 .exact abd hop hk hc hI hsh hr h
 .obtain ⟨rfl,rfl⟩:=aq hk;exact afd hop hI hr h
 .split at hk
  .rename_i hs hd;obtain⟨rfl,rfl⟩:=aq hk;exact N9 hop hs hd hI hr h
  .rename_i hs hd;obtain⟨rfl,rfl⟩:=aq hk;exact UH hop hs hd hI hr h
  .rename_i hs hd;obtain⟨rfl,rfl⟩:=aq hk;exact MA hop hs hd hI hr h
  .exact gY hk
 .split at hk
  .rename_i hf;obtain⟨rfl,rfl⟩:=aq hk;exact Xe hop hf hI hr h
  .exact gY hk
 .split at hk
  .split at hk
   .split at hk
    .split at hk<;>(obtain⟨rfl,rfl⟩:=aq hk;cases h)
    .exact gY hk
   .exact gY hk
  .exact gY hk
 .skip;(repeat' split at hk)<;>(obtain⟨rfl,rfl⟩:=aq hk;cases h)
 .skip;(repeat' split at hk)<;>(obtain⟨rfl,rfl⟩:=aq hk;cases h)
 .split at hk
  .rename_i hu;split at hk
   .rename_i hf;split at hk
    .rename_i m hs;obtain⟨rfl,rfl⟩:=aq hk;obtain⟨v1,rfl,h1⟩:=hr.one
     match fi,h with
     |[i],h=>
      change (match R_ _ (m+1) i v1 with|some w=>some (w,([]:List Nat))|none=>none)=_ at h;split at h<;>first|(cases h;done)|skip
      rename_i r hfl;obtain⟨rfl,rfl⟩:=aq (af h);exact M7 hop hu hf hs hI h1 hfl
    .exact gY hk
   .exact gY hk
  .exact gY hk
 .split at hk
  .rename_i hu;split at hk
   .rename_i hf;split at hk
    .rename_i hag hs;obtain⟨rfl,rfl⟩:=aq hk;exact UF hop hu hf hag hs hI hr h
    .exact gY hk
   .exact gY hk
  .exact gY hk
 .split at hk
  .rename_i hu;split at hk
   .rename_i hs;split at hk
    .obtain ⟨rfl,rfl⟩:=aq hk;exact abc hop hu hs hI hr h
    .obtain ⟨rfl,rfl⟩:=aq hk;cases h
   .exact gY hk
  .skip;(repeat' split at hk)<;>(obtain⟨rfl,rfl⟩:=aq hk;cases h)
  .exact gY hk
 .skip;(repeat' split at hk)<;>(obtain⟨rfl,rfl⟩:=aq hk;cases h)
 .obtain ⟨rfl,rfl⟩:=aq hk;exact N8 hop hI hr h
 .skip;(repeat' split at hk)<;>(obtain⟨rfl,rfl⟩:=aq hk;cases h)
 .split at hk
  .rename_i hu;split at hk
   .rename_i hm;obtain⟨rfl,rfl⟩:=aq hk;exact QQ hop hu hm hI hr ha h
   .exact gY hk
  .exact gY hk
 .skip;(repeat' split at hk)<;>(obtain⟨rfl,rfl⟩:=aq hk;cases h)
 .skip;(repeat' split at hk)<;>(obtain⟨rfl,rfl⟩:=aq hk;cases h)
 .skip;(repeat' split at hk)<;>(obtain⟨rfl,rfl⟩:=aq hk;cases h)
 .rename_i c;split at hk
  .grind [N_]
  .skip;(repeat' split at hk)<;>(obtain⟨rfl,rfl⟩:=aq hk;cases h)
  .obtain ⟨rfl,rfl⟩:=aq hk;cases h
  .exact gY hk
 .exact gY hk
end
end Go.Ev
