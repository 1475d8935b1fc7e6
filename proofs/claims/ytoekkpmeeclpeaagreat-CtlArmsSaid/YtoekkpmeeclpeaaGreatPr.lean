/- Operations that make nothing, fifth part: composite values, what is in a map. Conditions: the relation of XPa. -/
import Derived.Test.YtoekkpmeeclpeaaGreatPh
open Array renaming getElem?_eq_some_iff->bi,getElem?_setIfInBounds->iz,getElem?_toList->dj,range->pd,toArray_toList->jY,toList_push->mu
open Bool renaming and_eq_true->aw,false_eq_true->fE,not_false->mU
open Go renaming Call->oy
open List renaming append_assoc->aQ,cons_append->d8,drop_drop->kR,drop_left->pP,ext_getElem?->pN,getElem?_cons_succ->eC,getElem?_cons_zero->dh,getElem?_eq_getElem->bf,getElem?_eq_some_iff->aV,getElem?_replicate->pc,getElem?_set_self->lB,getElem?_take->oQ,getElem?_toArray->dM,length->eK,length_append->aA,length_eq_one_iff->fP,length_eq_zero_iff->bB,length_replicate->bp,length_take->bV,map_cons->a_,map_nil->gF,map_toArray->gp,mem_cons->aI,mem_map->aL,mem_of_mem_take->mR,range->aK,replicate->ay,take_append_drop->cK,take_length->eB,take_of_length_le->iO
open List.cons renaming inj->aB
open Nat renaming add_assoc->eV,add_mul->fW,add_zero->gd,blt->gE,blt_eq->eA,eq_of_beq_eq_true->cV,eq_zero_or_pos->gR,le_refl->aq,le_succ->aO,min_eq_left->gb,mul_le_mul_right->ct,succ_pos->lw,zero_add->cT,zero_mul->gD
open Option renaming isSome_iff_exists->km,map_eq_some_iff->cg,map_none->ox,map_some->fH
open Option.some renaming inj->ac,injEq->fh
open Prod.mk renaming inj->ap
open Sigma.mk renaming inj->fN
namespace Go.Ev
section
variable{P:Program}{S K:Nat->Prop}{w0 w w':World}{φ φ':fM}{H:Hf}{o:Oper}{ρ:Operand->Value}{n:Nat}{h2:H2}{v:V}{l:List Nat}{vs:List V}{d:Option Nat}{as:List Operand}{g:Option (Nat×Bool)}{t0:Ty}{fi:List Nat}
theorem EO{t:TypeId}{parts:Array (Nat×Operand)}{z:List Value}{pl:List (Nat×Nat)}(ho:o.op=.build t parts)(hz:gQ P t=some z)
  (hu:(∃fields,P.underlying t=some (.struct fields)/\kI P fields (parts.toList.map (·.1))=some pl/\fields.toList.all (fun f=>(dG P f.type).isSome)=true)\/
   (∃len el n,P.underlying t=some (.array len el)/\dG P el=some n/\pl=parts.toList.map fun p=>(p.1*n,n)))
  (hI:Inv S K w0 φ H w) (hr:Ar S w φ ρ (parts.toList.map (·.2)) vs) (h:wB ⟨⟨d,.build z pl,as,g⟩,t0,fi⟩ vs h2=some (v,l)):fS P o ρ S K w0 w φ H n v:=by
 change (bif tq (xo t0) z&&iD t0&&dF (K4 t0) false t0 then(match I4 t0 fi pl vs (K4 t0)with|some v=>some (v,([]:List Nat))|none=>none)else none)=_ at h;cases e:(tq (xo t0) z&&iD t0&&dF (K4 t0) false t0)<;>rw[e]at h
 .cases h
 simp only[cond_true]at h;split at h<;>first|(cases h;done)|skip
 rename_i v0 hb;obtain⟨rfl,rfl⟩:=ap (ac h);simp only[aw]at e;obtain⟨⟨e1,e2⟩,e3⟩:=e;obtain⟨zv,hzr,hzl,_⟩:=sH hz w;have hc:RC S w φ (K4 t0) zv.cells.toList:=by rw[hzl,<-vf e1];exact OI e3
 have key:∀gU:Nat->Option (Nat×Nat),(∀(k:Nat)(p:Nat×Operand)(q:Nat×Nat),parts.toList[k]?=some p->pl[k]?=some q->gU p.1=some q)->
   ∃arr',Instr.fill gU zv.cells ((parts.map fun p=>(p.1,ρ p.2)).toList)=some arr'/\RW S w φ v0 (.agg arr'):=by
  intro gU hp;obtain⟨arr',q1,q2,q3⟩:=Un hb hc e3 hr hp;refine⟨arr',by simpa using q1,R1.rw ⟨arr'.toList,q2,?_⟩⟩;rw[Xr q3,e2];simp
 rcases hu with⟨fields,hu,hpl,hall⟩|⟨len,el,m,hu,hn,rfl⟩
 .obtain ⟨h1,h2⟩:=JQ hpl;let gf:Field->Nat×Nat:=fun f=>(f.offset,(dG P f.type).getD 0)
  have hg:(fields.mapM fun f=>(do pure (f.offset,<-sizeOf f.type):Sem (Nat×Nat))).run P w=.ok (fields.map gf) w:=by
   rw[Array.mapM_eq_mapM_toList]
   have:=JH (P:=P) (w:=w) gf fields.toList fun f hf=>by
    grind [List.all_eq_true,km]
   simp only[Sem.run_map,this,Result.andThen_ok];congr 1;apply Array.ext';rw[Array.toList_map]
  obtain⟨arr',h3,h4⟩:=key (fun i=>(fields.map gf)[i]?) (fun i p q hp hq=>by
   obtain⟨f,hf,hq1,hq2⟩:=h2 i p.1 q (by grind) hq
   grind)
  refine fL.pure hI ?_ h4;simp only[execOp,ho,Sem.run_bind,Instr.build,hzr,Result.andThen_ok,bT hu,hg,h3,Sem.run_pure]
 .obtain ⟨arr',h3,h4⟩:=key (fun i=>some (i*m,m)) (fun i p q hp hq=>by simp_all);refine fL.pure hI ?_ h4;simp only[execOp,ho,Sem.run_bind,Instr.build,hzr,Result.andThen_ok,bT hu,j8 hn,h3,Sem.run_pure]
theorem MI{t ty:TypeId}{b:BinOp}{x y:Operand}{ks:List Kd}(ho:o.op=.binOp b t x y ty)(hop:b=.eql\/b=.neq)(hk:Cd P 8 t=some ks)(hag:eN P t=some true)
  (hg:P.eqGuardType P.depth t=false) (hI:Inv S K w0 φ H w) (hr:Ar S w φ ρ [x,y] vs) (h:wB ⟨⟨d,.Fo (b==.neq) ks,as,g⟩,t0,fi⟩ vs h2=some (v,l)):fS P o ρ S K w0 w φ H n v:=by
 obtain⟨v1,v2,rfl,h1,h3⟩:=hr.two;cases v1<;>first|(cases h;done)|skip
 rename_i u a;change (match tF u v2 with|some c=>bif iD u&&decide (AV u=some ks)then some (V.x .b (bif b==BinOp.neq then !(decide (a=c))else decide (a=c)),([]:List Nat))else none|none=>none)=_ at h;split at h<;>first|(cases h;done)|skip
 rename_i c hc;cases e:(iD u&&decide (AV u=some ks))<;>rw[e]at h
 .cases h
 obtain⟨rfl,rfl⟩:=ap (ac h);simp only[aw,decide_eq_true_eq]at e;obtain⟨xs,k1,k2⟩:=R1.agg h1 e.1;obtain⟨ys,k3,k4,_⟩:=r_ hc h3;rw[e.1]at k4;have heq:=(Iq (S:=S) (w:=w) e.2).2.1 (show RT S w u a xs from k1) k3;have he:=Lg 9992 8 t ks hk true hag xs ys _ w heq;have hc2:=Ci (w:=w) hop (t:=t) (x:=.agg xs.toArray) (y:=.agg ys.toArray) (b:=decide (a=c)) x y rfl rfl (run_eqGuard_agg w b t x y _ _ hg) (by rw[DE];simpa[nB]using he);exact fL.bool hI (DD ho (by rw[k2,k4];exact hc2)) rfl
theorem kO.len{k v:Ty}{es:List (El k×El v×Nat)}:∀{ms:List MapEntry},kO S w k v es ms->es.length=ms.length:=by
 induction es with
 |nil=>intro ms h;cases ms<;>first|rfl|exact h.elim
 |cons e es ih=>intro ms h;cases ms with|nil=>exact h.elim|cons m ms=>simp[ih h.2]
theorem Ul{t:TypeId}{kt vt:Ty}{ks:List Kd}{k:El kt}{kc:List Value}(hk:Cd P 8 t=some ks)(hag:eN P t=some (iD kt))(hkd:AV kt=some ks)(hkc:RT S w kt k kc):
  ∀{es:List (El kt×El vt×Nat)}{ms:List MapEntry}{i:Nat},kO S w kt vt es ms->
   (Instr.findAsking t (nB (iD kt) kc) ms i).run P w=.ok ((dx k es i).map fun r=>(r.1,(ms.getD (r.1-i) default).val)) w/\
   (iD kt=false->∀d,P.underlying t=some d->Instr.findNow d (nB (iD kt) kc) ms i=some ((dx k es i).map fun r=>(r.1,(ms.getD (r.1-i) default).val)))/\
   ∀r,dx k es i=some r->i<=r.1/\∃m,ms[r.1-i]?=some m/\Mx S w kt vt r.2 m:=by
 intro es;induction es with
 |nil=>intro ms i hE;cases ms with|nil=>exact⟨by simp[Instr.findAsking,dx],fun _ _ _=>rfl,fun r hr=>by cases hr⟩|cons m ms=>exact hE.elim
 |cons e es ih=>
  intro ms i hE;cases ms with
  |nil=>exact hE.elim
  |cons m ms=>
   obtain⟨c,d,q1,q2,q3⟩:=hE.1;have hb:=(Iq (S:=S) (w:=w) hkd).2.1 hkc q1;have heq:(Op.equal t (nB (iD kt) kc) m.key).run P w=.ok (decide (k=e.1)) w:=by rw[q2,DE];exact Lg 9992 8 t ks hk _ hag kc c _ w hb
   have hnow:iD kt=false->∀d,P.underlying t=some d->Instr.sameNow d (nB (iD kt) kc) m.key=some (decide (k=e.1)):=by
    intro hka d hd;rw[q2];rw[hka]at hag|-;obtain⟨_,ag,hag',hone⟩:=Av 8 t ks hk;obtain rfl:false=ag:=ac (hag.symm.trans hag');obtain⟨l1,l2⟩:=o8 hb;obtain⟨q,rfl⟩:=fP.1 (hone rfl);obtain⟨x,rfl⟩:=fP.1 l1;obtain⟨y,rfl⟩:=fP.1 l2
    have hb':OE q x y=some (decide (k=e.1)):=by
     simp only[lZ]at hb;split at hb
     .rename_i a c ha hc;obtain rfl:=ac hc;rw[ha];simpa using hb
     .simp at hb
    generalize decide (k=e.1)=b at hb';simp only[nB,fE,if_false,List.headD_cons];unfold Cd at hk;rw[hd]at hk;unfold OE at hb';simp only[eN,hd,fH,fh]at hag;cases d<;>simp at hk hag
    all_goals
     obtain⟨_,hq⟩:=hk;subst hq;split at hb'<;>simp_all[Instr.sameNow]
   by_cases hke:k=e.1
   .have e1:dx k (e::es) i=some (i,e):=by simp[dx,hke]
    rw[e1];simp only[hke,decide_true]at heq hnow;refine⟨by simp[Instr.findAsking,heq],fun hka d hd=>by simp[Instr.findNow,hnow hka d hd],fun r hr=>?_⟩;obtain rfl:=ac hr;exact⟨aq _,m,by simp,hE.1⟩
   .have e1:dx k (e::es) i=dx k es (i+1):=by simp[dx,hke]
    obtain⟨a1,a2,a3⟩:=ih (i:=i+1) hE.2;rw[e1];simp only[hke,decide_false]at heq hnow
    have hsh:((dx k es (i+1)).map fun r=>(r.1,(ms.getD (r.1-(i+1)) default).val))=(dx k es (i+1)).map fun r=>(r.1,((m::ms).getD (r.1-i) default).val):=by
     cases hr:dx k es (i+1)with
     |none=>rfl
     |some r=>
      have:=(a3 r hr).1;have e1:r.1-i=(r.1-(i+1))+1:=by omega
      simp only[fH,e1,List.getD_cons_succ]
    refine⟨?_,fun hka d hd=>?_,fun r hr=>?_⟩
    .simp only[Instr.findAsking,Sem.run_bind,heq,Result.andThen_ok,fE,if_false];rw[a1,hsh]
    .simp only[Instr.findNow,hnow hka d hd];rw[a2 hka d hd,hsh]
    .obtain ⟨b1,m',b2,b3⟩:=a3 r hr;have e1:r.1-i=(r.1-(i+1))+1:=by omega
     exact⟨by omega,m',by rw[e1];simpa using b2,b3⟩
theorem Cq{t:TypeId}{kt vt:Ty}{ks:List Kd}{k:El kt}{kc:List Value}(hk:Cd P 8 t=some ks)(hag:eN P t=some (iD kt))(hkd:AV kt=some ks)(hkc:RT S w kt k kc)
  {es:List (El kt×El vt×Nat)} {ms:List MapEntry} (hE:kO S w kt vt es ms):
  (Instr.findKey t (nB (iD kt) kc) ms).run P w=.ok ((dx k es 0).map fun r=>(r.1,(ms.getD r.1 default).val)) w/\∀r,dx k es 0=some r->∃m,ms[r.1]?=some m/\Mx S w kt vt r.2 m:=by
 obtain⟨h1,h2,h3⟩:=Ul (i:=0) hk hag hkd hkc hE;refine⟨?_,fun r hr=>by simpa using(h3 r hr).2⟩;cases ha:iD kt with
 |true=>
  rw[run_findKey_eq]
  .rw [ha]at h1;simpa using h1
  .rw [ha]at hag;grind [eN,cg]
 |false=>have hag':=hag;simp[eN]at hag';obtain⟨d,hd,_⟩:=hag';have:=h2 ha d hd;rw[ha]at this;simp_all[Instr.findKey,bT]
structure Sc(P:Program)(kt et:TypeId)(ka:Bool)(ks:List Kd)(va:Bool)(z:List Value):Prop where
 ag:eN P kt=some ka
 ks:Cd P 8 kt=some ks
 ae:eN P et=some va
 ze:gQ P et=some z
 za:Cw P et=some va
theorem xC{kt et:TypeId}{ka va:Bool}{ks:List Kd}{z:List Value}(h:BA P kt et=some (ka,ks,va,z)):Sc P kt et ka ks va z:=by
 simp only[BA]at h;split at h
 .rename_i ka' ks' va' z' h1 h2 h3 h4;split at h
  .rename_i h5;obtain⟨rfl,rfl,rfl,rfl⟩:ka'=ka/\ks'=ks/\va'=va/\z'=z:=by simpa using h
   exact⟨h1,h2,h3,h4,h5⟩
  .cases h
 .cases h
theorem EU{t:TypeId}{z:List Value}{va:Bool}(hz:gQ P t=some z)(ha:Cw P t=some va)(w:World):(zeroValue t).run P w=.ok (nB va z) w/\(va=false->z.length=1):=by
 simp only[gQ]at hz;split at hz
 .rename_i v hv;split at hz
  .obtain rfl:=ac hz;obtain⟨i,hi,hz⟩:=Option.bind_eq_some_iff.1 hv;simp[Cw,hv]at ha
   have:v=nB va v.cells.toList/\(va=false->v.cells.toList.length=1):=by
    cases v with
    |agg bz=>
     obtain rfl:true=va:=by simpa using ha
     simp[nB,Value.cells]
    |_=>
     obtain rfl:false=va:=by simpa using ha
     simp[nB,Value.cells]
   exact⟨by rw[<-this.1];simp[zeroValue,typeInfo,hi,hz],this.2⟩
  .simp at hz
 .simp at hz
theorem j9{r:Nat}{ms:Array MapEntry}{ce:Nat}(hb:w.heap[r]?=some (.map ms ce)):(getObj r).run P w=.ok (.map ms ce) w:=by simp[getObj,Sem.run,hb]
theorem mE{r:Nat}{ms:Array MapEntry}{ce:Nat}(ob:Obj)(hb:w.heap[r]?=some (.map ms ce)):(setObj r ob).run P w=.ok () {w with heap:=w.heap.setIfInBounds r ob}:=by simp[setObj,Sem.run,hb]
theorem Np{t kt et:TypeId}{ok:Bool}{kT vT:Ty}{ks:List Kd}{m ix:Operand}{q:El kT}{kc:List Value}{z:List Value}{mp:Mp (El kT) (El vT)}{ms:Array MapEntry}{r:Option Nat}(ho:o.op=.lookup t m ix ok)(hu:P.underlying t=some (.map kt et))
  (hm:Sc P kt et (iD kT) ks (iD vT) z) (hkd:AV kT=some ks) (hz:xo vT=z) (hd:kS vT=true) (hI:Inv S K w0 φ H w) (hx:ρ m=.map r) (hms:match r with|some r=>w.heap[r]?=some (.map ms mp.ce)|none=>ms= #[]) (hE:kO S w kT vT mp.es ms.toList) (hkc:RT S w kT q kc) (hkx:ρ ix=nB (iD kT) kc):
  fS P o ρ S K w0 w φ H n (bif ok then .tp (.co (.x vT (kp mp (pV vT) q)) (.co (.x .b (Df mp q)) .ni))else .x vT (kp mp (pV vT) q)):=by
 obtain⟨f1,f2⟩:=Cq hm.ks hm.ag hkd hkc hE;obtain⟨z1,z2⟩:=EU hm.ze hm.za w;have hkl:kc.length=ks.length:=hkc.len.trans (Iq (S:=S) (w:=w) hkd).2.2.symm;have hck:=fun b=>CO (P:=P) b 9992 8 kt ks hm.ks _ hm.ag kc w hkl
 have hval:∃vc,RT S w vT (kp mp (pV vT) q) vc/\(iD vT=false->vc.length=1)/\nB (iD vT) vc=(match dx q mp.es 0 with|some r=>(ms.toList.getD r.1 default).val|none=>nB (iD vT) z):=by
  unfold kp;cases hf:dx q mp.es 0 with
  |none=>exact⟨z,hz▸RT.ze hd,z2,rfl⟩
  |some r=>
   obtain⟨mm,g1,c,d,_,_,g3,g4,_⟩:=f2 r hf;refine⟨d,g3,fun e=>?_,?_⟩
   .rw [g3.len];have:=congrArg eK hz;rw[z2 e]at this;rw[<-this,(RT.ze (S:=S) (w:=w) hd).len]
   .simp [List.getD,g1,g4]
 obtain⟨vc,v1,v2,v3⟩:=hval;have hr:R1 S w φ (.x vT (kp mp (pV vT) q)) (nB (iD vT) vc):=R1.of (v:=.x vT _) v1 rfl v2;refine fL.pure (val:=if ok then .tuple #[nB (iD vT) vc,.bool (Df mp q)]else nB (iD vT) vc) hI ?_ ?_
 .have hck1:=hck true;have hck2:=hck ms.isEmpty;unfold Df;cases r with
  |none=>subst hms;simp only[execOp,ho,Instr.lookup,hx,Sem.run_bind,bT hu,Result.andThen_ok,hkx,Sem.run_pure];cases hf:dx q mp.es 0 with|none=>rw[hf]at f1 v3;simp_all|some r=>obtain⟨mm,g1,_⟩:=f2 r hf;simp at g1
  |some r=>simp only[execOp,ho,Instr.lookup,hx,Sem.run_bind,bT hu,Result.andThen_ok,j9 hms,hkx,Sem.run_pure];rw[show(10000:Nat)=8+9992 from rfl,hck2];cases hf:dx q mp.es 0 with|none=>rw[hf]at f1 v3;simp_all|some r=>rw[hf]at f1 v3;cases ok<;>simp_all
 .cases ok with|false=>exact hr.rw|true=>exact⟨[_,_],rfl,_,_,rfl,hr,_,_,rfl,⟨[_],rfl,rfl⟩,rfl⟩
end
section
variable{P:Program}{S K:Nat->Prop}{w0 w w':World}{φ φ':fM}{H:Hf}{o:Oper}{ρ:Operand->Value}{n:Nat}{h2:H2}{v:V}{l:List Nat}{vs:List V}{d:Option Nat}{as:List Operand}{g:Option (Nat×Bool)}{t0:Ty}{fi:List Nat}
theorem gO.new(hI:Inv S K w0 φ H w)(hn:φ n=none){b:Obj}(hb:∀c t r,b=.cells c t r->r=(0,0)){l:nF}{x:O}{v:V}{val:Value}(hl:l.bP=w.heap.size)
  (hro:gC S w S {w with heap:=w.heap.push b}->RO S {w with heap:=w.heap.push b} (ext φ n l) l x) (hob:ob {w with heap:=w.heap.push b} l x=[l.bP])
  (hv:RW S {w with heap:=w.heap.push b} (ext φ n l) v val):gO S K w0 w φ H n (n+1) v [(n,some x)] val {w with heap:=w.heap.push b}:=
 ⟨aO _,S,_,gC.push hI.Cg b,mg l hn,(fun i m h1 h2=>by
  simp only[ext]at h1;split at h1
  .omega
  .rw [h1]at h2;cases h2),hv,hI.new hn hb hl hro (by rw[hob];simp)⟩
theorem CN(t:TypeId)(val:Value):(newVar t val).run P w=.ok ⟨w.heap.size,0,none⟩ {w with heap:=w.heap.push (.cells val.cells t)}:=by simp[newVar,newRow]
theorem gO.box(hI:Inv S K w0 φ H w)(hn:φ n=none)(t:TypeId){u:Ty}{c:V}{val:Value}(hf:dF c false u=true)(hc:RC S w φ c val.cells.toList):
  gO S K w0 w φ H n (n+1) (.op n u []) [(n,some (.bx u c))] (.pointer (some ⟨w.heap.size,0,none⟩)) {w with heap:=w.heap.push (.cells val.cells t)}:=
 gO.new hI hn (l:=⟨w.heap.size,0,0,0,u,none⟩) (fun _ _ _ h=>by cases h;rfl) rfl (fun hs=>⟨rfl,hf,_,qY w _ t,hc.mono hs (mg _ hn)⟩) rfl
  (R1.rw (R1.wC ⟨_,fg _ _ _,rfl,by cases u<;>trivial,by cases u<;>rfl⟩ rfl))
theorem P9{t:TypeId}{z:List Value}(ho:o.op=.alloc t)(hz:gQ P t=some z)(hI:Inv S K w0 φ H w)(hn:φ n=none)(h:(tq (xo t0) z&&dF (K4 t0) false t0)=true):
  fL P o ρ S K w0 w φ H n (n+1) (.op n t0 []) [(n,some (.bx t0 (K4 t0)))]:=by
 simp only[aw]at h;obtain⟨val,hv,hc,_⟩:=sH hz w;refine⟨.value _,_,_,?_,.inl rfl,gO.box hI hn t (val:=val) h.2 (by rw[hc,<-vf h.1];exact OI h.2)⟩;simp[execOp,ho,Instr.alloc,hv,CN]
theorem WR{t:TypeId}{x:Operand}{v c:V}(ho:o.op=.box t x)(hI:Inv S K w0 φ H w)(hn:φ n=none)(hx:RW S w φ v (ρ x))(h:Jm t0 v=some c):
  fL P o ρ S K w0 w φ H n (n+1) (.op n t0 []) [(n,some (.bx t0 c))]:=by
 obtain⟨k1,k2⟩:=J7 h (J6 h hx).cells.1;refine⟨.value _,_,_,?_,.inl rfl,gO.box hI hn t k2 k1⟩;simp[execOp,ho,Instr.box,CN]
theorem Cy{n:Int}(h0:0<=n)(h1:n<=2147483648):IntKind.i64.wrap n=n:=by unfold IntKind.wrap IntKind.bits IntKind.signed;simp;split<;>omega
theorem AG{v:Value}{k:IntKind}{n:Int}(h:v=.int k n):(asInt v).run P w=.ok n w:=by subst h;simp[asInt,asIntOf]
theorem qW{v:Value}{k:IntKind}{n:Int}(h:v=.int k n):(asIntOf v).run P w=.ok (k,n) w:=by subst h;simp[asIntOf]
theorem K3{b:Nat}{bz:Array Value}(ho:pi w b bz){a c e:List Value}(h:bz.toList=a++c++e):At w b a.length c:=by
 have:At w b 0 bz.toList:=(yS ho).2 fun i v hi=>by simpa using hi
 rw[h]at this;have:=rJ this;rwa[cT]at this
theorem xn{z:List Value}{m:Nat}(hz:z.length=m)(hm:0<m)(k:Nat):(aK (k*m)).map (fun i=>z.getD (i %m) undef)=(ay k z).flatten:=by
 induction k with
 |zero=>simp
 |succ k ih=>
  rw[Nat.succ_mul,List.range_add,List.map_append,ih,List.replicate_succ',List.flatten_append,List.map_map];congr 1;rw[List.flatten_singleton];apply List.ext_getElem
  .simp [hz]
  .intro i h1 h2;have hi:i<m:=by simpa using h1
   simp[Nat.mul_add_mod_self_right,Nat.mod_eq_of_lt hi,h2]
theorem yU{zc:Array Value}{z:List Value}{sz n:Nat}(hz:zc.toList=z)(hl:z.length=sz)(hpos:0<sz):
  ((pd n).map (fun i=>zc[i %zc.size]!)).toList=(aK n).map fun i=>z.getD (i %sz) undef:=by
 grind [Array.toList_map,Array.toList_range,List.map_congr_left,Nat.mod_lt]
theorem BH{el:TypeId}(h:pK P el=true):∃i,P.info? el=some i/\0<i.bytes/\i.bytes<=16384:=by
 unfold pK at h
 grind
theorem x6{t el:TypeId}{m:Nat}{lo co:Operand}{z:List Value}{kl kc:IntKind}{a b:Int}(ho:o.op=.makeSlice t lo co)(hu:P.underlying t=some (.slice el))
  (hs:dG P el=some (m+1)) (hz:gQ P el=some z) (hzl:z.length=m+1) (hb:pK P el=true) (hl:ρ lo=.int kl a) (hc:ρ co=.int kc b) (h0:0<=a) (h1:a<=b) (h3:b<=2147483648):
  ∃bz:Array Value,bz.toList=(ay b.toNat z).flatten/\(execOp ρ o).run P w=.ok (.value (.slice (some ⟨w.heap.size,0,none⟩) a.toNat b.toNat)) {w with heap:=w.heap.push (.cells bz el)}:=by
 obtain⟨i,hi,hby0,hby⟩:=BH hb;obtain⟨zv,hzr,hzv,hzp⟩:=sH hz w;have hwa:IntKind.i64.wrap a=a:=Cy h0 (by omega);have hwb:IntKind.i64.wrap b=b:=Cy (by omega) (by omega);have hmul:(i.bytes:Int)*b<=16384*2147483648:=Int.mul_le_mul (by omega) (by omega) (by omega) (by omega);let bz:Array Value:=(pd (b.toNat*(m+1))).map (fun i=>zv.cells[i %zv.cells.size]!);refine⟨bz,(yU hzv hzl (lw _)).trans (xn hzl (lw _) _),?_⟩;have hinfo:∀w:World,(typeInfo el).run P w=.ok i w:=fun w=>by simp[typeInfo,hi]
 have harr0:∀zc:Array Value,(b.toNat*(m+1)=0->zc= #[])->(¬b.toNat*(m+1)=0->zc=zv.cells)->((pd (b.toNat*(m+1))).map (fun i=>zc[i %zc.size]!))=bz:=by
  grind
 simp only[execOp,ho,Sem.run_bind,Instr.makeSlice,bT hu,Result.andThen_ok,AG hl,AG hc,hinfo,hwa,hwb];rw[Sem.run_ite,if_neg (by simp;omega)];simp only[Sem.run_pure,Result.andThen_ok,Sem.run_bind,run_askRoom,j8 hs];by_cases hc0:b.toNat*(m+1)=0
 .have:=harr0 #[] (fun _=>rfl) (fun h=>absurd hc0 h);simp only[if_pos hc0,Sem.run_bind,Sem.run_pure,Result.andThen_ok,newRow,run_newObj,this]
 .have:=harr0 zv.cells (fun h=>absurd h hc0) (fun _=>rfl);simp only[if_neg hc0,Sem.run_bind,hzr,Sem.run_pure,Result.andThen_ok,newRow,run_newObj,this]
theorem LI{α:Type}{z:α}{a b:Int}{r:List α}(h:yT z a b=some r):0<=a/\a<=b/\b<=2147483648/\r=ay a.toNat z:=by
 unfold yT at h;split at h
 .rename_i hc;exact⟨hc.1,hc.2.1,hc.2.2,(ac h).symm⟩
 .cases h
theorem gO.bz(hI:Inv S K w0 φ H w)(hn:φ n=none)(el:TypeId){u:Ty}{r:List (El u)}{c e:List Value}{bz:Array Value}{cap:Nat}(hd:kS u=true)(hsz:0<df u)(hr:lC (RT S w u) r c)(ha:bz.toList=c++e)(hcap:r.length<=cap)(hext:cap*df u<=bz.size):
  gO S K w0 w φ H n (n+1) (.so n) [(n,some (.ar u (.mk r) 0))] (.slice (some ⟨w.heap.size,0,none⟩) r.length cap) {w with heap:=w.heap.push (.cells bz el)}:=by
 refine gO.new hI hn (l:=⟨w.heap.size,0,bz.size,cap,u,some r.length⟩) (fun _ _ _ h=>by cases h;rfl) rfl (fun hs=>⟨rfl,rfl,hd,hsz,fun r' e'=>?_⟩) rfl
  (R1.rw (R1.wC ⟨_,fg _ _ _,0,cap,rfl,hcap,by simp,by simp,by simpa using hext⟩ rfl))
 cases e';have hm:r.length*df u<=cap*df u:=ct _ hcap;exact⟨bz,c,qY w bz el,rfl,hcap,by simp;omega,hr.imp fun _ _ _=>RT.mono hs,K3 (a:=[]) (qY w bz el) (by simpa using ha)⟩
theorem FW{t el:TypeId}{m:Nat}{lo co:Operand}{z:List Value}{kl kc:IntKind}{a b:Int}{r:List (El t0)}(ho:o.op=.makeSlice t lo co)(hu:P.underlying t=some (.slice el))
  (hs:dG P el=some (m+1)) (hz:gQ P el=some z) (hzl:z.length=m+1) (hb:pK P el=true) (hI:Inv S K w0 φ H w) (hn:φ n=none) (hl:ρ lo=.int kl a) (hc:ρ co=.int kc b)
  (h:(tq (xo t0) z&&Bv t0)=true) (hmk:yT (pV t0) a b=some r):fL P o ρ S K w0 w φ H n (n+1) (.so n) [(n,some (.ar t0 (.mk r) 0))]:=by
 simp only[aw,Bv,eA]at h;obtain⟨h1,h3,h4⟩:=h;obtain⟨a1,a2,a3,rfl⟩:=LI hmk;obtain⟨bz,q1,q2⟩:=x6 (w:=w) ho hu hs hz hzl hb hl hc a1 a2 a3;have hzz:=vf h1;have hlen:z.length=df t0:=by rw[<-hzz];exact(RT.ze (S:=S) (w:=w) h3).len
 have hD:=gO.bz (K:=K) (w0:=w0) (bz:=bz) hI hn el h3 h4 (Ai (RT.ze h3) a.toNat) (e:=(ay (b.toNat-a.toNat) z).flatten) (by
  rw[q1,hzz,<-List.flatten_append,List.replicate_append_replicate];congr 2;omega) (cap:=b.toNat) (by simp;omega) (by
  have:=congrArg eK q1;simp[hlen]at this;omega)
 rw[bp]at hD;exact⟨.value _,_,_,q2,.inl rfl,hD⟩
theorem P3{t el:TypeId}{m:Nat}{lo co:Operand}{z:List Value}{kl kc:IntKind}{a b:Int}{u:Ty}{r:List (Sl (El u))}(ho:o.op=.makeSlice t lo co)(hu:P.underlying t=some (.slice el))
  (hs:dG P el=some (m+1)) (hz:gQ P el=some z) (hzl:z.length=m+1) (hb:pK P el=true) (hz1:Dp z=true) (hI:Inv S K w0 φ H w) (hn:φ n=none) (hl:ρ lo=.int kl a) (hc:ρ co=.int kc b)
  (h:Bv u=true) (hmk:yT (Sl.nil:Sl (El u)) a b=some r):fL P o ρ S K w0 w φ H n (n+1) (.sr n) [(n,some (.rw u (.mk r) none))]:=by
 simp only[aw,Bv,eA]at h;obtain rfl:z=[.slice none 0 0]:=by grind [Dp]
 obtain⟨a1,a2,a3,rfl⟩:=LI hmk;obtain⟨bz,q1,q2⟩:=x6 (w:=w) ho hu hs hz hzl hb hl hc a1 a2 a3;have hfl:∀k,(ay k [Value.slice none 0 0]).flatten=ay k (.slice none 0 0):=by intro k;induction k with|zero=>rfl|succ k ih=>rw[List.replicate_succ,List.flatten_cons,ih];rfl
 rw[hfl]at q1;have hsize:bz.size=b.toNat:=by have:=congrArg eK q1;simpa using this
 have hget:∀i,i<a.toNat->bz[i]?=some (.slice none 0 0):=fun i hi=>by rw[<-dj,q1,pc,if_pos (by omega)]
 refine⟨.value _,_,_,q2,.inl rfl,gO.new hI hn (l:=⟨w.heap.size,0,bz.size,b.toNat,.sl u,some a.toNat⟩) (fun _ _ _ h=>by cases h;rfl) rfl (fun hs=>⟨rfl,by simp[kx],h.1,h.2,fun r' e'=>?_⟩) ?_
  (R1.rw (R1.wC ⟨_,fg _ _ _,0,b.toNat,rfl,by omega,by simp,by simp,by simp[df,hsize]⟩ rfl))⟩
 .cases e';refine⟨bz,qY w bz el,rfl,by simp;omega,by simp[hsize];omega,fun i j b hi _ hb=>?_,fun i x hi=>⟨.slice none 0 0,?_,?_⟩⟩
  .simp [qk,rN,(qY w bz el).cell,hget i (by simpa using hi)]at hb
  .rw [pc]at hi;split at hi
   .rw [cT];exact hget i (by assumption)
   .cases hi
  .rw [pc]at hi;split at hi
   .obtain rfl:=ac hi;exact rfl
   .cases hi
 .simp only[ob,CS,bp,List.cons.injEq,true_and,List.flatMap_eq_nil_iff,List.mem_range];intro i hi;simp[qk,rN,(qY w bz el).cell,hget i hi]
theorem J3{t kt et:TypeId}{kT vT:Ty}(ho:o.op=.makeMap t none)(hI:Inv S K w0 φ H w)(hn:φ n=none)(hd:kS vT=true)(hk:(AV kT).isSome=true):
  fL P o ρ S K w0 w φ H n (n+1) (.om n) [(n,some (.mp kT vT Mp.none))]:=by
 refine⟨.value (.map (some w.heap.size)),_,{w with heap:=w.heap.push (.map #[] 0)},by simp[execOp,ho,Instr.makeMap],.inl rfl,gO.new hI hn (l:=⟨w.heap.size,0,0,0,.un,none⟩) (fun _ _ _ h=>by cases h) rfl
  (fun hs=>⟨hd,km.1 hk, #[],by simp[Mp.none],trivial⟩) rfl (R1.rw (R1.wC ⟨_,fg _ _ _,rfl⟩ rfl))⟩
end
abbrev Yd(t:Ty)(s:Sl (El t)):(t:Ty)×Sl (El t):=⟨t,s⟩
def IS(u t:Ty)(s:Sl (El u))(lo:Nat)(r:Sl (El t)):Prop:=(s.nw=true/\r=.nil)\/∃q m,Yd u s=Yd t (.mk q)/\r=.mk ((q.drop lo).take m)/\lo+m<=q.length
def TC:O->Prop
 |.ar _ s _|.im _ s _=>s.nw=false
 |.rw _ s _=>(s:Sl _).nw=false
 |_=>True
def dZ(n:Nat)(h:H2):V->Prop
 |.so id|.sr id|.om id|.op id _ _|.vs id _=>id<n
 |.ep id _ _ _=>id<n/\∀o,fO h id=some o->TC o
 |.sb id ver lo t r=>id<n/\(r.nw=false->∀o,fO h id=some o->TC o)/\∀u s v,(fO h id=some (.ar u s v)\/fO h id=some (.im u s v))->ver<=v/\(v=ver->IS u t s lo r)
 |.fn _ _ l|.rc l|.tp l=>dZ n h l
 |.co a r=>dZ n h a/\dZ n h r
 |_=>True
section
variable{P:Program}{S K:Nat->Prop}{w0 w w':World}{φ φ':fM}{H:Hf}{n:Nat}{h:H2}{l:List Nat}
def SF(S:Nat->Prop)(w:World)(φ:fM)(H:Hf)(l:List Nat)(b:Nat):Prop:=S b\/∃i∈l,∃o lo,H i=some o/\φ i=some lo/\b∈ob w lo o
theorem SF.Jl(l:List Nat):gC S w (SF S w φ H l) w:=⟨fun _ h=>.inl h,fun _ _=>rfl⟩
theorem SF.sub{l m:List Nat}(h:∀i∈l,i∈m):gC (SF S w φ H l) w (SF S w φ H m) w:=⟨fun _ hb=>hb.imp id fun⟨i,hi,q⟩=>⟨i,h i hi,q⟩,fun _ _=>rfl⟩
theorem Aj{α:Type}{R:α->List Value->Prop}{sz:Nat}{l:List α}{c:List Value}(hn:∀x∈l,∀c,R x c->c.length=sz)(h:lC R l c)(k m:Nat)(hk:k<=l.length):∃a d b,c=a++d++b/\a.length=k*sz/\lC R ((l.drop k).take m) d:=by
 have e:l=l.take k++((l.drop k).take m++(l.drop k).drop m):=by rw[cK,cK]
 rw[e]at h;obtain⟨a,b,rfl,h1,h2⟩:=ki.1 h;obtain⟨d,f,rfl,h3,h4⟩:=ki.1 h2;refine⟨a,d,f,by simp,?_,h3⟩;rw[lC.len (fun x hx=>hn x (mR hx)) h1,bV,gb hk]
theorem RT.wS{S':Nat->Prop}{l1:nF}{lo:Nat}{t:Ty}{s:Sl (El t)}{c d:List Value}(hh:yH l1 lo (kx s) c)(ht:l1.t=t)(hsz:0<df t)(hS:S' l1.bP)(hd:lC (RT S' w t) s.l d)(ha:At w l1.bP (l1.gN+lo*df t) d):RT S' w (.sl t) s c:=by
 cases s with
 |nil=>exact hh
 |mk r=>
  obtain⟨addr,cap,rfl,h1,h2,h3,h4⟩:=hh;refine⟨_,cap,rfl,h1,hsz,?_⟩;rcases gR cap with e|e
  .exact .inl ⟨bB.1 (by omega),e⟩
  .rw [ht]at h3;exact .inr ⟨hS,rfl,d,hd,by rw[h3 e];exact ha⟩
theorem SF.bP{i:Nat}{o:O}{lo:nF}{b:Nat}(hi:i∈l)(ho:H i=some o)(hl:φ i=some lo)(hb:b∈ob w lo o):SF S w φ H l b:=.inr ⟨i,hi,o,lo,ho,hl,hb⟩
theorem RO.ZE{S':Nat->Prop}{l1:nF}{t:Ty}{r:List (Sl (El t))}(hs:gC S w S' w)(h:RO S w φ l1 (.rw t (.mk r) none))(hb:∀b∈ob w l1 (.rw t (.mk r) none),S' b):∃d,lC (RT S' w (.sl t)) r d/\At w l1.bP l1.gN d:=by
 obtain⟨_,_,h3,h4,h5⟩:=h;obtain⟨bz,k1,_,_,_,_,k5⟩:=h5 r rfl
 have go:∀(q:List (Sl (El t)))(j:Nat),(∀i x,q[i]?=some x->r[j+i]?=some x)->∃d,lC (RT S' w (.sl t)) q d/\At w l1.bP (l1.gN+j) d:=by
  intro q;induction q with
  |nil=>intro j _;exact⟨[],rfl,trivial⟩
  |cons x q ih=>
   intro j hq;obtain⟨d,d1,d2⟩:=ih (j+1) fun i y hi=>by have:=hq (i+1) y (by simpa using hi);rwa[show j+(i+1)=j+1+i by omega]at this
   have hx:=hq 0 x rfl;obtain⟨v,v1,v2⟩:=k5 j x hx;refine⟨v::d,⟨[v],d,rfl,?_,d1⟩,(k1.cell _).trans v1,d2⟩;cases x with|nil=>obtain rfl:v=_:=v2;rfl|mk rr=>obtain⟨b,addr,cap,arr',d',rfl,m2,m3,m4,m5,m6⟩:=v2;have hSb:S' b:=hb b (by simp only[ob];exact List.mem_cons_of_mem _ (E_ (aV.1 hx).1 (by simp) (by simp[rN,k1.cell,v1])));exact⟨_,cap,rfl,m3,h4,.inr ⟨hSb,rfl,d',m5.imp fun _ _ _=>RT.mono hs,m6⟩⟩
 exact go r 0 fun i x hi=>by rwa[cT]
def OG(B S:Nat->Prop)(w:World)(t:Ty)(s:Sl (El t))(c:List Value):Prop:=match s with|.nil=>c=[.slice none 0 0]|.mk l=>∃a cap,c=[.slice (some a) l.length cap]/\l.length<=cap/\0<df t/\(l=[]/\cap=0\/B a.block/\a.spot=none/\∃d,lC (RT S w t) l d/\At w a.block a.off d)
theorem OG.rt{B S':Nat->Prop}{t:Ty}{s:Sl (El t)}{c:List Value}(h:OG B S w t s c)(hs:gC S w S' w)(hB:∀b,B b->S' b):RT S' w (.sl t) s c:=by cases s with|nil=>exact h|mk r=>obtain⟨a,cap,h1,h2,h3,h4⟩:=h;exact⟨a,cap,h1,h2,h3,h4.imp id fun⟨k1,k2,d,k3,k4⟩=>⟨hB _ k1,k2,d,k3.imp fun _ _ _=>RT.mono hs,k4⟩⟩
theorem OG.wS{B:Nat->Prop}{l1:nF}{lo:Nat}{t:Ty}{s:Sl (El t)}{c d:List Value}(hh:yH l1 lo (kx s) c)(ht:l1.t=t)(hsz:0<df t)(hS:B l1.bP)(hd:lC (RT S w t) s.l d)(ha:At w l1.bP (l1.gN+lo*df t) d):OG B S w t s c:=by
 cases s with
 |nil=>exact hh
 |mk r=>
  obtain⟨addr,cap,rfl,h1,h2,h3,h4⟩:=hh;refine⟨_,cap,rfl,h1,hsz,?_⟩;rcases gR cap with e|e
  .exact .inl ⟨bB.1 (by omega),e⟩
  .rw [ht]at h3;exact .inr ⟨hS,rfl,d,hd,by rw[h3 e];exact ha⟩
theorem Vq{v:V}{t:Ty}{s:Sl (El t)}{c:List Value}(hI:Inv S K w0 φ H w)(hf:G1 h v=some ⟨t,s,l⟩)(hv:RC S w φ v c)(ha:∀i∈l,H i=fO h i)(hal:oN h v=true)(hok:dZ n h v):
  OG (SF S w φ H l) S w t s c/\(kS t=true/\0<df t\/l=[]):=by
 have HI:∀{id:Nat}{l1:nF}{u:Ty}{q:List (El u)}{ver:Nat},id∈l->φ id=some l1->(fO h id=some (.ar u (.mk q) ver)\/fO h id=some (.im u (.mk q) ver))->l1.t=u/\kS u=true/\0<df u/\SF S w φ H l l1.bP/\∃d,lC (RT S w u) q d/\At w l1.bP l1.gN d:=by
  intro id l1 u q ver hi hl ho;rcases ho with ho|ho
  all_goals
   obtain⟨l2,o1,o2,_⟩:=hI.lS id _ ((ha id hi).trans ho);obtain rfl:=ac (hl.symm.trans o1)
  .obtain ⟨h1,h2,h3,h4,h5⟩:=o2;obtain⟨bz,d,_,_,_,_,k5,k6⟩:=h5 q rfl;exact⟨h1,h3,h4,SF.bP hi ((ha id hi).trans ho) hl (by simp[ob]),d,k5,k6⟩
  .obtain ⟨h1,h2,h3,h4,h5⟩:=o2;obtain⟨k0,d,k5,k6⟩:=h5 q rfl;exact⟨h1,h3,h4,.inl k0,d,k5,k6⟩
 have nils:∀{id:Nat}{l1:nF}{u:Ty}{q:Sl (El u)}{ver:Nat},id∈l->φ id=some l1->(fO h id=some (.ar u q ver)\/fO h id=some (.im u q ver))->l1.n=kx q/\kS u=true/\0<df u:=by
  intro id l1 u q ver hi hl ho;rcases ho with ho|ho
  all_goals
   obtain⟨l2,o1,o2,_⟩:=hI.lS id _ ((ha id hi).trans ho);obtain rfl:=ac (hl.symm.trans o1);exact⟨o2.2.1,o2.2.2.1,o2.2.2.2.1⟩
 unfold G1 at hf;split at hf
 .obtain ⟨e1,e2⟩:=fN (ac hf);subst e1;obtain⟨rfl,rfl⟩:=ap (eq_of_heq e2);refine⟨?_,.inr rfl⟩;rename_i s0;cases s0 with|nil=>exact hv|mk r=>obtain⟨a,cap,h1,h2,h3,h4⟩:=hv;exact⟨a,cap,h1,h2,h3,h4.imp id fun⟨k1,k2⟩=>⟨.inl k1,k2⟩⟩
 .rename_i id;obtain⟨l1,k1,k2⟩:=hv;have key:∀{u:Ty}{q:Sl (El u)}{ver:Nat},(fO h id=some (.ar u q ver)\/fO h id=some (.im u q ver))->some (⟨u,q,[id]⟩:(t:Ty)×Sl (El t)×List Nat)=some ⟨t,s,l⟩->OG (SF S w φ H l) S w t s c/\(kS t=true/\0<df t\/l=[]):=by intro u q ver ho hf;obtain⟨e1,e2⟩:=fN (ac hf);subst e1;obtain⟨rfl,rfl⟩:=ap (eq_of_heq e2);obtain⟨n1,n2,n3⟩:=nils (by simp) k1 ho;rw[n1]at k2;refine⟨?_,.inl ⟨n2,n3⟩⟩;cases q with|nil=>exact k2|mk r=>obtain⟨p1,_,p3,p4,dd,p5,p6⟩:=HI (by simp) k1 ho;exact OG.wS k2 p1 p3 p4 p5 (by rw[gD];exact p6)
  split at hf
  .rename_i ho;exact key (.inl ho) hf
  .rename_i ho;exact key (.inr ho) hf
  .cases hf
 .rename_i id ver lo u r;obtain⟨e1,e2⟩:=fN (ac hf);subst e1;obtain⟨rfl,rfl⟩:=ap (eq_of_heq e2);obtain⟨l1,k1,k2,_,k3⟩:=hv
  have key:∀{u2:Ty}{q:Sl (El u2)},(fO h id=some (.ar u2 q ver)\/fO h id=some (.im u2 q ver))->OG (SF S w φ H [id]) S w u r c/\(kS u=true/\0<df u\/[id]=[]):=by
   intro u2 q ho;have hu:kS u=true:=by simp only[oN,aw]at hal;exact hal.1
   obtain⟨n1,n2,n3⟩:=nils (by simp) k1 ho;rcases(hok.2.2 u2 q ver ho).2 rfl with⟨q1,rfl⟩|⟨qq,m,q1,rfl,q3⟩
   .have hsh:l1.t=u2:=by
     rcases ho with ho|ho
     all_goals
      obtain⟨l2,o1,o2,_⟩:=hI.lS id _ ((ha id (by simp)).trans ho);obtain rfl:=ac (k1.symm.trans o1);exact o2.1
    obtain rfl:u2=u:=hsh.symm.trans k2;exact⟨k3,.inl ⟨n2,n3⟩⟩
   .obtain ⟨rfl,e⟩:=fN q1;obtain rfl:=eq_of_heq e;obtain⟨p1,p2,p3,p4,dd,p5,p6⟩:=HI (by simp) k1 ho;obtain⟨a,d2,b,rfl,r1,r2⟩:=Aj (fun _ _ _ h=>RT.len h) p5 lo m (by omega);exact⟨OG.wS k3 p1 p3 p4 r2 (by rw[<-r1];exact rJ p6),.inl ⟨p2,p3⟩⟩
  simp only[oN,aw]at hal;have hal2:=hal.2;split at hal2
  .rename_i u2 q v2 ho;obtain rfl:v2=ver:=by simpa using hal2
   exact key (.inl ho)
  .rename_i u2 q v2 ho;obtain rfl:v2=ver:=by simpa using hal2
   exact key (.inr ho)
  .cases hal2
 .cases hf
theorem Po{v:V}{t:Ty}{s:Sl (El t)}{c:List Value}{S':Nat->Prop}(hI:Inv S K w0 φ H w)(hs:gC S w S' w)(hf:G1 h v=some ⟨t,s,l⟩)(hv:RC S w φ v c)(ha:∀i∈l,H i=fO h i)(hal:oN h v=true)(hok:dZ n h v)(hS:∀b,SF S w φ H l b->S' b):
  RT S' w (.sl t) s c:=(Vq hI hf hv ha hal hok).1.rt hs hS
theorem zV:∀{v x:V}{l:List Nat}{c:List Value}{S':Nat->Prop},Inv S K w0 φ H w->gC S w S' w->tD h v=some (x,l)->RC S w φ v c->(∀i∈l,H i=fO h i)->oN h v=true->dZ n h v->(∀b,SF S w φ H l b->S' b)->RC S' w φ x c:=by
 intro v;induction v with
 |so id=>
  intro x l c S' hI hs hf hv ha hal hok hS;simp only[tD]at hf;split at hf
  .rename_i t s l' hsl;obtain⟨rfl,rfl⟩:=ap (ac hf);exact Po hI hs hsl hv ha hal hok hS
  .cases hf
 |sb id ver lo t r=>
  intro x l c S' hI hs hf hv ha hal hok hS;simp only[tD]at hf;split at hf
  .rename_i t s l' hsl;obtain⟨rfl,rfl⟩:=ap (ac hf);exact Po hI hs hsl hv ha hal hok hS
  .cases hf
 |sr id=>
  intro x l c S' hI hs hf hv ha hal hok hS;simp only[tD]at hf;split at hf
  .rename_i t s ho;obtain⟨rfl,rfl⟩:=ap (ac hf);obtain⟨l1,k1,k2⟩:=hv;have ho':=(ha id (by simp)).trans ho;obtain⟨l2,o1,o2,_⟩:=hI.lS id _ ho';obtain rfl:=ac (k1.symm.trans o1);have hn:=o2.2.1;rw[hn]at k2;have e:df (.sl t)=1:=rfl;cases s with|nil=>exact k2|mk r=>obtain⟨d,d1,d2⟩:=o2.ZE hs fun b hb=>hS b (SF.bP (by simp) ho' k1 hb);exact RT.wS (t:=.sl t) (s:=(.mk r:Sl (El (.sl t)))) k2 o2.1 (by simp[df]) (hS _ (SF.bP (by simp) ho' k1 (by simp[ob]))) d1 (by rw[gD];exact d2)
  .cases hf
 |rc l0 ih=>
  intro x l c S' hI hs hf hv ha hal hok hS;simp only[tD]at hf;split at hf
  .rename_i y l' hy;obtain⟨rfl,rfl⟩:=ap (ac hf);show RC S' w φ y c;exact ih hI hs hy hv ha hal hok hS
  .cases hf
 |co a r iha ihr=>
  rintro x l c S' hI hs hf ⟨d,e,rfl,h1,h2⟩ ha hal hok hS;simp only[tD]at hf;simp only[oN,aw]at hal;split at hf
  .rename_i y l1 z l2 hy hz;obtain⟨rfl,rfl⟩:=ap (ac hf);exact⟨d,e,rfl,iha hI hs hy h1 (fun i hi=>ha i (by simp[hi])) hal.1 hok.1 fun b hb=>hS b ((SF.sub (by simp_all)).sub b hb),ihr hI hs hz h2 (fun i hi=>ha i (by simp[hi])) hal.2 hok.2 fun b hb=>hS b ((SF.sub (by simp_all)).sub b hb)⟩
  .cases hf
 |fn z f l0 ih=>intro x l c S' hI hs hf hv ha hal hok hS;cases z with|true=>obtain⟨rfl,rfl⟩:=ap (ac hf);exact hv.mono hs (Ren.refl _)|false=>cases hf
 |_=>
  intro x l c S' hI hs hf hv ha hal hok hS
  first
   |(cases hf;done)
   |(obtain⟨rfl,rfl⟩:=ap (ac hf);exact hv.mono hs (Ren.refl _))
def yI(h:H2)(i:Nat):Option (Option O):=match fO h i with|some (.rw _ _ none)=>some none|_=>(N1 h i).map some
theorem Ug{i:Nat}{r:Option O}{o':O}(hr:yI h i=some r)(ho:r=some o'):∃o,fO h i=some o/\∀{S':Nat->Prop}{lo:nF},gC S w S' w->RO S w φ lo o->(∀b∈ob w lo o,S' b)->RO S' w φ lo o'/\ob w lo o'=[]:=by
 subst ho
 have sl:∀{t:Ty}{s:Sl (El t)}{v:Nat},(fO h i=some (.ar t s v)\/fO h i=some (.im t s v))->o'=.im t s v->∃o,fO h i=some o/\∀{S':Nat->Prop}{lo:nF},gC S w S' w->RO S w φ lo o->(∀b∈ob w lo o,S' b)->RO S' w φ lo o'/\ob w lo o'=[]:=by
  rintro t s v (ho|ho) rfl
  .refine ⟨_,ho,fun hs h hb=>⟨⟨h.1,h.2.1,h.2.2.1,h.2.2.2.1,fun r e=>?_⟩,rfl⟩⟩;obtain⟨bz,d,_,_,_,_,k5,k6⟩:=h.2.2.2.2 r e;exact⟨hb _ (by rw[e];simp[ob]),d,k5.imp fun _ _ _=>RT.mono hs,k6⟩
  .exact ⟨_,ho,fun hs h hb=>⟨h.mono hs (Ren.refl _) fun _ _=>rfl,rfl⟩⟩
 unfold yI at hr;split at hr
 .cases hr
 .obtain ⟨o2,ho2,e⟩:=cg.1 hr;obtain rfl:=ac e;unfold N1 at ho2;split at ho2
  .rename_i ho;obtain rfl:=ac ho2;exact sl (.inl ho) rfl
  .rename_i ho;obtain rfl:=ac ho2;exact sl (.inr ho) rfl
  .rename_i ho;obtain rfl:=ac ho2;exact⟨_,ho,fun hs h hb=>⟨h.mono hs (Ren.refl _) fun _ _=>rfl,rfl⟩⟩
  .rename_i t c ho;cases ec:(kS t&&gE (df t) 300)<;>rw[ec]at ho2
   .cases ho2
   simp only[cond_true]at ho2;split at ho2<;>first|(cases ho2;done)|skip
   split at ho2<;>first|(cases ho2;done)|skip
   rename_i x hx;obtain rfl:=ac ho2;simp only[aw]at ec;refine⟨_,ho,fun hs h hb=>⟨?_,rfl⟩⟩;obtain⟨h1,h2,bz,h3,h4⟩:=h;exact⟨h1,ec.1,hb _ (by simp[ob]),bz.toList,xg hx (h4.mono hs (Ren.refl _)),(yS h3).2 fun i v hi=>by simpa using hi⟩
  .cases ho2
theorem yJ:∀{l:List Nat}{s s':S2},uv h l s=some s'->∃u:ri,s'=⟨s.gX,u++s.heap,s.next,u.map (·.1)++s.wo,s.gh⟩/\u.map (·.1)=l/\∀p∈u,yI h p.1=some p.2:=by
 intro l;induction l with
 |nil=>intro s s' hf;obtain rfl:=ac hf;exact⟨[],rfl,rfl,fun p hp=>by simp at hp⟩
 |cons i l ih=>
  intro s s' hf;simp only[uv]at hf;split at hf
  .rename_i ho;split at hf
   .rename_i s1 h1;obtain rfl:=ac hf;obtain⟨u,rfl,h3,h4⟩:=ih h1;refine⟨(i,none)::u,rfl,by simp[h3],fun p hp=>?_⟩;rcases aI.1 hp with rfl|hp
    .simp [yI,ho]
    .exact h4 p hp
   .cases hf
  .rename_i ho;split at hf
   .rename_i o s1 h0 h1;obtain rfl:=ac hf;obtain⟨u,rfl,h3,h4⟩:=ih h1;refine⟨(i,some o)::u,rfl,by simp[h3],fun p hp=>?_⟩;rcases aI.1 hp with rfl|hp
    .unfold yI;split
     .rename_i e;exact absurd e (ho _ _)
     .simp [h0]
    .exact h4 p hp
   .cases hf
theorem lg{α:Type}{u:List (Nat×α)}{i:Nat}:(∀x,gB u i=some x->(i,x)∈u)/\(gB u i=none->∀p∈u,p.1≠i):=by
 induction u with
 |nil=>exact⟨(fun x h=>by cases h),fun _ p hp=>by simp at hp⟩
 |cons q u ih=>
  obtain⟨j,y⟩:=q;simp only[gB];by_cases e:j=i
  .subst e;simp only[beq_self_eq_true,cond_true];exact⟨(fun x h=>by rw[ac h];simp),(fun h=>by cases h)⟩
  .rw [show(j==i)=false by simpa using e];simp only[cond_false];refine⟨(fun x h=>by simp[ih.1 x h]),fun h p hp=>?_⟩;rcases aI.1 hp with rfl|hp
   .exact e
   .exact ih.2 h p hp
theorem Inv.Ku(hI:Inv S K w0 φ H w){u:ri}(hk:u.map (·.1)=l)(hu:∀p∈u,yI h p.1=some p.2)(ha:∀i∈l,H i=fO h i):Inv (SF S w φ H l) K w0 φ (up H u) w:=by
 have hSF:∀b,SF S w φ H l b->(S b\/(¬S b/\¬K b/\b<w.heap.size)):=by
  rintro b (hb|⟨i,hi,o,lo,ho,hl,hb⟩)
  .exact .inl hb
  .obtain ⟨l2,a1,_,a4⟩:=hI.lS i o ho;obtain rfl:=ac (hl.symm.trans a1);exact .inr (a4 b hb)
 refine hI.gM (fun i=>i∈l) (SF.Jl l) (Ren.refl _) (fun b hb=>(hSF b hb).elim (hI.Cg b) fun h=>h.2.2) (fun b hb=>(hSF b hb).elim (hI.sk b) fun h=>h.2.1) hI.sq (fun i o hi ho=>?_) (fun i o lo hi ho hl b hb=>⟨rfl,?_⟩) fun i o hi ho=>?_
 .have:gB u i=none:=by cases e:gB u i with|none=>rfl|some x=>exact absurd (hk▸aL.2 ⟨_,lg.1 x e,rfl⟩) hi
  simpa[up,this]using ho
 .rintro (hb2|⟨j,hj,o2,l2,ho2,hl2,hb2⟩)
  .obtain ⟨l3,a1,_,a4⟩:=hI.lS i o ho;obtain rfl:=ac (hl.symm.trans a1);exact(a4 b hb).1 hb2
  .exact hI.iY i j o o2 lo l2 ho ho2 hl hl2 (fun e=>hi (e▸hj)) b hb hb2
 .have hm:∃r,gB u i=some r:=by cases e:gB u i with|none=>rw[<-hk]at hi;obtain⟨p,hp,e2⟩:=aL.1 hi;exact absurd e2 (lg.2 e p hp)|some x=>exact⟨x,rfl⟩
  obtain⟨r,hr⟩:=hm;simp only[up,hr]at ho;obtain⟨o0,h1,h2⟩:=Ug (S:=S) (w:=w) (φ:=φ) (hu _ (lg.1 r hr)) ho;have hH:=(ha i hi).trans h1;obtain⟨l1,a1,a2,_⟩:=hI.lS i o0 hH;obtain⟨q1,q2⟩:=h2 (SF.Jl l) a2 fun b hb=>SF.bP hi hH a1 hb;exact⟨l1,a1,q1,by rw[q2];simp⟩
end
section
variable{P:Program}{S S' K:Nat->Prop}{w0 w w':World}{φ φ':fM}{H:Hf}{o:Oper}{ρ:Operand->Value}{n:Nat}{h2:H2}{l:List Nat}
theorem D4{b o:Nat}{bz:Array Value}{d:List Value}(ho:pi w b bz)(h:At w b o d)(hle:o+d.length<=bz.size):∃p q,bz.toList=p++d++q/\p.length=o:=by
 refine⟨bz.toList.take o,bz.toList.drop (o+d.length),?_,by simp;omega⟩;have h1:=(yS ho).1 h
 have:(bz.toList.drop o).take d.length=d:=by
  apply pN;intro i;rw[oQ];split
  .rw [List.getElem?_drop,dj];rename_i hi;rw[h1 i d[i] (by simp[hi])];simp[hi]
  .rw [List.getElem?_eq_none (by omega)]
 conv=>lhs;rw[<-cK o bz.toList,<-cK d.length (bz.toList.drop o),this,kR]
 rw[aQ]
theorem CM{b:Nat}{bz arr':Array Value}(ho:pi w b bz)(hsz:arr'.size=bz.size):∀a,pi w b a->∃a',pi (w.setRow b arr') b a'/\a'.size=a.size:=fun a ha=>by obtain rfl:=ha.xK ho;exact⟨arr',vG ho,hsz⟩
theorem Inv.put(hI:Inv S K w0 φ H w){id:Nat}{o o':O}{l:nF}{bz arr':Array Value}(ho:H id=some o)(hl:φ id=some l)(hb:l.bP∈ob w l o)(hown:pi w l.bP bz)(hsz:arr'.size=bz.size)
  (hro:gC S w S (w.setRow l.bP arr')->pi (w.setRow l.bP arr') l.bP arr'->RO S (w.setRow l.bP arr') φ l o') (hob:∀x∈ob (w.setRow l.bP arr') l o',x∈ob w l o):
  gC S w S (w.setRow l.bP arr')/\Inv S K w0 φ (up H [(id,some o')]) (w.setRow l.bP arr'):=
 hI.set ho hl hb (fun c hc=>setRow_other w l.bP c _ hc) (by simp) (yc hown) (CM hown hsz) ⟨rfl,rfl,rfl,aq _⟩ (fun hs=>hro hs (vG hown)) hob
theorem FL{t:TypeId}{b:Nat}{bz:Array Value}{val:Value}{p m q:List Value}(hn:dG P t=some m.length)(ho:pi w b bz)(he:bz.toList=p++m++q)(hl:val.cells.toList.length=m.length)(h1:∀x∈val.cells.toList,one x=true):
  (Instr.storeAt t (.pointer (some ⟨b,p.length,none⟩)) val).run P w=.ok () (w.setRow b (p++val.cells.toList++q).toArray):=by
 have ho':=ho;obtain⟨ty,hb⟩:=ho;have hsz:=congrArg eK he;simp at hsz;have:=run_storeCells_at P b p.length ty val.cells.toList 0 bz w hb (by simp at hl|-;omega) (fun v hv=>by rw[yA];exact h1 v hv);have e1:bz.toList.take p.length=p:=by rw[he,aQ];simp
 have e2:bz.toList.drop (p.length+val.cells.toList.length)=q:=by rw[he,hl,<-aA,pP]
 simp only[gd,e1,e2]at this;simp at hl;simp[Instr.storeAt,Instr.sureAddr,storeVar,j8 hn,hl,this]
theorem gO.set{m:Nat}{S1:Nat->Prop}{u:ri}(hs:gC S w S1 w')(hI:Inv S1 K w0 φ (up H u) w'):gO S K w0 w φ H m m (.tp .ni) u undef w':=⟨aq _,S1,φ,hs,Ren.refl _,(fun i l h1 h2=>by rw[h1]at h2;cases h2),⟨[],rfl,rfl⟩,hI⟩
theorem vO{t:TypeId}{a x:Operand}{pv:Value}(ho:o.op=.store t a x)(hp:ρ a=pv)(h:(Instr.storeAt t pv (ρ x)).run P w=.ok () w'):(execOp ρ o).run P w=.ok .skip w':=by simp[execOp,ho,hp,h]
theorem HQ{t:TypeId}{a x:Operand}{id:Nat}{u u2:Ty}{p:rI}{wv c w1 c':V}(ho:o.op=.store t a x)(hs:dG P t=some (EP wv))(hI:Inv S K w0 φ H w)(hp:RW S w φ (.op id u p) (ρ a))(hx:RW S w φ wv (ρ x))
  (hH:H id=some (.bx u c)) (hu:zb u p=some u2) (hn:Jm u2 wv=some w1) (hset:pY c p w1=some c') (hf:dF c' false u=true):fL P o ρ S K w0 w φ H n n (.tp .ni) [(id,some (.bx u c'))]:=by
 obtain⟨l,k1,k2,k3,k4⟩:=R1.fT hp;obtain⟨l2,o1,⟨b1,b2,bz,b3,b4⟩,_⟩:=hI.lS id _ hH;obtain rfl:=ac (k1.symm.trans o1);obtain⟨hw1,hw2⟩:=(J6 hn hx).cells;obtain⟨hw3,hw4⟩:=J7 hn hw1;obtain⟨pa,m,qa,e1,e2,e3,_,e5⟩:=uT b2 b4 k3 hu;have hl:(ρ x).cells.toList.length=m.length:=by rw[hw3.len,uZ _ _ _ hw4,e3]
 have hm:m.length=EP wv:=by rw[<-hl,hw1.len]
 have run:=FL (P:=P) (w:=w) (t:=t) (by rw[hm];exact hs) b3 e1 hl hw2
 have hset':=hI.put (arr':=(pa++(ρ x).cells.toList++qa).toArray) (o':=.bx u c') hH k1 (by simp[ob]) b3 (by have:=congrArg eK e1;simp at this hl|-;omega)
  (fun hs hown=>⟨b1,hf,_,hown,by simpa using(e5 w1 c' _ hset hw3).mono hs (Ren.refl _)⟩) (by simp[ob])
 refine⟨.skip,undef,_,vO ho ?_ run,.inr ⟨rfl,rfl⟩,gO.set hset'.1 hset'.2⟩;rw[e2];exact(aB k4).1
theorem Inv.cells(hI:Inv S K w0 φ H w){id:Nat}{l:nF}{u:Ty}{r:List (El u)}{ver:Nat}(hH:H id=some (.ar u (.mk r) ver))(hl:φ id=some l):
  l.t=u/\l.n=some r.length/\kS u=true/\0<df u/\∃bz p d q,pi w l.bP bz/\bz.size=l.ext/\r.length<=l.cap/\l.gN+r.length*df u<=l.ext/\bz.toList=p++d++q/\p.length=l.gN/\lC (RT S w u) r d/\At w l.bP l.gN d:=by
 obtain⟨l2,o1,⟨b1,b2,b3,b4,b5⟩,_⟩:=hI.lS id _ hH;obtain rfl:=ac (hl.symm.trans o1);obtain⟨bz,d,c1,c2,c3,c4,c5,c6⟩:=b5 r rfl;obtain⟨p,q,e1,e2⟩:=D4 c1 c6 (by rw[c2,lC.len (fun _ _ _ h=>RT.len h) c5];exact c4);exact⟨b1,b2,b3,b4,bz,p,d,q,c1,c2,c3,c4,e1,e2,c5,c6⟩
theorem Inv.Vs(hI:Inv S K w0 φ H w){id:Nat}{l:nF}{u:Ty}{r r':List (El u)}{ver ver':Nat}{bz:Array Value}{p d d' q:List Value}(hH:H id=some (.ar u (.mk r) ver))(hl:φ id=some l)
  (hown:pi w l.bP bz) (he:bz.toList=p++d++q) (hp:p.length=l.gN) (hd:d'.length=d.length) (hr':r'.length=r.length) (hr:∀w',gC S w S w'->lC (RT S w' u) r' d'):
  gC S w S (w.setRow l.bP (p++d'++q).toArray)/\Inv S K w0 φ (up H [(id,some (.ar u (.mk r') ver'))]) (w.setRow l.bP (p++d'++q).toArray):=by
 obtain⟨b1,b2,b3,b4,arr2,_,_,_,c1,c2,c3,c4,_⟩:=hI.cells hH hl;obtain rfl:=c1.xK hown;refine hI.put hH hl (by simp[ob]) hown (by have:=congrArg eK he;simp at this|-;omega) (fun hs hown'=>⟨b1,by rw[b2];simp[kx,hr'],b3,b4,fun r2 e=>?_⟩) (by simp[ob]);cases e;exact⟨_,d',hown',by rw[<-c2];have:=congrArg eK he;simp at this|-;omega,by omega,by rw[hr'];exact c4,hr _ hs,by have:=K3 hown' (a:=p) (c:=d') (e:=q) (by simp);rwa[hp]at this⟩
theorem HR{t:TypeId}{a x:Operand}{id m:Nat}{u u2:Ty}{p:rI}{c:V}{s:Sl (El u)}{ver:Nat}{y:El u2}{y2:El u}{val:Value}{cs:List Value}(ho:o.op=.store t a x)(hs:dG P t=some cs.length)(hI:Inv S K w0 φ H w)(hp:RW S w φ (.ep id m u p) (ρ a))
  (hv:ρ x=val) (hcs:val.cells.toList=cs) (hone:∀x∈cs,one x=true) (hy:RT S w u2 y cs) (hH:H id=some (.ar u s ver)) (hu:zb u p=some u2) (hset:pY (.x u (gt s.l m)) p (.x u2 y)=some c) (hc:pI u c=some y2):
  ∃w',(execOp ρ o).run P w=.ok .skip w'/\gC S w S w'/\Inv S K w0 φ (up H [(id,some (.ar u (.mk (s.l.set m y2)) (ver+1)))]) w':=by
 obtain⟨l,m1,k1,k2,k3,k4,k5,k6⟩:=R1.fT hp;have hn:kx s=some m1:=by obtain⟨l2,o1,⟨_,b2,_⟩,_⟩:=hI.lS id _ hH;obtain rfl:=ac (k1.symm.trans o1);exact b2.symm.trans k3
 obtain⟨r,rfl,e0⟩:=m_ hn;obtain⟨b1,b2,b3,b4,bz,pa,d,qa,c1,c2,c3,c4,e1,e2,c5,c6⟩:=hI.cells hH k1;obtain⟨a1,mm,q1,rfl,r1,r2,r3⟩:=v6 (fun _ _ _ h=>RT.len h) (show m<r.length by omega) c5;obtain⟨a2,m2,q2,rfl,s1,s2,_,s4⟩:=uT (v:=.x u (gt r m)) (φ:=φ) (by simp[dF]) r2 k5 hu;have hl:val.cells.toList.length=m2.length:=by rw[hcs,hy.len,s2]
 have run:=FL (P:=P) (w:=w) (t:=t) (b:=l.bP) (bz:=bz) (val:=val) (p:=pa++a1++a2) (m:=m2) (q:=q2++q1++qa) (by rw[<-hl,hcs];exact hs) c1 (by rw[e1];simp) hl (by rw[hcs];exact hone);rw[hcs]at run;have hnew:=r3 y2 (a2++cs++q2) (te hc (s4 _ _ _ hset hy)).1;rw[hcs]at hl;have hset':=hI.Vs (r':=r.set m y2) (ver':=ver+1) (d':=a1++(a2++cs++q2)++q1) hH k1 c1 e1 e2 (by simp;omega) (by simp) fun w' hs=>hnew.imp fun _ _ _=>RT.mono hs;have ee:pa++a1++a2++cs++(q2++q1++qa)=pa++(a1++(a2++cs++q2)++q1)++qa:=by simp
 rw[ee]at run;refine⟨_,vO ho ?_ (by rw[hv];exact run),hset'.1,hset'.2⟩;have:=(aB k6).1;rw[this];congr 3;simp[e2,r1,s1,eV]
theorem jD(l:nF)(i:Nat):qk w l none i=rN w l i:=by simp[qk]
theorem zq(l:nF)(m id:Nat):qk w l (some (m,id)) m=[]:=by simp[qk]
theorem ol(l:nF){m id i:Nat}(h:m≠i):qk w l (some (m,id)) i=rN w l i:=by simp[qk,h]
theorem oI{l:nF}{t:Ty}{r:List (Sl (El t))}{ln:Option (Nat×Nat)}{b:Nat}:b∈ob w l (.rw t (.mk r) ln)<->b=l.bP\/∃i,i<r.length/\b∈qk w l ln i:=by simp[ob,CS,List.mem_flatMap]
theorem Inv.R6(hI:Inv S K w0 φ H w){id id2 m ver:Nat}{u:Ty}{r:List (Sl (El u))}{x:Sl (El u)}(ho:H id=some (.rw u (.mk r) (some (m,id2))))(h2:H id2=some (.ar u x ver))(hx:r[m]?=some x)(hne:id≠id2):
  Inv S K w0 φ (up H [(id,some (.rw u (.mk r) none)),(id2,none)]) w:=by
 obtain⟨l,a1,a2,a3⟩:=hI.lS id _ ho;obtain⟨l2,b1,b2,b3⟩:=hI.lS id2 _ h2;obtain⟨c1,c2,c3,c4,c5⟩:=a2;obtain⟨bz,d1,d2,d3,d4,d5,d6⟩:=c5 r rfl;obtain⟨v,v1,v2⟩:=d6 m x hx;simp only[if_true]at v2;obtain⟨_,lv,v3,v4⟩:=v2;obtain rfl:=ac (b1.symm.trans v3);have hm:=(aV.1 hx).1;have hdist:=fun b hb=>hI.iY id id2 _ _ l l2 ho h2 a1 b1 hne b hb;have hblk:∀b∈rN w l m,b∈ob w l2 (.ar u x ver):=by intro b hb;simp only[rN,d1.cell,v1]at hb;rw[b2.2.1]at v4;cases x with|nil=>obtain rfl:=(aB v4).1;simp at hb|mk xr=>obtain⟨addr,cap,e,_⟩:=v4;obtain rfl:=(aB e).1;simpa[ob]using hb
 have hrow:GG S w u x v:=by
  rw[b2.2.1]at v4;cases x with
  |nil=>exact(aB v4).1
  |mk xr=>
   obtain⟨addr,cap,e,f1,f2,f3,f4⟩:=v4;obtain⟨arr2,d',g1,g2,g3,g4,g5,g6⟩:=b2.2.2.2.2 xr rfl;rw[b2.1]at f3 f4;refine⟨l2.bP,addr,cap,arr2,d',(aB e).1,g1,f1,by rw[g2];exact f4,g5,?_⟩;rcases gR cap with e0|e0
   .obtain rfl:xr=[]:=bB.1 (by omega);obtain rfl:d'=[]:=g5;trivial
   .rw [f3 e0,gD,gd];exact g6
 have hmem:∀b,b∈ob w l (.rw u (.mk r) none)->b∈ob w l (.rw u (.mk r) (some (m,id2)))\/b∈ob w l2 (.ar u x ver):=by
  intro b hb;rcases oI.1 hb with rfl|⟨i,hi,hb⟩
  .exact .inl (oI.2 (.inl rfl))
  .by_cases e:m=i
   .subst e;rw[jD]at hb;exact .inr (hblk b hb)
   .rw [jD]at hb;exact .inl (oI.2 (.inr ⟨i,hi,by rw[ol l e];exact hb⟩))
 refine hI.gM (fun i=>i=id\/i=id2) (gC.refl _ _) (Ren.refl _) hI.Cg hI.sk hI.sq (fun i o hi ho'=>?_) (fun i o lo hi ho' hl' b hb=>⟨rfl,?_⟩) fun i o hi ho'=>?_
 .rw [bC,if_neg (fun e=>hi (.inl e.symm)),bC,if_neg (fun e=>hi (.inr e.symm))]at ho';exact ho'
 .obtain ⟨l3,q1,_,q3⟩:=hI.lS i o ho';obtain rfl:=ac (hl'.symm.trans q1);exact(q3 b hb).1
 .rcases hi with rfl|rfl
  .rw [bC,if_pos rfl]at ho';obtain rfl:=ac ho';refine⟨l,a1,⟨c1,c2,c3,c4,fun r' e=>?_⟩,fun b hb=>?_⟩
   .cases e;refine⟨bz,d1,d2,d3,d4,fun i j b hi hj hb=>?_,fun i y hi=>?_⟩
    .rw [jD]at hb|-;by_cases e1:m=i
     .subst e1;have hb2:=hblk b hb;refine⟨fun e=>hdist l.bP (oI.2 (.inl rfl)) (e▸hb2),fun hij hbj=>?_⟩;exact hdist b (oI.2 (.inr ⟨j,hj,by rw[ol l hij];exact hbj⟩)) hb2
     .have hb':b∈qk w l (some (m,id2)) i:=by rw[ol l e1];exact hb
      obtain⟨p1,p2⟩:=d5 i j b hi hj hb';refine⟨p1,fun hij hbj=>?_⟩;by_cases e2:m=j
      .subst e2;exact hdist b (oI.2 (.inr ⟨i,hi,hb'⟩)) (hblk b hbj)
      .exact p2 hij (by rw[ol l e2];exact hbj)
    .by_cases e1:m=i
     .subst e1;obtain rfl:=ac (hx.symm.trans hi);exact⟨v,v1,hrow⟩
     .obtain ⟨y2,w1,w2⟩:=d6 i y hi;simp only[if_neg e1]at w2;exact⟨y2,w1,w2⟩
   .have hb3:¬S b/\¬K b/\b<w.heap.size:=(hmem b hb).elim (a3 b) (b3 b);refine⟨hb3.1,hb3.2.1,hb3.2.2,fun j a lm hj ha hlm hbm=>?_,fun j a lm hj hne2 ha=>?_⟩
    .rw [bC,if_neg (fun e=>hj (.inl e.symm)),bC,if_neg (fun e=>hj (.inr e.symm))]at ha;rcases hmem b hb with hb4|hb4
     .exact hI.iY i j _ a l lm ho ha a1 hlm (fun e=>hj (.inl e.symm)) b hb4 hbm
     .exact hI.iY id2 j _ a l2 lm h2 ha b1 hlm (fun e=>hj (.inr e.symm)) b hb4 hbm
    .rcases hj with rfl|rfl
     .exact absurd rfl hne2
     .rw [bC,if_neg (fun e=>hne2 e.symm),bC,if_pos rfl]at ha;cases ha
  .rw [bC,if_neg hne,bC,if_pos rfl]at ho';cases ho'
theorem Inv.split(hI:Inv S K w0 φ H w){id m n:Nat}{u:Ty}{r:List (Sl (El u))}{x:Sl (El u)}(ho:H id=some (.rw u (.mk r) none))(hx:r[m]?=some x)(hn:φ n=none):
  ∃l2 l v,φ id=some l/\w.cell? ⟨l.bP,l.gN+m,none⟩=some v/\RC S w (ext φ n l2) (.so n) [v]/\Inv S K w0 (ext φ n l2) (up H [(n,some (.ar u x 0)),(id,some (.rw u (.mk r) (some (m,n))))]) w:=by
 obtain⟨l,a1,a2,a3⟩:=hI.lS id _ ho;have a2':=a2;obtain⟨c1,c2,c3,c4,c5⟩:=a2;obtain⟨bz,d1,d2,d3,d4,d5,d6⟩:=c5 r rfl;obtain⟨v,v1,v2⟩:=d6 m x hx;have hm:=(aV.1 hx).1;have hne:id≠n:=fun e=>by rw[<-e,a1]at hn;cases hn
 have key:∃l2:nF,l2.n=kx x/\RC S w (ext φ n l2) (.so n) [v]/\RO S w (ext φ n l2) l2 (.ar u x 0)/\∀b∈ob w l2 (.ar u x 0),b∈rN w l m:=by
  cases x with
  |nil=>obtain rfl:v=_:=v2;exact⟨⟨0,0,0,0,u,none⟩,rfl,⟨_,fg _ _ _,rfl⟩,⟨rfl,rfl,c3,c4,fun r' e=>by cases e⟩,by simp[ob]⟩
  |mk xr=>
   obtain⟨b,addr,cap,arr2,d',rfl,g2,g3,g4,g5,g6⟩:=v2;have hmul:xr.length*df u<=cap*df u:=ct _ g3;refine⟨⟨b,addr,arr2.size,cap,u,some xr.length⟩,rfl,⟨_,fg _ _ _,addr,cap,rfl,g3,by simp,by simp,by simpa using g4⟩,⟨rfl,rfl,c3,c4,fun r' e=>?_⟩,?_⟩
   .cases e;exact⟨arr2,d',g2,rfl,g3,by simp;omega,g5,g6⟩
   .simp [ob,rN,d1.cell,v1]
 obtain⟨l2,k1,k2,k3,k4⟩:=key;have hmine:∀b∈rN w l m,b∈ob w l (.rw u (.mk r) none):=fun b hb=>oI.2 (.inr ⟨m,hm,by rw[jD];exact hb⟩)
 have hsub:∀b,b∈ob w l (.rw u (.mk r) (some (m,n)))->b∈ob w l (.rw u (.mk r) none):=by
  intro b hb;rcases oI.1 hb with rfl|⟨i,hi,hb⟩
  .exact oI.2 (.inl rfl)
  .by_cases e:m=i
   .subst e;rw[zq]at hb;cases hb
   .rw [ol l e]at hb;exact oI.2 (.inr ⟨i,hi,by rw[jD];exact hb⟩)
 have hapart:∀b,b∈ob w l (.rw u (.mk r) (some (m,n)))->b∉rN w l m:=by
  intro b hb hb2;rw[<-jD l m]at hb2;rcases oI.1 hb with rfl|⟨i,hi,hb⟩
  .exact (d5 m m _ hm hm hb2).1 rfl
  .by_cases e:m=i
   .subst e;rw[zq]at hb;cases hb
   .rw [ol l e]at hb;exact(d5 m i b hm hi hb2).2 e (by rw[jD];exact hb)
 have hren:=mg (φ:=φ) l2 hn;refine⟨l2,l,v,a1,(d1.cell _).trans v1,k2,hI.gM (fun i=>i=id\/i=n) (gC.refl _ _) hren hI.Cg hI.sk hI.sq (fun i o hi ho'=>?_) (fun i o lo hi ho' hl' b hb=>⟨rfl,?_⟩) fun i o hi ho'=>?_⟩
 .rw [bC,if_neg (fun e=>hi (.inr e.symm)),bC,if_neg (fun e=>hi (.inl e.symm))]at ho';exact ho'
 .obtain ⟨l3,q1,_,q3⟩:=hI.lS i o ho';obtain rfl:=ac (hl'.symm.trans q1);exact(q3 b hb).1
 .rcases hi with rfl|rfl
  .rw [bC,if_neg (fun e=>hne e.symm),bC,if_pos rfl]at ho';obtain rfl:=ac ho';refine⟨l,hren _ _ a1,⟨c1,c2,c3,c4,fun r' e=>?_⟩,fun b hb=>?_⟩
   .cases e;refine⟨bz,d1,d2,d3,d4,fun p q b hp hq hb=>?_,fun p y hp=>?_⟩
    .by_cases e1:m=p
     .subst e1;rw[zq]at hb;cases hb
     .rw [ol l e1,<-jD l p]at hb;refine⟨(d5 p p b hp hp hb).1,fun hpq hbq=>?_⟩;by_cases e2:m=q
      .subst e2;rw[zq]at hbq;cases hbq
      .rw [ol l e2,<-jD l q]at hbq;exact(d5 p q b hp hq hb).2 hpq hbq
    .obtain ⟨y2,w1,w2⟩:=d6 p y hp;refine⟨y2,w1,?_⟩;by_cases e1:m=p
     .subst e1;obtain rfl:=ac (hx.symm.trans hp);obtain rfl:=ac (v1.symm.trans w1);simp only[if_true];exact⟨⟨l2,fg _ _ _,k1⟩,k2⟩
     .simp only[if_neg e1];exact w2
   .obtain ⟨q1,q2,q3⟩:=a3 b (hsub b hb);refine⟨q1,q2,q3,fun j a lm hj ha hlm hbm=>?_,fun j a lm hj hne2 ha hlm hbm=>?_⟩
    .rw [bC,if_neg (fun e=>hj (.inr e.symm)),bC,if_neg (fun e=>hj (.inl e.symm))]at ha;exact hI.iY i j _ a l lm ho ha a1 hlm (fun e=>hj (.inl e.symm)) b (hsub b hb) hbm
    .rcases hj with rfl|rfl
     .exact absurd rfl hne2
     .rw [bC,if_pos rfl]at ha;obtain rfl:=ac ha;obtain rfl:=ac ((fg _ _ _).symm.trans hlm);exact hapart b hb (k4 b hbm)
  .rw [bC,if_pos rfl]at ho';obtain rfl:=ac ho';refine⟨l2,fg _ _ _,k3,fun b hb=>?_⟩;have hb2:=hmine b (k4 b hb);obtain⟨q1,q2,q3⟩:=a3 b hb2;refine⟨q1,q2,q3,fun j a lm hj ha hlm hbm=>?_,fun j a lm hj hne2 ha hlm hbm=>?_⟩
   .rw [bC,if_neg (fun e=>hj (.inr e.symm)),bC,if_neg (fun e=>hj (.inl e.symm))]at ha;exact hI.iY id j _ a l lm ho ha a1 hlm (fun e=>hj (.inl e.symm)) b hb2 hbm
   .rcases hj with rfl|rfl
    .rw [bC,if_neg (fun e=>hne2 e.symm),bC,if_pos rfl]at ha;obtain rfl:=ac ha;obtain rfl:=ac ((hren _ _ a1).symm.trans hlm);exact hapart b hbm (k4 b hb)
    .exact absurd rfl hne2
theorem P4{t:TypeId}{a:Operand}{id m:Nat}{u:Ty}{r:Sl (Sl (El u))}(ho:o.op=.load t a)(hag:eN P t=some false)(hs:dG P t=some 1)(hI:Inv S K w0 φ H w)(hp:RW S w φ (.ep id m (.sl u) []) (ρ a))(hH:H id=some (.rw u r none))(hn:φ n=none):
  fL P o ρ S K w0 w φ H n (n+1) (.so n) [(n,some (.ar u (gt r.l m) 0)),(id,some (.rw u r (some (m,n))))]:=by
 obtain⟨l,m1,k1,k2,k3,k4,k5,k6⟩:=R1.fT hp;have hlen:kx r=some m1:=by obtain⟨l2,o1,⟨_,b2,_⟩,_⟩:=hI.lS id _ hH;obtain rfl:=ac (k1.symm.trans o1);exact b2.symm.trans k3
 obtain⟨rr,rfl,e0⟩:=m_ hlen;have hx:rr[m]?=some (gt rr m):=QW (by omega);obtain⟨l2,l',v,q1,q2,q3,q4⟩:=hI.split hH hx hn;obtain rfl:=ac (k1.symm.trans q1);have e1:=(aB k6).1;have e2:wm (.sl u) []=0:=rfl;have e3:df (.sl u)=1:=rfl;rw[e2,e3,Nat.mul_one,gd]at e1;have run:=tN (P:=P) (c:=[v]) hag hs ⟨q2,trivial⟩ rfl fun _=>rfl;refine⟨.value v,v,w,?_,.inl rfl,aO _,S,_,gC.refl _ _,mg l2 hn,(fun i lo h1 h3=>?_),(R1.wC (v:=.so n) q3 rfl).rw,q4⟩
 .simp [execOp,ho,e1,Instr.loadAt,Instr.sureAddr,run,nB]
 .simp only[ext]at h1;split at h1
  .omega
  .rw [h1]at h3;cases h3
theorem HP{t:TypeId}{a x:Operand}{id id2 m ver:Nat}{u:Ty}{v:Sl (Sl (El u))}{r:Sl (El u)}{ln:Option (Nat×Nat)}(ho:o.op=.store t a x)(hs:dG P t=some 1)(hI:Inv S K w0 φ H w)(hp:RW S w φ (.ep id m (.sl u) []) (ρ a))(hx:RW S w φ (.so id2) (ρ x))
  (hH:H id=some (.rw u v ln)) (h2:H id2=some (.ar u r ver)) (hne:id2≠id) (hb:Pm ln m=true):fL P o ρ S K w0 w φ H n n (.tp .ni) [(id,some (.rw u (.mk (v.l.set m r)) none)),(id2,none)]:=by
 obtain⟨l,m1,k1,k2,k3,k4,k5,k6⟩:=R1.fT hp;obtain⟨l',a1,a2,a3⟩:=hI.lS id _ hH;obtain rfl:=ac (k1.symm.trans a1);obtain⟨rr,rfl,e0⟩:=m_ (a2.2.1.symm.trans k3);obtain⟨c1,c2,c3,c4,c5⟩:=a2;obtain⟨bz,d1,d2,d3,d4,d5,d6⟩:=c5 rr rfl;have hm:m<rr.length:=by omega
 obtain⟨l2,b1,b2,b3⟩:=hI.lS id2 _ h2;have hx1:=R1.fT hx;have hx2:=hx1;obtain⟨l2',x1,x2⟩:=hx2;obtain rfl:=ac (b1.symm.trans x1);obtain⟨_,hone,hxe⟩:∃v,one v=true/\ρ x=v:=by obtain⟨v,e,h⟩:=Ds x2;exact⟨v,h,(aB e).1⟩
 have hcells:(ρ x).cells.toList=[ρ x]:=by rw[Ft (by rw[hxe];exact hone)]
 obtain⟨old,o1,_⟩:=d6 m _ (QW hm);have hat:At w l.bP (l.gN+m) [old]:=⟨(d1.cell _).trans o1,trivial⟩
 obtain⟨p,q,e1,e2⟩:=D4 d1 hat (by simp;have:=(bi.1 o1).1;omega);have run:=FL (P:=P) (w:=w) (t:=t) (b:=l.bP) (bz:=bz) (val:=ρ x) (p:=p) (m:=[old]) (q:=q) hs d1 e1 (by rw[hcells];rfl) (by rw[hcells];simp[hxe,hone]);rw[hcells]at run
 have hget:∀j,(p++[ρ x]++q).toArray[j]?=if j=l.gN+m then some (ρ x)else bz[j]?:=by
  intro j;rw[<-dj (xs:=bz),e1];simp only[dM,aQ,List.singleton_append,List.getElem?_append,List.getElem?_cons,<-e2];by_cases h1:j<p.length
  .rw [if_pos h1,if_neg (by omega),if_pos h1]
  .by_cases h3:j=p.length
   .simp [h3]
   .rw [if_neg h1,if_neg (by omega),if_neg h3,if_neg h1,if_neg (by omega)]
 have hslot:∀i,m≠i->qk w l ln i=rN w l i:=by intro i hi;cases ln with|none=>exact jD l i|some q=>obtain⟨m',i'⟩:=q;obtain rfl:m'=m:=cV hb;exact ol l hi
 have hrowB:∀i,m≠i->rN (w.setRow l.bP (p++[ρ x]++q).toArray) l i=rN w l i:=by intro i hi;simp only[rN,(vG d1 (bz:=(p++[ρ x]++q).toArray)).cell,d1.cell,hget];rw[if_neg (by omega)]
 have hrow:∀i b,b∈qk (w.setRow l.bP (p++[ρ x]++q).toArray) l (some (m,id2)) i->m≠i/\b∈qk w l ln i:=by
  intro i b hb;by_cases e:m=i
  .subst e;rw[zq]at hb;cases hb
  .rw [ol l e,hrowB i e]at hb;rw[hslot i e];exact⟨e,hb⟩
 have hset:=hI.put (arr':=(p++[ρ x]++q).toArray) (o':=.rw u (.mk (rr.set m r)) (some (m,id2))) hH k1 (oI.2 (.inl rfl)) d1 (by have:=congrArg eK e1;simp at this|-;omega)
  (fun hs hown=>⟨c1,by rw[c2];simp[kx],c3,c4,fun r' e=>by
   cases e;refine⟨_,hown,by rw[<-d2];have:=congrArg eK e1;simp at this|-;omega,by simpa using d3,by simpa using d4,fun i j b hi hj hb=>?_,fun i y hi=>?_⟩
   .obtain ⟨q1,q2⟩:=hrow i b hb;obtain⟨g1,g2⟩:=d5 i j b (by simpa using hi) (by simpa using hj) q2;exact⟨g1,fun hij hbj=>g2 hij (hrow j b hbj).2⟩
   .by_cases e:m=i
    .subst e;rw[lB hm]at hi;obtain rfl:=ac hi;refine⟨ρ x,by rw[hget,if_pos rfl],?_⟩;simp only[if_true];exact⟨⟨l2,b1,b2.2.1⟩,RC.mono hs (Ren.refl _) hx1⟩
    .rw [List.getElem?_set_ne e]at hi;obtain⟨y2,g1,g2⟩:=d6 i y hi;refine⟨y2,by rw[hget,if_neg (by omega)];exact g1,?_⟩;simp only[if_neg e];have hr:GG S w u y y2:=by cases ln with|none=>exact g2|some q=>obtain⟨m',i'⟩:=q;obtain rfl:m'=m:=cV hb;simpa only[if_neg e]using g2
     refine hr.mono hs fun a1' n1 m1 ea=>?_;refine setRow_other w l.bP _ _ fun e5=>?_;have:a1'.block∈qk w l ln i:=by rw[hslot i e];simp[rN,d1.cell,g1,ea]
     exact(d5 i i _ (aV.1 hi).1 (aV.1 hi).1 this).1 e5⟩)
  (fun b hb=>by
   rcases oI.1 hb with rfl|⟨i,hi,hb⟩
   .exact oI.2 (.inl rfl)
   .exact oI.2 (.inr ⟨i,by simpa using hi,(hrow i b hb).2⟩))
 have habs:=hset.2.R6 (id:=id) (id2:=id2) (m:=m) (r:=rr.set m r) (x:=r) (ver:=ver) (by rw[bC,if_pos rfl]) (by rw[bC,if_neg (fun e=>hne e.symm)];exact h2) (by rw[lB hm]) (fun e=>hne e.symm);refine⟨.skip,undef,_,vO ho ?_ run,.inr ⟨rfl,rfl⟩,gO.set hset.1 ?_⟩
 .have e1:=(aB k6).1;have e3:wm (.sl u) []=0:=rfl;have e4:df (.sl u)=1:=rfl;rw[e3,e4,Nat.mul_one,gd,<-e2]at e1;exact e1
 .have:up (up H [(id,some (.rw u (.mk (rr.set m r)) (some (m,id2))))]) [(id,some (.rw u (.mk (rr.set m r)) none)),(id2,none)]=up H [(id,some (.rw u (.mk (rr.set m r)) none)),(id2,none)]:=by
   funext j;simp only[bC,Au];by_cases e:id=j
   .simp [e]
   .simp [e]
  rw[this]at habs;exact habs
end
section
variable{P:Program}{S S' K:Nat->Prop}{w0 w w':World}{φ φ':fM}{H:Hf}{o:Oper}{ρ:Operand->Value}{n:Nat}{h2:H2}
theorem sI{v:Value}{k:IntKind}{n:Int}{y:Nat}{code:BoundsCode}(h:v=.int k n)(h0:0<=n)(h1:n<=y):(Instr.sliceBound v y code).run P w=.ok n.toNat w:=by simp[Instr.sliceBound,Sem.run_bind,qW h,Result.andThen_ok,h0,h1,and_self,if_true,Sem.run_pure]
def Jp(ρ:Operand->Value):Option Operand->Option Int->Prop
 |none,none=>True
 |some x,some n=>∃k,ρ x=.int k n
 |_,_=>False
theorem yr{Kn:Bool}{len cap:Nat}{lo hi:Option Operand}{l h:Option Int}(hl:Jp ρ lo l)(hh:Jp ρ hi h)(h0:0<=l.getD 0)(h1:l.getD 0<=h.getD len)(h2:h.getD len<=cap):
  (Instr.sliceBounds Kn len cap (lo.map ρ) (hi.map ρ) none).run P w=.ok ((l.getD 0).toNat,(h.getD len).toNat,cap) w:=by
 unfold Instr.sliceBounds;cases hi with
 |none=>
  cases h with
  |some _=>exact hh.elim
  |none=>
   cases lo with
   |none=>cases l with|none=>simp|some _=>exact hl.elim
   |some x=>cases l with|none=>exact hl.elim|some n=>obtain⟨k,e⟩:=hl;have:=sI (P:=P) (w:=w) (v:=.int k n) (code:=.sliceB) rfl h0 h1;simp[e,this]
 |some y=>
  cases h with
  |none=>exact hh.elim
  |some n=>
   obtain⟨k,e⟩:=hh;simp at h1 h2;have hb:=sI (P:=P) (w:=w) (v:=.int k n) (code:=if Kn then .sliceAcap else .sliceAlen) rfl (by omega) h2;cases lo with
   |none=>cases l with|none=>simp[e,hb]|some _=>exact hl.elim
   |some x=>cases l with|none=>exact hl.elim|some n'=>obtain⟨k',e'⟩:=hl;simp at h0 h1;have:=sI (P:=P) (w:=w) (v:=.int k' n') (y:=n.toNat) (code:=.sliceB) rfl h0 (by omega);simp[e,e',hb,this]
variable{t el:TypeId}{sz:Nat}{x:Operand}{lo hi:Option Operand}{a b:Option Int}
theorem II{a0:Addr}{len cap:Nat}(ho:o.op=.slice t x lo hi none)(hu:P.underlying t=some (.slice el))(hsz:dG P el=some sz)(hl:Jp ρ lo a)(hh:Jp ρ hi b)
  (hx:ρ x=.slice (some a0) len cap) (h0:0<=a.getD 0) (h1:a.getD 0<=b.getD len) (h3:b.getD len<=len) (hc:len<=cap) (hsp:cap≠(a.getD 0).toNat->a0.spot=none):
  (execOp ρ o).run P w=.ok (.value (.slice (some (if cap=(a.getD 0).toNat then a0 else⟨a0.block,a0.off+(a.getD 0).toNat*sz,none⟩)) ((b.getD len).toNat-(a.getD 0).toNat) (cap-(a.getD 0).toNat))) w:=by
 have hb:=yr (P:=P) (w:=w) (Kn:=true) (len:=len) (cap:=cap) hl hh h0 h1 (by omega);simp only[execOp,ho,Instr.sliceAt,Instr.slice,Sem.run_bind,bT hu,Result.andThen_ok,hx,ox,hb,j8 hsz,Sem.run_pure];congr 3;split
 .rfl
 .rename_i hne;obtain⟨bb,off,spot⟩:=a0;obtain rfl:spot=none:=hsp hne;simp[vX]
theorem z6{α:Type}{l r:List α}{lo hi:Int}(h:nD l lo hi=some r):0<=lo/\lo<=hi/\hi<=l.length/\r=(l.drop lo.toNat).take (hi.toNat-lo.toNat)/\r.length=hi.toNat-lo.toNat:=by obtain⟨h1,rfl⟩:=u5.1 h;exact⟨h1.1,h1.2.1,h1.2.2,rfl,by simp;omega⟩
theorem Uz{l1:nF}{lo0 m:Nat}(ho:o.op=.slice t x lo hi none)(hu:P.underlying t=some (.slice el))(hsz:dG P el=some (df l1.t))(hl:Jp ρ lo a)(hh:Jp ρ hi b)
  (hx:yH l1 lo0 (some m) [ρ x]) (h0:0<=a.getD 0) (h1:a.getD 0<=b.getD m) (h3:b.getD m<=m):
  ∃v,(execOp ρ o).run P w=.ok (.value v) w/\yH l1 (lo0+(a.getD 0).toNat) (some ((b.getD m).toNat-(a.getD 0).toNat)) [v]:=by
 obtain⟨addr,cap,e,k1,k2,k3,k4⟩:=hx;have e:=(aB e).1;refine⟨_,II ho hu hsz hl hh e h0 h1 h3 k1 (fun _=>rfl),?_⟩;generalize ha:(a.getD 0).toNat=p at*;by_cases ec:cap=p
 .rw [if_pos ec];exact⟨addr,cap-p,rfl,by omega,by omega,fun h=>by omega,by rw[show cap-p=0 by omega,gD];omega⟩
 .rw [if_neg ec];have hk3:=k3 (by omega);refine⟨_,cap-p,rfl,by omega,by omega,fun _=>?_,?_⟩
  .simp only[hk3,fW];omega
  .have:p*df l1.t+(cap-p)*df l1.t=cap*df l1.t:=by rw[<-fW];congr 1;omega
   simp only;omega
theorem Xy{u:Ty}{r y:List (El u)}(ho:o.op=.slice t x lo hi none)(hu:P.underlying t=some (.slice el))(hsz:dG P el=some (df u))(hl:Jp ρ lo a)(hh:Jp ρ hi b)
  (hx:RT S w (.sl u) (.mk r:Sl (El u)) [ρ x]) (hc:nD r (a.getD 0) (b.getD r.length)=some y):∃v,(execOp ρ o).run P w=.ok (.value v) w/\RT S w (.sl u) (.mk y:Sl (El u)) [v]:=by
 obtain⟨h0,h1,h3,rfl,hlen⟩:=z6 hc;obtain⟨a0,cap,e,k1,k2,k3⟩:=hx;have e:=(aB e).1;refine⟨_,II ho hu hsz hl hh e h0 h1 h3 k1 (fun hne=>?_),?_⟩
 .rcases k3 with⟨_,k3⟩|⟨_,k3,_⟩
  .omega
  .exact k3
 refine⟨_,_,by rw[hlen],by omega,k2,?_⟩;rcases k3 with⟨rfl,rfl⟩|⟨k3,k4,d,k5,k6⟩
 .exact .inl ⟨by simp,by omega⟩
 .by_cases ec:cap=(a.getD 0).toNat
  .refine .inl ⟨bB.1 (by omega),by omega⟩
  .rw [if_neg ec];obtain⟨p,d2,q,rfl,r1,r2⟩:=Aj (fun _ _ _ h=>RT.len h) k5 (a.getD 0).toNat ((b.getD r.length).toNat-(a.getD 0).toNat) (by omega);exact .inr ⟨k3,rfl,d2,r2,by rw[<-r1];exact rJ k6⟩
theorem Gh{y:List Unit}(ho:o.op=.slice t x lo hi none)(hu:P.underlying t=some (.slice el))(hsz:dG P el=some sz)(hl:Jp ρ lo a)(hh:Jp ρ hi b)
  (hx:ρ x=.slice none 0 0) (hc:nD ([]:List Unit) (a.getD 0) (b.getD 0)=some y):(execOp ρ o).run P w=.ok (.value (.slice none 0 0)) w:=by
 obtain⟨h0,h1,h3,_⟩:=z6 hc;simp at h3;have e1:a.getD 0=0:=by omega
 have e2:b.getD 0=0:=by omega
 have hb:=yr (P:=P) (w:=w) (Kn:=true) (len:=0) (cap:=0) hl hh h0 (by simpa using h1) (by simpa using h3);have e3:b.getD (((0:Nat):Int))=0:=e2;rw[e1,e3]at hb;simp only[execOp,ho,hx,Instr.sliceAt,Instr.slice,Sem.run_bind,bT hu,Result.andThen_ok,ox,hb,j8 hsz,Sem.run_pure];rfl
theorem Uy{s y:ByteArray}(ho:o.op=.slice t x lo hi none)(hu:P.underlying t=some .string)(hl:Jp ρ lo a)(hh:Jp ρ hi b)(hx:ρ x=.string s)(hc:CG s (a.getD 0) (b.getD s.size)=some y):
  (execOp ρ o).run P w=.ok (.value (.string y)) w:=by
 unfold CG at hc;split at hc
 .rename_i hb;obtain rfl:=ac hc;have:=yr (P:=P) (w:=w) (Kn:=false) (len:=s.size) (cap:=s.size) hl hh hb.1 hb.2.1 hb.2.2;simp[execOp,ho,hx,Instr.sliceAt,Instr.slice,bT hu,this]
 .cases hc
theorem rV{i:Int}{m k:Nat}(h:cD i m=some k):0<=i/\i<m/\i.toNat=k/\k<m:=by obtain⟨rfl,h'⟩:=mJ.1 h;exact⟨by omega,by omega,by omega,h'⟩
theorem zW{y:Operand}{kk:IntKind}{i:Int}{bb off len cap:Nat}(ho:o.op=.indexAddr t x y)(hu:P.underlying t=some (.slice el))(hsz:dG P el=some sz)(hy:ρ y=.int kk i)(hx:ρ x=.slice (some ⟨bb,off,none⟩) len cap)(h0:0<=i)(h1:i<len):
  (execOp ρ o).run P w=.ok (.value (.pointer (some ⟨bb,off+i.toNat*sz,none⟩))) w:=by
 simp[execOp,ho,hx,Instr.indexAt,qW hy,bT hu,h0,h1,j8 hsz,vX]
theorem DC{y:Operand}{kk:IntKind}{i:Int}{bb off len:Nat}(ho:o.op=.indexAddr t x y)(hu:P.underlying t=some (.array len el))(hsz:dG P el=some sz)(hy:ρ y=.int kk i)(hx:ρ x=.pointer (some ⟨bb,off,none⟩))(h0:0<=i)(h1:i<len):
  (execOp ρ o).run P w=.ok (.value (.pointer (some ⟨bb,off+i.toNat*sz,none⟩))) w:=by
 have hu':=bT (P:=P) hu;simp only[execOp,ho,hx,Instr.indexAt,Sem.run_bind,qW hy,Result.andThen_ok,hu',Instr.sureAddr,Sem.run_pure,h0,h1,and_self,if_true,j8 hsz,vX]
theorem abm{u:Ty}{s:Sl (El u)}{v:Value}{i:Int}{k:Nat}(hx:RT S w (.sl u) s [v])(h:cD i s.l.length=some k):∃bb off len cap,v=.slice (some ⟨bb,off,none⟩) len cap/\0<=i/\i<len/\i.toNat=k/\RW S w φ (.pt u (gt s.l k)) (.pointer (some ⟨bb,off+k*df u,none⟩)):=by
 obtain⟨h0,h1,h3,h4⟩:=rV h;obtain⟨r,rfl,h5⟩:=Sl.W9 h4;obtain⟨a0,cap,e,k1,k2,k3⟩:=hx;rcases k3 with⟨rfl,_⟩|⟨k3,k4,d,k5,k6⟩
 .exact absurd h5 (Nat.not_lt_zero _)
 .obtain ⟨bb,off,sp⟩:=a0;obtain rfl:sp=none:=k4;obtain⟨p,m,q,rfl,r1,r2,_⟩:=v6 (fun _ _ _ h=>RT.len h) h5 k5;exact⟨bb,off,_,cap,(aB e).1,h0,h1,h3,(R1.wC (v:=.pt u _) ⟨bb,_,m,rfl,k3,r2,by rw[<-r1];exact rJ k6⟩ rfl).rw⟩
theorem QM{l1:nF}{id lo q:Nat}{v:Value}{i:Int}{k:Nat}(hl:φ id=some l1)(hx:yH l1 lo (some q) [v])(hin:inN l1 lo (some q))(h:cD i q=some k):∃bb off len cap,v=.slice (some ⟨bb,off,none⟩) len cap/\0<=i/\i<len/\i.toNat=k/\RW S w φ (.ep id (lo+k) l1.t []) (.pointer (some ⟨bb,off+k*df l1.t,none⟩)):=by
 obtain⟨h0,h1,h3,h4⟩:=rV h;obtain⟨addr,cap,e,k1,k2,k3,k4⟩:=hx;obtain⟨m,m1,m2⟩:=hin;have e0:wm l1.t []=0:=by cases l1.t<;>rfl
 exact⟨l1.bP,addr,q,cap,(aB e).1,h0,h1,h3,(R1.wC (v:=.ep id (lo+k) l1.t []) ⟨l1,m,hl,rfl,m1,by omega,by cases l1.t<;>trivial,by rw[k3 (by omega),e0,fW];simp only[gd,eV]⟩ rfl).rw⟩
theorem Qd{p:rI}{t0:Ty}{m k:Nat}{u:Ty}(hp:Nv t0 p)(hu:zb t0 p=some (.ar m u))(hk:k<m):Nv t0 (p++[.ix k])/\wm t0 (p++[.ix k])=wm t0 p+k*df u:=by
 induction p generalizing t0 with
 |nil=>
  obtain rfl:t0=.ar m u:=by cases t0<;>first|(cases hu;done)|(cases hu;rfl)
  exact⟨⟨hk,by cases u<;>trivial⟩,by simp only[List.nil_append,wm];cases u<;>simp[wm]⟩
 |cons q p ih=>
  cases q with
  |fd j=>
   cases t0<;>first|exact hp.elim|skip
   obtain⟨u3,h3,hp⟩:=hp;simp only[zb,h3]at hu;obtain⟨q1,q2⟩:=ih hp hu;exact⟨⟨u3,h3,q1⟩,by simp only[d8,wm,h3,q2,eV]⟩
  |ix j=>
   cases t0<;>first|exact hp.elim|skip
   simp only[zb]at hu;obtain⟨q1,q2⟩:=ih hp.2 hu;exact⟨⟨hp.1,q1⟩,by simp only[d8,wm,q2,eV]⟩
theorem KC{y:Operand}{kk:IntKind}{s:ByteArray}{i c:Int}(ho:o.op=.index t x y)(hu:P.underlying t=some .string)(hy:ρ y=.int kk i)(hx:ρ x=.string s)(h:atS s i=some c):(execOp ρ o).run P w=.ok (.value (.int .u8 c)) w:=by
 unfold atS at h;split at h
 .rename_i h0;obtain⟨b,hb,rfl⟩:=cg.1 h;simp[execOp,ho,hx,Instr.index,qW hy,bT hu,h0,hb]
 .cases h
theorem P5{y:Operand}{kk:IntKind}{agg:Bool}{len m k:Nat}{u:Ty}{v:Arr len (El u)}{i:Int}(ho:o.op=.index t x y)(hu:P.underlying t=some (.array len el))(ha:eN P el=some agg)(hs:dG P el=some m)
  (hI:Inv S K w0 φ H w) (hy:ρ y=.int kk i) (hx:RW S w φ (.x (.ar len u) v) (ρ x)) (hm:df u=m) (hg:iD u=agg) (h1:agg=false->m=1) (h:cD i len=some k):fL P o ρ S K w0 w φ H n n (.x u (gt v.1 k)) []:=by
 obtain⟨h0,h3,h4,h5⟩:=rV h;obtain⟨c,k1,k2⟩:=R1.agg hx;obtain⟨p,mm,q,rfl,r1,r2,_⟩:=v6 (fun _ _ _ h=>RT.len h) (by rw[v.2];exact h5) (show lC (RT S w u) v.1 c from k1);have hl:mm.length=m:=r2.len.trans hm;subst hl;have:=G_ (P:=P) (w:=w) (a:=p) (b:=q) ha hs h1;refine fL.pure hI (val:=nB agg mm) ?_ (R1.of (v:=.x u _) r2 hg h1).rw;rw[r1,hm]at this;simp[execOp,ho,k2,Instr.index,qW hy,bT hu,h0,h3,j8 hs,h4]at this|-;simp[this]
end
section
variable{P:Program}{S S' K:Nat->Prop}{w0 w w':World}{φ φ':fM}{H:Hf}{o:Oper}{ρ:Operand->Value}{n:Nat}{h2:H2}{l:List Nat}
def th(P:Program)(w:World)(sz k:Nat)(xv:Value)(c:List Value):Prop:=c.length=k*sz/\∀w':World,w'.heap=w.heap->(Builtin.lenOf xv).run P w'=.ok k w'/\∀j,j<=k->(Builtin.firstCells sz j xv).run P w'=.ok (c.take (j*sz)).toArray w'
theorem IL{sz k cap b off:Nat}{c:List Value}(h:At w b off c)(hl:c.length=k*sz):th P w sz k (.slice (some ⟨b,off,none⟩) k cap) c:=by
 refine⟨hl,fun w' hw=>⟨rfl,fun j hj=>?_⟩⟩;have hle:j*sz<=k*sz:=ct _ hj;have e:(c.take (j*sz)).length=j*sz:=by rw[bV];omega
 have:=run_loadCells_list (P:=P) w' ⟨b,off,none⟩ (c.take (j*sz)) fun i v hi=>by
  rw[vX];rw[oQ]at hi;split at hi
  .have:=h.get hi;simpa[World.cell?,hw]using this
  .cases hi
 rw[e]at this;exact this
theorem OG.VO{B:Nat->Prop}{t:Ty}{s:Sl (El t)}{xv:Value}(h:OG B S w t s [xv]):∃c,lC (RT S w t) s.l c/\th P w (df t) s.l.length xv c:=by
 have nil:∀q cap,xv=.slice q 0 cap->th P w (df t) 0 xv []:=by
  rintro q cap rfl;refine⟨by simp,fun w' _=>⟨rfl,fun j hj=>?_⟩⟩;obtain rfl:j=0:=by omega
  cases q with|none=>simp[Builtin.firstCells]|some a=>simp[Builtin.firstCells];rfl
 cases s with
 |nil=>exact⟨[],rfl,nil _ _ (aB h).1⟩
 |mk r=>
  obtain⟨a,cap,e,h2,h3,h4⟩:=h;have e:=(aB e).1;rcases h4 with⟨rfl,rfl⟩|⟨_,k2,d,k3,k4⟩
  .exact ⟨[],rfl,nil _ _ e⟩
  .obtain ⟨b,off,sp⟩:=a;obtain rfl:sp=none:=k2;exact⟨d,k3,by rw[e];exact IL k4 (lC.len (fun _ _ _ h=>RT.len h) k3)⟩
theorem xw{x:V}{xv:Value}{t0 t:Ty}{m:Sl (El t)}{ids:List Nat}{nn:Nat}(hI:Inv S K w0 φ H w)(hx:RW S w φ x xv)(h:Sg t0 h2 x=some ⟨t,m,ids⟩)(ha:∀i∈ids,H i=fO h2 i)(hal:oN h2 x=true)(hok:dZ nn h2 x):
  ∃c,lC (RT S w t) m.l c/\th P w (df t) m.l.length xv c:=by
 have gen:G1 h2 x=some ⟨t,m,ids⟩->∃c,lC (RT S w t) m.l c/\th P w (df t) m.l.length xv c:=by
  intro h
  have:RC S w φ x [xv]:=by
   cases x<;>first|(cases h;done)|exact R1.fT hx|skip
   rename_i u _ _;cases u<;>first|(cases h;done)|exact R1.fT hx
  exact(Vq hI h this ha hal hok).1.VO
 unfold Sg at h;split at h
 .obtain ⟨e1,e2⟩:=fN (ac h);subst e1;obtain⟨rfl,rfl⟩:=ap (eq_of_heq e2);exact OG.VO (B:=S) (s:=Sl.nil) (R1.fT hx)
 .exact gen h
theorem Ua(need:Nat)(c:Nat):Builtin.growBy need 4 c<=3*c+3072:=by
 grind [Builtin.growBy]
theorem Xa{need cap:Nat}(h1:need<=2147483648)(h2:cap<need):Builtin.nextslicecap need cap<=6442454016:=by
 grind [Builtin.nextslicecap,Ua]
def KX(P:Program)(el:TypeId)(n:Nat):Prop:=n<=2147483648\/(yi P el=true/\n<=17592186044416)
theorem TB{need cap:Nat}(h1:need<=17592186044416)(h2:cap<need):Builtin.nextslicecap need cap<=35184372088832:=by
 have key:∀r c,c<=need+(need+768)/4->Builtin.growBy need r c<=need+(need+768)/4:=by
  intro r;induction r with
  |zero=>intro c hc;exact hc
  |succ r ih=>
   intro c hc;simp only[Builtin.growBy];split
   .exact hc
   .exact ih _ (by omega)
 unfold Builtin.nextslicecap;split
 .omega
 .split
  .omega
  .have:=key 4 cap (by omega);omega
structure Jj(P:Program)(o:Oper)(s x:Operand)(el:TypeId)(m:Nat)(z:List Value):Prop where
 op:∃c st xt el2,o.op=.call c/\c.callee=.builtin .append/\c.args= #[s,x]/\c.argTypes= #[st,xt]/\P.underlying st=some (.slice el)/\P.underlying xt=some (.slice el2)
 sz:dG P el=some (m+1)
 ze:gQ P el=some z
 zl:z.length=m+1
 by_:pK P el=true
variable{s x:Operand}{el:TypeId}{m k sLen sCap:Nat}{z new:List Value}
theorem Ha(hT:Jj P o s x el m z){gN:Option Addr}{old:List Value}(hs:ρ s=.slice gN sLen sCap)(hel:th P w (m+1) k (ρ x) new)(hlt:sCap<sLen+k)(hle:KX P el (sLen+k))
  (hold:∀w':World,w'.heap=w.heap->(Builtin.firstCells (m+1) sLen (.slice gN sLen sCap)).run P w'=.ok old.toArray w'):
  ∃newCap e,sLen+k<=newCap/\e.length=(newCap-(sLen+k))*(m+1)/\(execOp ρ o).run P w=.ok (.value (.slice (some ⟨w.heap.size,0,none⟩) (sLen+k) newCap))
   {({w with drawn:=w.drawn+1}:World)with heap:=w.heap.push (.cells (old++new++e).toArray el)}:=by
 obtain⟨⟨c,st,xt,el2,ho,hcal,hargs,hts,hus,hux⟩,hsz,hz,hzl,hby⟩:=hT;obtain⟨inf,hinf,hb0,hb1⟩:=BH hby;obtain⟨zv,hzr,hzv,_⟩:=sH hz w;have hinfo:∀w:World,(typeInfo el).run P w=.ok inf w:=fun w=>by simp[typeInfo,hinf]
 have hzr':∀w:World,(zeroValue el).run P w=.ok zv w:=by intro w';simp only[zeroValue,typeInfo,Sem.run_bind,run_program,Result.andThen_ok,hinf,Sem.run_pure]at hzr|-;cases hzz:inf.zero with|none=>rw[hzz]at hzr;simp at hzr|some q=>simp_all
 have hunx:∀w:World,(underlying xt).run P w=.ok (.slice el2) w:=bT hux;refine⟨(Question.appendCap (sLen+k) sCap el).cut (w.tape w.drawn (.appendCap (sLen+k) sCap el)),(Builtin.zeroCells zv.cells ((Question.appendCap (sLen+k) sCap el).cut (w.tape w.drawn (.appendCap (sLen+k) sCap el))-(sLen+k))).toList,by simp[Question.cut],?_,?_⟩
 .grind [Builtin.zeroCells]
 have hcap:¬Builtin.nextslicecap (sLen+k) sCap*inf.bytes>2^48:=by
  rcases hle with hle|⟨hwd,hle⟩
  .have h1:=Xa hle hlt;have h2:Builtin.nextslicecap (sLen+k) sCap*inf.bytes<=6442454016*16384:=Nat.mul_le_mul h1 hb1;omega
  .have h1:=TB hle hlt;have hb8:inf.bytes<=8:=by unfold yi at hwd;rw[hinf]at hwd;exact of_decide_eq_true hwd
   have h2:Builtin.nextslicecap (sLen+k) sCap*inf.bytes<=35184372088832*8:=Nat.mul_le_mul h1 hb8;omega
 have hbz:¬inf.bytes=0:=by omega
 have hnle:¬sLen+k<=sCap:=by omega
 have ho2:=hold {w with drawn:=w.drawn+1} rfl;have hn2:=(hel.2 {w with drawn:=w.drawn+1} rfl).2 k (aq _);rw[<-hel.1,eB]at hn2;have hl2:=(hel.2 w rfl).1
 simp only[execOp,ho,hcal,resolve,hargs,Sem.run_bind,Sem.run_pure,Result.andThen_ok,invoke,builtin,Builtin.append_,hts,gp,a_,gF,hs,dM,
  dh,eC,bT hus,j8 hsz,hunx,hl2,hnle,if_false,hinfo,hcap,hbz,fE,or_self,and_false,run_choose,Question.forced,run_askRoom,ho2,hn2,hzr',newRow,run_newObj,mU,if_true]
 congr 4;apply Array.ext';simp
theorem Pw(hT:Jj P o s x el m z){b addr:Nat}{bz:Array Value}{p mm q:List Value}(hs:ρ s=.slice (some ⟨b,addr,none⟩) sLen sCap)(hel:th P w (m+1) k (ρ x) new)(hle:sLen+k<=sCap)
  (hown:pi w b bz) (he:bz.toList=p++mm++q) (hp:p.length=addr+sLen*(m+1)) (hmm:mm.length=new.length) (hone:∀v∈new,one v=true):
  (execOp ρ o).run P w=.ok (.value (.slice (some ⟨b,addr,none⟩) (sLen+k) sCap)) (w.setRow b (p++new++q).toArray):=by
 obtain⟨⟨c,st,xt,el2,ho,hcal,hargs,hts,hus,hux⟩,hsz,hz,hzl,hby⟩:=hT;have hunx:∀w:World,(underlying xt).run P w=.ok (.slice el2) w:=bT hux;have hn2:=(hel.2 w rfl).2 k (aq _);rw[<-hel.1,eB]at hn2;have hl2:=(hel.2 w rfl).1;obtain⟨ty,hty⟩:=hown;have hsize:=congrArg eK he;simp at hsize;have fe:=run_storeCells_at P b (addr+sLen*(m+1)) ty new 0 bz w hty (by omega) (fun v hv=>by rw[yA];exact hone v hv);have e1:bz.toList.take (addr+sLen*(m+1))=p:=by rw[he,<-hp,aQ];simp
 have e2:bz.toList.drop (addr+sLen*(m+1)+new.length)=q:=by rw[he,<-hp,<-hmm,<-aA,pP]
 simp only[gd,e1,e2]at fe
 simp only[execOp,ho,hcal,resolve,hargs,Sem.run_bind,Sem.run_pure,Result.andThen_ok,invoke,builtin,Builtin.append_,hts,gp,a_,gF,hs,dM,
  dh,eC,bT hus,j8 hsz,hunx,hl2,hle,if_true,mU,hn2,fE,if_false,vX,List.toList_toArray,fe]
theorem Px(hT:Jj P o s x el m z)(hs:ρ s=.slice none 0 0)(hel:th P w (m+1) 0 (ρ x) new):(execOp ρ o).run P w=.ok (.value (.slice none 0 0)) w:=by
 obtain⟨⟨c,st,xt,el2,ho,hcal,hargs,hts,hus,hux⟩,hsz,hz,hzl,hby⟩:=hT;have hunx:∀w:World,(underlying xt).run P w=.ok (.slice el2) w:=bT hux;have hn2:=(hel.2 w rfl).2 0 (aq _);have hl2:=(hel.2 w rfl).1
 simp only[execOp,ho,hcal,resolve,hargs,Sem.run_bind,Sem.run_pure,Result.andThen_ok,invoke,builtin,Builtin.append_,hts,gp,a_,gF,hs,dM,
  dh,eC,bT hus,j8 hsz,hunx,hl2,aq,if_true,mU,hn2,fE,if_false,gd]
theorem Inv.abI(hI:Inv S K w0 φ H w){bz arr':Array Value}{l:nF}{x:O}(hn:φ n=none)(hS:¬S l.bP)(hK:¬K l.bP)(hfree:∀j a m,H j=some a->φ j=some m->l.bP∉ob w m a)(hown:pi w l.bP bz)(hsz:arr'.size=bz.size)
  (hro:gC S w S (w.setRow l.bP arr')->pi (w.setRow l.bP arr') l.bP arr'->RO S (w.setRow l.bP arr') (ext φ n l) l x) (hob:ob (w.setRow l.bP arr') l x=[l.bP]):
  gC S w S (w.setRow l.bP arr')/\Inv S K w0 (ext φ n l) (up H [(n,some x)]) (w.setRow l.bP arr'):=by
 have hother:∀c,c≠l.bP->(w.setRow l.bP arr').heap[c]?=w.heap[c]?:=fun c hc=>setRow_other w l.bP c _ hc;have hsize:(w.setRow l.bP arr').heap.size=w.heap.size:=by simp
 have hs:gC S w S (w.setRow l.bP arr'):=⟨fun _ h=>h,fun b h=>hother b fun e=>hS (e▸h)⟩
 refine⟨hs,hI.gM (fun j=>j=n) hs (mg l hn) (fun b hb=>hsize▸hI.Cg b hb) hI.sk ?_ (fun i a hi ha=>?_) (fun i a m hi ha hm b hb=>?_) fun i a hi ha=>?_⟩
 .refine ⟨hI.sq.OD,fun b hb=>(hother b fun e=>hK (e▸hb)).trans (hI.sq.uu b hb),hsize▸hI.sq.grow,fun a ha=>(yc hown a).trans (hI.sq.Sk a ha),fun b a h=>?_,hI.sq.io.trans ⟨rfl,rfl,rfl,aq _⟩⟩;obtain⟨a',k1,k2⟩:=hI.sq.HI b a h;by_cases e:b=l.bP
  .subst e;obtain⟨a2,k3,k4⟩:=CM hown hsz _ k1;exact⟨a2,k3,k4.trans k2⟩
  .exact ⟨a',k1.ju (hother b e),k2⟩
 .rw [bC,if_neg (fun e=>hi e.symm)]at ha;exact ha
 .obtain ⟨m2,b1,_,b4⟩:=hI.lS i a ha;obtain rfl:=ac (hm.symm.trans b1);exact⟨hother b fun e=>hfree i a m ha hm (e▸hb),(b4 b hb).1⟩
 .subst hi;rw[bC,if_pos rfl]at ha;obtain rfl:=ac ha;refine⟨l,fg _ _ _,hro hs (vG hown),fun b hb=>?_⟩;rw[hob]at hb;obtain rfl:=List.mem_singleton.1 hb;refine⟨hS,hK,hsize▸hown.lt,fun j a m hj ha hm=>?_,fun j a m hj hne=>absurd hj hne⟩;rw[bC,if_neg (fun e=>hj e.symm)]at ha;exact hfree j a m ha hm
theorem Inv.acd(hI:Inv S K w0 φ H w){l:nF}{x:O}(hn:φ n=none)(hro:RO S w (ext φ n l) l x)(hob:ob w l x=[]):Inv S K w0 (ext φ n l) (up H [(n,some x)]) w:=by
 refine hI.gM (fun j=>j=n) (gC.refl _ _) (mg l hn) hI.Cg hI.sk hI.sq (fun i a hi ha=>?_) (fun i a m hi ha hm b hb=>⟨rfl,?_⟩) fun i a hi ha=>?_
 .rw [bC,if_neg (fun e=>hi e.symm)]at ha;exact ha
 .obtain ⟨m2,b1,_,b4⟩:=hI.lS i a ha;obtain rfl:=ac (hm.symm.trans b1);exact(b4 b hb).1
 .subst hi;rw[bC,if_pos rfl]at ha;obtain rfl:=ac ha;exact⟨l,fg _ _ _,hro,by rw[hob];simp⟩
theorem gO.ext{l:nF}{u:ri}{v:V}{val:Value}(hn:φ n=none)(hs:gC S w S w')(hv:RW S w' (ext φ n l) v val)(hI:Inv S K w0 (ext φ n l) (up H u) w'):gO S K w0 w φ H n (n+1) v u val w':=
 ⟨aO _,S,_,hs,mg l hn,(fun i m h1 h3=>by
  simp only[Ev.ext]at h1;split at h1
  .omega
  .rw [h1]at h3;cases h3),hv,hI⟩
theorem gO.after{u1 u:ri}{v:V}{val:Value}{n':Nat}(h:gO S K w0 w φ (up H u1) n n' v u val w'):gO S K w0 w φ H n n' v (u++u1) val w':=by obtain⟨h1,S',φ',h2,h3,h4,h5,h6⟩:=h;exact⟨h1,S',φ',h2,h3,h4,h5,by rw[jA];exact h6⟩
theorem Mt(hT:Jj P o s x el m z)(hI:Inv S K w0 φ H w)(hn:φ n=none){t:Ty}{ml:List (El t)}(hd:kS t=true)(hsz:df t=m+1)(hs:ρ s=.slice none 0 0)(hr:lC (RT S w t) ml new)(hel:th P w (m+1) ml.length (ρ x) new)(hle:KX P el ml.length):
  ∃val w',(execOp ρ o).run P w=.ok (.value val) w'/\gO S K w0 w φ H n (n+1) (.so n) [(n,some (.ar t (Bi Sl.nil ml ml) 0))] val w':=by
 cases ml with
 |nil=>exact⟨_,w,Px hT hs hel,gO.ext (l:=⟨0,0,0,0,t,none⟩) hn (gC.refl _ _) (R1.rw (R1.wC ⟨_,fg _ _ _,rfl⟩ rfl)) (hI.acd hn ⟨rfl,rfl,hd,by omega,fun r e=>by cases e⟩ rfl)⟩
 |cons y ml=>
  obtain⟨newCap,e,h1,h3,h4⟩:=Ha hT (old:=[]) hs hel (by simp) (by simpa using hle) fun w' _=>by simp[Builtin.firstCells]
  rw[cT]at h1 h3 h4;have hD:=gO.bz (K:=K) (w0:=w0) (bz:=([]++new++e).toArray) (e:=e) (hI.xO (w.drawn+1) (aO _)) hn el hd (by omega) (hr.imp fun _ _ _=>RT.mono (gC.xO S w _)) (by simp) h1 (by rw[hsz];simp[hel.1,h3];rw[<-fW];apply ct;simp at h1;omega);refine⟨_,_,h4,?_⟩;obtain⟨a1,S',φ',a2,a3,a4,a5,a6⟩:=hD;exact⟨a1,S',φ',(gC.xO S w _).trans a2,a3,a4,a5,a6⟩
theorem U7(hT:Jj P o s x el m z)(hI:Inv S K w0 φ H w)(hn:φ n=none){id lo ver:Nat}{t:Ty}{l1:nF}{l0 vl ml:List (El t)}{sv:Sl (El t)}(hH:H id=some (.ar t (.mk l0) ver))(hl:φ id=some l1)
  (hs:yH l1 lo (some vl.length) [ρ s]) (hv:vl=(l0.drop lo).take vl.length) (hlo:lo+vl.length<=l0.length) (hsz:df t=m+1) (hr:lC (RT S w t) ml new) (hel:th P w (m+1) ml.length (ρ x) new) (hle:KX P el (vl.length+ml.length)):
  ∃val w',(execOp ρ o).run P w=.ok (.value val) w'/\gO S K w0 w φ H n (n+1) (.so n) [(n,some (.ar t (.mk (vl++ml)) 0)),(id,none)] val w':=by
 obtain⟨b1,b2,b3,b4,bz,pa,d,qa,c1,c2,c3,c4,e1,e2,c5,c6⟩:=hI.cells hH hl;obtain⟨da,d0,db,rfl,r1,r2⟩:=Aj (fun _ _ _ h=>RT.len h) c5 lo vl.length (by omega);rw[<-hv]at r2;have hd0:d0.length=vl.length*(m+1):=by rw[lC.len (fun _ _ _ h=>RT.len h) r2,hsz]
 have hne:id≠n:=fun e=>by rw[<-e,hl]at hn;cases hn
 obtain⟨l2,o1,_,o3⟩:=hI.lS id _ hH;obtain rfl:=ac (hl.symm.trans o1);obtain⟨oS,oK,_⟩:=o3 l1.bP (by simp[ob])
 have hkill:Inv S K w0 φ (up H [(id,none)]) w:=hI.BZ fun i a ha=>by
  rw[bC]at ha;split at ha
  .cases ha
  .exact ha
 have hfree:∀j a mm,up H [(id,none)] j=some a->φ j=some mm->l1.bP∉ob w mm a:=by
  intro j a mm ha hm;rw[bC]at ha;split at ha
  .cases ha
  .rename_i hj;exact fun hb=>hI.iY id j _ a l1 mm hH ha hl hm hj l1.bP (by simp[ob]) hb
 obtain⟨addr,cap,es,k1,k2,k3,k4⟩:=hs;have es:=(aB es).1;rw[b1,hsz]at k3 k4
 have hat:At w l1.bP addr d0:=by
  rcases gR cap with e|e
  .obtain rfl:d0=[]:=bB.1 (by
    rw[hd0];have:vl.length=0:=by omega
    rw[this];omega)
   trivial
  .rw [k3 e];have:=rJ c6;rwa[r1,hsz]at this
 have hone:∀v∈new,one v=true:=lC.all (fun _ _ _ h=>RT.one h) hr;by_cases hroom:vl.length+ml.length<=cap
 .have hcm:(vl.length+ml.length)*(m+1)<=cap*(m+1):=ct _ hroom;rw[fW]at hcm;obtain⟨p0,q0,f1,f2⟩:=D4 c1 hat (by omega);have hq0:q0=q0.take new.length++q0.drop new.length:=(cK _ _).symm;have hlen:=congrArg eK f1;simp at hlen;have hnl:=hel.1;have run:=Pw hT (p:=p0++d0) (mm:=q0.take new.length) (q:=q0.drop new.length) es hel hroom c1 (by rw[f1,aQ (p0++d0),<-hq0]) (by simp;omega) (by simp;omega) hone
  have hcl:=hkill.abI (l:=⟨l1.bP,addr,l1.ext,cap,t,some (vl++ml).length⟩) (x:=.ar t (.mk (vl++ml)) 0) (arr':=(p0++d0++new++q0.drop new.length).toArray) hn oS oK hfree c1 (by simp;omega)
   (fun hs hown=>⟨rfl,rfl,b3,b4,fun r e=>by cases e;refine⟨_,d0++new,hown,by rw[<-c2];simp;omega,by simpa using hroom,by rw[hsz];simp[fW];omega,ki.2 ⟨d0,new,rfl,r2.imp fun _ _ _=>RT.mono hs,hr.imp fun _ _ _=>RT.mono hs⟩,?_⟩;have:=K3 hown (a:=p0) (c:=d0++new) (e:=q0.drop new.length) (by simp);rwa[f2]at this⟩) rfl
  refine⟨_,_,run,gO.after (u:=[(n,some (.ar t (.mk (vl++ml)) 0))]) (gO.ext (l:=⟨l1.bP,addr,l1.ext,cap,t,some (vl++ml).length⟩) hn hcl.1 (R1.rw (R1.wC ⟨_,fg _ _ _,addr,cap,by simp,by simpa using hroom,by simp,by simp,by simp only;rw[hsz];exact k4⟩ rfl)) hcl.2)⟩
 .obtain ⟨newCap,e,h1,h3,h4⟩:=Ha hT (old:=d0) es hel (by omega) hle fun w' hw=>by have:=(IL (P:=P) (sz:=m+1) (k:=vl.length) (cap:=cap) hat hd0).2 w' hw|>.2 vl.length (aq _);rwa[<-hd0,eB]at this
  have fe:=gC.xO S w (w.drawn+1);have hD:=gO.bz (K:=K) (w0:=w0) (bz:=(d0++new++e).toArray) (e:=e) (hkill.xO (w.drawn+1) (aO _)) hn el b3 (by omega) (r:=vl++ml) (ki.2 ⟨d0,new,rfl,r2.imp fun _ _ _=>RT.mono fe,hr.imp fun _ _ _=>RT.mono fe⟩) (by simp) (by simpa using h1) (by rw[hsz];simp[hel.1,h3,hd0];rw[<-fW,<-fW];apply ct;omega);refine⟨_,_,h4,gO.after (u:=[(n,some (.ar t (.mk (vl++ml)) 0))]) ?_⟩;obtain⟨a1,S',φ',a2,a3,a4,a5,a6⟩:=hD;rw[aA]at a5;exact⟨a1,S',φ',fe.trans a2,a3,a4,a5,a6⟩
end
section
variable{P:Program}{S S' K:Nat->Prop}{w0 w w':World}{φ φ':fM}{H:Hf}{o:Oper}{ρ:Operand->Value}{n:Nat}{h2:H2}{l:List Nat}
theorem Vc{α:Type}{R:α->List Value->Prop}{sz:Nat}{l:List α}{c:List Value}(hn:∀x∈l,∀c,R x c->c.length=sz)(h:lC R l c){k m:Nat}(hk:k+m<=l.length):
  ∃a d b,c=a++d++b/\a.length=k*sz/\d.length=m*sz/\∀y e,lC R y e->y.length=m->lC R (iF l k y) (a++e++b):=by
 have e:l=l.take k++((l.drop k).take m++(l.drop k).drop m):=by rw[cK,cK]
 rw[e]at h;obtain⟨a,b,rfl,h1,h2⟩:=ki.1 h;obtain⟨d,f,rfl,h3,h4⟩:=ki.1 h2;refine⟨a,d,f,by simp,?_,?_,fun y e hy hl=>?_⟩
 .rw [lC.len (fun x hx=>hn x (mR hx)) h1,bV,gb (by omega)]
 .rw [lC.len (fun x hx=>hn x (List.mem_of_mem_drop (mR hx))) h3,bV,List.length_drop,gb (by omega)]
 .unfold iF;rw[hl,aQ,aQ];exact ki.2 ⟨a,e++f,rfl,h1,ki.2 ⟨e,f,rfl,hy,by rw[<-kR];exact h4⟩⟩
theorem Inv.seg(hI:Inv S K w0 φ H w){id lo len k ver ver':Nat}{u:Ty}{l1:nF}{l0 y:List (El u)}{e:List Value}{xv:Value}(hH:H id=some (.ar u (.mk l0) ver))(hl:φ id=some l1)(hh:yH l1 lo (some len) [xv])(hk:k<=len)(hlo:lo+len<=l0.length)
  (hy:lC (RT S w u) y e) (hyl:y.length=k):∃addr cap bz p mm q,xv=.slice (some ⟨l1.bP,addr,none⟩) len cap/\pi w l1.bP bz/\bz.toList=p++mm++q/\p.length=addr/\mm.length=e.length/\
   gC S w S (w.setRow l1.bP (p++e++q).toArray)/\Inv S K w0 φ (up H [(id,some (.ar u (.mk (iF l0 lo y)) ver'))]) (w.setRow l1.bP (p++e++q).toArray):=by
 obtain⟨b1,b2,b3,b4,bz,pa,d,qa,c1,c2,c3,c4,e1,e2,c5,c6⟩:=hI.cells hH hl;obtain⟨da,d0,db,rfl,r1,r2,r3⟩:=Vc (fun _ _ _ h=>RT.len h) c5 (k:=lo) (m:=k) (by omega);obtain⟨addr,cap,es,k1,k2,k3,k4⟩:=hh;have hel:e.length=k*df u:=by rw[lC.len (fun _ _ _ h=>RT.len h) hy,hyl]
 have hnew:=r3 y e hy hyl;have hsl:(iF l0 lo y).length=l0.length:=xZ _ _ _ (by omega);have hput:=hI.Vs (r':=iF l0 lo y) (ver':=ver') (d':=da++e++db) hH hl c1 e1 e2 (by simp;omega) hsl fun w' hs=>hnew.imp fun _ _ _=>RT.mono hs;rcases gR k with h0|h0
 .subst h0;rw[gD]at hel r2;obtain rfl:=bB.1 hel;obtain rfl:=bB.1 r2;have hle:addr<=bz.toList.length:=by rw[Array.length_toList,c2];omega
  refine⟨addr,cap,bz,bz.toList.take addr,[],bz.toList.drop addr,(aB es).1,c1,by simp,by rw[bV];omega,rfl,?_⟩;rw[<-e1]at hput;have:bz.toList.take addr++[]++bz.toList.drop addr=bz.toList:=by simp
  rw[this];exact hput
 .have ha:=k3 (by omega);refine⟨addr,cap,bz,pa++da,d0,db++qa,(aB es).1,c1,by rw[e1];simp,by rw[ha,b1];simp[e2,r1],by omega,?_⟩;have:pa++da++e++(db++qa)=pa++(da++e++db)++qa:=by simp
  rw[this];exact hput
theorem EV{b addr:Nat}{bz:Array Value}{p mm q e:List Value}(hown:pi w b bz)(he:bz.toList=p++mm++q)(hp:p.length=addr)(hmm:mm.length=e.length)(hone:∀v∈e,one v=true):
  (storeCells ⟨b,addr,none⟩ e).run P w=.ok () (w.setRow b (p++e++q).toArray):=by
 obtain⟨ty,hty⟩:=hown;have hsize:=congrArg eK he;simp at hsize;have fe:=run_storeCells_at P b addr ty e 0 bz w hty (by omega) (fun v hv=>by rw[yA];exact hone v hv);have e1:bz.toList.take addr=p:=by rw[he,<-hp,aQ];simp
 have e2:bz.toList.drop (addr+e.length)=q:=by rw[he,<-hp,<-hmm,<-aA,pP]
 simpa only[gd,e1,e2]using fe
theorem gO.uu{m:Nat}{u:ri}{v:V}{val:Value}(hs:gC S w S w')(hv:RW S w' φ v val)(hI:Inv S K w0 φ (up H u) w'):gO S K w0 w φ H m m v u val w':=⟨aq _,S,φ,hs,Ren.refl _,(fun i l h1 h2=>by rw[h1]at h2;cases h2),hv,hI⟩
variable{c:oy}{d x:Operand}{dt xt el:TypeId}{m:Nat}
theorem Hb(ho:o.op=.call c)(hcal:c.callee=.builtin .copy)(hargs:c.args= #[d,x])(hts:c.argTypes= #[dt,xt])(hud:P.underlying dt=some (.slice el))(hsz:dG P el=some (m+1)){q:Option Addr}{len cap k:Nat}{new:List Value}
  (hd:ρ d=.slice q len cap) (hel:th P w (m+1) k (ρ x) new) (fe:∀a,q=some a->(storeCells a (new.take (min k len*(m+1)))).run P w=.ok () w') (hq:q=none->len=0/\w'=w):
  (execOp ρ o).run P w=.ok (.value (goInt ((min k len:Nat):Int))) w':=by
 obtain⟨h1,h3⟩:=hel.2 w rfl;have h4:=h3 (min k len) (Nat.min_le_left _ _);have hmn:Nat.min k len=min k len:=rfl;cases q with
 |none=>
  obtain⟨rfl,rfl⟩:=hq rfl;have e0:min k 0=0:=Nat.min_zero _;rw[e0]at h4
  simp only[execOp,ho,hcal,resolve,hargs,Sem.run_bind,Sem.run_pure,Result.andThen_ok,invoke,builtin,Builtin.copy_,hts,gp,a_,gF,hd,dM,
   dh,eC,bT hud,j8 hsz,h1,hmn,e0,h4,goInt]
 |some a=>
  have:=fe a rfl
  simp only[execOp,ho,hcal,resolve,hargs,Sem.run_bind,Sem.run_pure,Result.andThen_ok,invoke,builtin,Builtin.copy_,hts,gp,a_,gF,hd,dM,
   dh,eC,bT hud,j8 hsz,h1,hmn,h4,List.toList_toArray,this]
theorem th.take{t:Ty}{r:List (El t)}{new:List Value}{xv:Value}{sz:Nat}(hel:th P w sz r.length xv new)(hr:lC (RT S w t) r new)(hsz:df t=sz)(k:Nat)(hk:k<=r.length):lC (RT S w t) (r.take k) (new.take (k*sz)):=by have e:r=r.take k++r.drop k:=(cK _ _).symm;rw[e]at hr;obtain⟨a,b,rfl,h1,_⟩:=ki.1 hr;have hl:=lC.len (fun _ _ _ h=>RT.len h) h1;rw[bV,gb hk,hsz]at hl;rw[<-hl,List.take_left];exact h1
theorem Tg(ho:o.op=.call c)(hcal:c.callee=.builtin .copy)(hargs:c.args= #[d,x])(hts:c.argTypes= #[dt,xt])(hud:P.underlying dt=some (.slice el))(hsz:dG P el=some (m+1))(hI:Inv S K w0 φ H w)
  {id lo len ver ver':Nat} {u:Ty} {l1:nF} {l0 r:List (El u)} {new:List Value} (hH:H id=some (.ar u (.mk l0) ver)) (hl:φ id=some l1) (hh:yH l1 lo (some len) [ρ d]) (hlo:lo+len<=l0.length) (hszu:df u=m+1)
  (hr:lC (RT S w u) r new) (hel:th P w (m+1) r.length (ρ x) new):fL P o ρ S K w0 w φ H n n (.x (.i .i64) ((min r.length len:Nat):Int)) [(id,some (.ar u (.mk (B_ l0 lo len r)) ver'))]:=by
 have hmin:min r.length len<=r.length:=Nat.min_le_left _ _;obtain⟨addr,cap,bz,p,mm,q,e1,e2,e3,e4,e5,e6,e7⟩:=hI.seg (ver':=ver') (k:=min r.length len) (y:=r.take (min r.length len)) hH hl hh (Nat.min_le_right _ _) hlo (hel.take hr hszu _ hmin) (by rw[bV];omega)
 have ecp:iF l0 lo (r.take (min r.length len))=B_ l0 lo len r:=by
  unfold B_;congr 1;rcases Nat.le_total r.length len with h|h
  .rw [gb h,eB,iO h]
  .rw [Nat.min_eq_right h]
 rw[ecp]at e7;have hone:∀v∈new.take (min r.length len*(m+1)),one v=true:=lC.all (fun _ _ _ h=>RT.one h) (hel.take hr hszu _ hmin);refine⟨.value _,_,_,Hb ho hcal hargs hts hud hsz e1 hel (fun a ea=>?_) (fun e=>by cases e),.inl rfl,gO.uu e6 (R1.wC (v:=.x (.i .i64) _) rfl rfl).rw e7⟩;obtain rfl:=ac ea;exact EV e2 e3 e4 e5 hone
theorem HY(ho:o.op=.call c)(hcal:c.callee=.builtin .copy)(hargs:c.args= #[d,x])(hts:c.argTypes= #[dt,xt])(hud:P.underlying dt=some (.slice el))(hsz:dG P el=some (m+1))(hd:ρ d=.slice none 0 0){k:Nat}{new:List Value}
  (hel:th P w (m+1) k (ρ x) new):(execOp ρ o).run P w=.ok (.value (.int .i64 0)) w:=by
 have:=Hb (w':=w) ho hcal hargs hts hud hsz hd hel (fun a e=>by cases e) (fun _=>⟨rfl,rfl⟩);rw[Nat.min_zero]at this;exact this
theorem P7(ho:o.op=.call c)(hcal:c.callee=.builtin .clear)(hargs:c.args= #[d])(hts:c.argTypes= #[dt])(hud:P.underlying dt=some (.slice el)){z:List Value}(hz:gQ P el=some z)(hzl:z.length=m+1)(hI:Inv S K w0 φ H w)
  {id lo len ver ver':Nat} {u:Ty} {l1:nF} {l0:List (El u)} (hH:H id=some (.ar u (.mk l0) ver)) (hl:φ id=some l1) (hh:yH l1 lo (some len) [ρ d]) (hlo:lo+len<=l0.length) (hd:kS u=true) (hzu:xo u=z):
  fL P o ρ S K w0 w φ H n n (.tp .ni) [(id,some (.ar u (.mk (B_ l0 lo len (ay len (pV u)))) ver'))]:=by
 obtain⟨zv,hzr,hzv,_⟩:=sH hz w
 have hcells:(Builtin.zeroCells zv.cells len).toList=(ay len z).flatten:=by
  have:=yU (n:=len*(m+1)) hzv hzl (lw m);rw[xn hzl (lw _)]at this;have hzs:zv.cells.size=m+1:=by rw[<-hzl,<-hzv];simp
  rw[<-this];simp[Builtin.zeroCells,hzs]
 have hy:lC (RT S w u) (ay len (pV u)) (ay len z).flatten:=Ai (hzu▸RT.ze hd) len;obtain⟨addr,cap,bz,p,mm,q,e1,e2,e3,e4,e5,e6,e7⟩:=hI.seg (ver':=ver') (k:=len) hH hl hh (aq _) hlo hy (by simp);have ecp:iF l0 lo (ay len (pV u))=B_ l0 lo len (ay len (pV u)):=by unfold B_;rw[iO (by simp)]
 rw[ecp]at e7;have fe:=EV (P:=P) e2 e3 e4 e5 (lC.all (fun _ _ _ h=>RT.one h) hy);refine⟨.value (.tuple #[]),.tuple #[],w.setRow l1.bP (p++(ay len z).flatten++q).toArray,?_,.inl rfl,gO.uu e6 ⟨[],rfl,rfl⟩ e7⟩;cases len with
 |zero=>
  simp only[List.replicate_zero,List.flatten_nil]at fe|-;have hsame:w.setRow l1.bP (p++[]++q).toArray=w:=by have:=fe;simp only[storeCells,Sem.run_pure,Result.ok.injEq,true_and]at this;exact this.symm
  rw[hsame]
  simp only[execOp,ho,hcal,resolve,hargs,Sem.run_bind,Sem.run_pure,Result.andThen_ok,invoke,builtin,Builtin.clear_,hts,gp,a_,gF,e1,dM,
   dh,bT hud]
 |succ len=>
  simp only[execOp,ho,hcal,resolve,hargs,Sem.run_bind,Sem.run_pure,Result.andThen_ok,invoke,builtin,Builtin.clear_,hts,gp,a_,gF,e1,dM,
   dh,bT hud,hzr,hcells,fe]
end
section
variable{P:Program}{S S' K:Nat->Prop}{w0 w w':World}{φ φ':fM}{H:Hf}{o:Oper}{ρ:Operand->Value}{n:Nat}{kT vT:Ty}
theorem kO.get{es:List (El kT×El vT×Nat)}:∀{ms:List MapEntry}{i:Nat}{e:El kT×El vT×Nat},kO S w kT vT es ms->es[i]?=some e->∃m,ms[i]?=some m/\Mx S w kT vT e m:=by
 induction es with
 |nil=>intro ms i e _ h;simp at h
 |cons x es ih=>
  intro ms i e hE h;cases ms with
  |nil=>exact hE.elim
  |cons m ms=>
   cases i with
   |zero=>
    obtain rfl:x=e:=by simpa using h
    exact⟨m,rfl,hE.1⟩
   |succ i=>exact ih (ms:=ms) (i:=i) hE.2 (by simpa using h)
theorem kO.push{es:List (El kT×El vT×Nat)}{e:El kT×El vT×Nat}{m:MapEntry}(he:Mx S w kT vT e m):∀{ms:List MapEntry},kO S w kT vT es ms->kO S w kT vT (es++[e]) (ms++[m]):=by
 induction es with
 |nil=>intro ms h;cases ms with|nil=>exact⟨he,trivial⟩|cons m ms=>exact h.elim
 |cons x es ih=>intro ms h;cases ms with|nil=>exact h.elim|cons m ms=>exact⟨h.1,ih h.2⟩
theorem kO.put{es:List (El kT×El vT×Nat)}{v:El vT}{m:MapEntry}:∀{ms:List MapEntry}{i:Nat},kO S w kT vT es ms->(∀e,es[i]?=some e->Mx S w kT vT (e.1,v,e.2.2) m)->kO S w kT vT (mH es i v) (ms.set i m):=by
 induction es with
 |nil=>intro ms i h _;cases ms<;>first|exact h|exact h.elim
 |cons x es ih=>intro ms i h he;cases ms with
  |nil=>exact h.elim
  |cons m' ms=>cases i with|zero=>exact⟨he x rfl,h.2⟩|succ i=>exact⟨h.1,ih h.2 fun e hi=>he e (by simpa using hi)⟩
theorem kO.abz{es:List (El kT×El vT×Nat)}:∀{ms:List MapEntry}{i:Nat},kO S w kT vT es ms->kO S w kT vT (es.eraseIdx i) (ms.eraseIdx i):=by
 induction es with
 |nil=>intro ms i h;cases ms<;>first|exact h|exact h.elim
 |cons x es ih=>intro ms i h;cases ms with
  |nil=>exact h.elim
  |cons m' ms=>cases i with|zero=>exact h.2|succ i=>exact⟨h.1,ih h.2⟩
theorem Inv.yp(hI:Inv S K w0 φ H w){id:Nat}{l:nF}{m m':Mp (El kT) (El vT)}{ms ms':Array MapEntry}(hH:H id=some (.mp kT vT m))(hl:φ id=some l)(hms:w.heap[l.bP]?=some (.map ms m.ce))(hE:kO S w kT vT m'.es ms'.toList):
  gC S w S {w with heap:=w.heap.setIfInBounds l.bP (.map ms' m'.ce)}/\Inv S K w0 φ (up H [(id,some (.mp kT vT m'))]) {w with heap:=w.heap.setIfInBounds l.bP (.map ms' m'.ce)}:=by
 obtain⟨l2,o1,⟨b1,b2,_⟩,_⟩:=hI.lS id _ hH;obtain rfl:=ac (hl.symm.trans o1);have hlt:=(bi.1 hms).1;have hother:∀b,b≠l.bP->(w.heap.setIfInBounds l.bP (.map ms' m'.ce))[b]?=w.heap[b]?:=fun b hb=>by rw[iz,if_neg (fun e=>hb e.symm)]
 refine hI.set hH hl (by simp[ob]) hother (by simp) (fun a=>?_) (fun bz⟨t,h⟩=>by rw[hms]at h;cases h) ⟨rfl,rfl,rfl,aq _⟩ (fun hs=>⟨b1,b2,ms',by simp[hlt],hE.mono hs⟩) (by simp[ob]);unfold World.frozen?;by_cases e:a.block=l.bP
 .rw [e,iz,if_pos rfl,if_pos hlt,hms]
 .simp only[hother _ e]
theorem QJ{old new:Value}(h1:old=new)(h2:Instr.sameBits 10000 new new=true):(Instr.keyThatStays old new).run P w=.ok new w:=by subst h1;unfold Instr.keyThatStays;rw[if_pos h2];rfl
theorem RI{ks:List Kd}{c:List Value}{ka:Bool}(hone:ka=false->ks.length=1)(hc:Ir ks c=true)(n:Nat):Instr.sameBits (n+1) (nB ka c) (nB ka c)=true:=by
 have k1:∀{q:Kd}{x:Value},NO q x=true->∀n,Instr.sameBits n x x=true:=by intro q x h n;cases q<;>cases x<;>first|(simp[NO]at h;done)|(cases n<;>simp[Instr.sameBits,KO])
 have all:∀{ks:List Kd}{c:List Value},Ir ks c=true->c.length=ks.length/\∀x∈c,∀n,Instr.sameBits n x x=true:=by
  intro ks;induction ks with
  |nil=>intro c h;cases c<;>simp_all[Ir]
  |cons q ks ih=>intro c h;cases c with|nil=>simp[Ir]at h|cons x c=>simp only[Ir,aw]at h;obtain⟨a1,a2⟩:=ih h.2;exact⟨by simp[a1],fun y hy=>(aI.1 hy).elim (fun e=>e▸k1 h.1) (a2 y)⟩
 obtain⟨hl,ha⟩:=all hc;cases ka with
 |true=>
  simp[nB,Instr.sameBits]
  grind [List.getElem_of_mem,Prod.mk.injEq]
 |false=>rw[hone rfl]at hl;obtain⟨x,rfl⟩:=fP.1 hl;exact ha x (by simp) _
structure K0(P:Program)(S:Nat->Prop)(w:World)(kt:TypeId)(kT:Ty)(ks:List Kd)(q:El kT)(kc:List Value):Prop where
 ag:eN P kt=some (iD kT)
 tk:Cd P 8 kt=some ks
 kd:AV kT=some ks
 rt:RT S w kT q kc
theorem K0.Md{kt:TypeId}{ks:List Kd}{q:El kT}{kc:List Value}(h:K0 P S w kt kT ks q kc)(em:Bool)(w:World):(Instr.checkKey em (8+9992) kt (nB (iD kT) kc)).run P w=.ok () w:=CO em 9992 8 kt ks h.tk _ h.ag kc w (h.rt.len.trans (Iq (S:=S) (w:=w) h.kd).2.2.symm)
theorem K0.Vo{kt:TypeId}{ks:List Kd}{q:El kT}{kc:List Value}(h:K0 P S w kt kT ks q kc){e:El kT×El vT×Nat}{m:MapEntry}(hE:Mx S w kT vT e m)(he:e.1=q):m.key=nB (iD kT) kc/\(Instr.keyThatStays m.key (nB (iD kT) kc)).run P w=.ok (nB (iD kT) kc) w:=by
 obtain⟨c,d,k1,k2,_⟩:=hE;obtain⟨a1,a2,_⟩:=Iq (S:=S) (w:=w) h.kd;have:=a2 k1 h.rt;rw[decide_eq_true he]at this;have e2:m.key=nB (iD kT) kc:=by rw[k2,Ut this]
 obtain⟨_,ag,hag',hone⟩:=Av 8 kt ks h.tk;obtain rfl:iD kT=ag:=ac (h.ag.symm.trans hag');exact⟨e2,QJ e2 (RI (n:=9999) hone (a1 h.rt))⟩
theorem yo{ms:Array MapEntry}{i:Nat}{m:MapEntry}{f:MapEntry->MapEntry}(h:ms.toList[i]?=some m):(ms.modify i f).toList=ms.toList.set i (f m):=by
 apply pN;intro j;rw[dj,Array.getElem?_modify,List.getElem?_set];by_cases e:i=j
 .subst e;rw[dj]at h;obtain⟨hlt,rfl⟩:=bi.1 h;simp[hlt]
 .simp [e]
theorem Pr{α:Type}{l:List α}{i:Nat}{x:α}(h:l[i]?=some x):l.set i x=l:=by
 apply pN;intro j;rw[List.getElem?_set];obtain⟨hlt,rfl⟩:=aV.1 h;split
 .rename_i e;subst e;simp[hlt]
 .rfl
variable{t kt et:TypeId}{m ix x:Operand}{ks:List Kd}{q:El kT}{kc:List Value}{mp:Mp (El kT) (El vT)}{ms:Array MapEntry}{l:nF}{id:Nat}
theorem HT{z:List Value}(ho:o.op=.mapEntry t m ix)(hu:P.underlying t=some (.map kt et))(hk:K0 P S w kt kT ks q kc)(hze:gQ P et=some z)(hza:Cw P et=some (iD vT))(hz:xo vT=z)(hd:kS vT=true)
  (hI:Inv S K w0 φ H w) (hx:ρ m=.map (some l.bP)) (hkx:ρ ix=nB (iD kT) kc) (hH:H id=some (.mp kT vT mp)) (hl:φ id=some l):
  fL P o ρ S K w0 w φ H n n (.tp (.co (.x vT (lG mp (pV vT) q).2.1) (.co (.x (.i .i64) (lG mp (pV vT) q).2.2) .ni))) [(id,some (.mp kT vT (lG mp (pV vT) q).1))]:=by
 obtain⟨l2,o1,⟨b1,b2,ms,hms,hE⟩,_⟩:=hI.lS id _ hH;obtain rfl:=ac (hl.symm.trans o1);obtain⟨f1,f2⟩:=Cq (P:=P) hk.tk hk.ag hk.kd hk.rt hE;obtain⟨z1,z2⟩:=EU hze hza w;have hck:=hk.Md false w;have tup:∀{w':World}{v:El vT}{vc:List Value}{b:Int},RT S w' vT v vc->(iD vT=false->vc.length=1)->RW S w' φ (.tp (.co (.x vT v) (.co (.x (.i .i64) b) .ni))) (.tuple #[nB (iD vT) vc,goInt b]):=fun h h1=>⟨[_,_],rfl,_,_,rfl,R1.of (v:=.x vT _) h rfl h1,_,_,rfl,⟨[_],rfl,rfl⟩,rfl⟩;unfold lG;cases hf:dx q mp.es 0 with
 |some r=>
  obtain⟨i,e⟩:=r;obtain⟨mm,g1,g2⟩:=f2 _ hf;obtain⟨g3,g4⟩:=hk.Vo g2 (kU hf).2.2;rw[hf]at f1;have hmod:ms.modify i (fun e=>{e with key:=nB (iD kT) kc})=ms:=by apply Array.ext';rw[yo g1,show({mm with key:=nB (iD kT) kc}:MapEntry)=mm by rw[<-g3]];exact Pr g1
  obtain⟨hs,hI'⟩:=hI.yp (m':=mp) hH hl hms hE;obtain⟨c,dd,_,_,p3,p4,p5⟩:=g2;have hdl:iD vT=false->dd.length=1:=fun e1=>by rw[p3.len];have:=z2 e1;rw[<-hz]at this;rw[<-this,(RT.ze (S:=S) (w:=w) hd).len]
  refine⟨.value (.tuple #[mm.val,goInt mm.born]),_,{w with heap:=w.heap.setIfInBounds l.bP (.map ms mp.ce)},?_,.inl rfl,gO.uu hs ?_ hI'⟩
  .have ea:ms[i]?=some mm:=by rw[<-dj];exact g1
   have eb:ms.toList.getD i default=mm:=by simp only[List.getD];rw[g1];rfl
   simp only[execOp,ho,Instr.mapEntry,hx,Sem.run_bind,bT hu,Result.andThen_ok,j9 hms,hkx];rw[show(10000:Nat)=8+9992 from rfl,hck];simp only[fH,eb]at f1;simp only[Result.andThen_ok,Sem.run_bind,f1,ea,fH,Option.getD_some,g4,hmod,mE _ hms,Sem.run_pure]
  .rw [p4,p5];exact tup (p3.mono hs) hdl
 |none=>
  rw[hf]at f1;have hE':kO S w kT vT (mp.es++[(q,pV vT,mp.ce)]) (ms.push {key:=nB (iD kT) kc,val:=nB (iD vT) z,born:=mp.ce}).toList:=by rw[mu];exact hE.push ⟨kc,z,hk.rt,rfl,hz▸RT.ze hd,rfl,rfl⟩
  obtain⟨hs,hI'⟩:=hI.yp (m':=⟨mp.es++[(q,pV vT,mp.ce)],mp.ce+1⟩) hH hl hms hE';refine⟨.value (.tuple #[nB (iD vT) z,goInt mp.ce]),_,{w with heap:=w.heap.setIfInBounds l.bP (.map (ms.push {key:=nB (iD kT) kc,val:=nB (iD vT) z,born:=mp.ce}) (mp.ce+1))},?_,.inl rfl,gO.uu hs ?_ hI'⟩
  .simp only[execOp,ho,Instr.mapEntry,hx,Sem.run_bind,bT hu,Result.andThen_ok,j9 hms,hkx];rw[show(10000:Nat)=8+9992 from rfl,hck];simp only[Result.andThen_ok,Sem.run_bind,f1,ox,z1,mE _ hms,Sem.run_pure]
  .exact tup (hz▸RT.ze hd) z2
theorem Nm{y:El vT}{vc:List Value}(ho:o.op=.mapUpdate t m ix x)(hu:P.underlying t=some (.map kt et))(hk:K0 P S w kt kT ks q kc)
  (hI:Inv S K w0 φ H w) (hx:ρ m=.map (some l.bP)) (hkx:ρ ix=nB (iD kT) kc) (hvx:ρ x=nB (iD vT) vc) (hy:RT S w vT y vc) (hH:H id=some (.mp kT vT mp)) (hl:φ id=some l):
  fL P o ρ S K w0 w φ H n n (.tp .ni) [(id,some (.mp kT vT (wV mp q y)))]:=by
 obtain⟨l2,o1,⟨b1,b2,ms,hms,hE⟩,_⟩:=hI.lS id _ hH;obtain rfl:=ac (hl.symm.trans o1);obtain⟨f1,f2⟩:=Cq (P:=P) hk.tk hk.ag hk.kd hk.rt hE;have hck:=hk.Md false w;unfold wV;cases hf:dx q mp.es 0 with
 |some r=>
  obtain⟨i,e⟩:=r;obtain⟨mm,g1,g2⟩:=f2 _ hf;obtain⟨g3,g4⟩:=hk.Vo g2 (kU hf).2.2;rw[hf]at f1;have hE':kO S w kT vT (mH mp.es i y) (ms.modify i (fun e=>{e with key:=nB (iD kT) kc,val:=ρ x})).toList:=by rw[yo g1];refine hE.put fun e' he'=>?_;obtain⟨_,h5,h6⟩:=kU hf;rw[Nat.sub_zero,he']at h5;obtain rfl:=ac h5;obtain⟨c,dd,p1,p2,p3,p4,p5⟩:=g2;exact⟨kc,vc,by rw[show e'.1=q from h6];exact hk.rt,rfl,hy,hvx,p5⟩
  obtain⟨hs,hI'⟩:=hI.yp (m':=⟨mH mp.es i y,mp.ce⟩) hH hl hms hE';refine⟨.skip,undef,{w with heap:=w.heap.setIfInBounds l.bP _},?_,.inr ⟨rfl,rfl⟩,gO.set hs hI'⟩;have ea:ms[i]?=some mm:=by rw[<-dj];exact g1
  simp only[execOp,ho,Instr.mapUpdate,hx,Sem.run_bind,bT hu,Result.andThen_ok,j9 hms,hkx];rw[show(10000:Nat)=8+9992 from rfl,hck];simp only[fH]at f1;simp only[Result.andThen_ok,Sem.run_bind,f1,ea,fH,Option.getD_some,g4,mE _ hms,Sem.run_pure]
 |none=>
  rw[hf]at f1;have hE':kO S w kT vT (mp.es++[(q,y,mp.ce)]) (ms.push {key:=nB (iD kT) kc,val:=ρ x,born:=mp.ce}).toList:=by rw[mu];exact hE.push ⟨kc,vc,hk.rt,rfl,hy,hvx,rfl⟩
  obtain⟨hs,hI'⟩:=hI.yp (m':=⟨mp.es++[(q,y,mp.ce)],mp.ce+1⟩) hH hl hms hE';refine⟨.skip,undef,{w with heap:=w.heap.setIfInBounds l.bP _},?_,.inr ⟨rfl,rfl⟩,gO.set hs hI'⟩;simp only[execOp,ho,Instr.mapUpdate,hx,Sem.run_bind,bT hu,Result.andThen_ok,j9 hms,hkx];rw[show(10000:Nat)=8+9992 from rfl,hck];simp only[Result.andThen_ok,Sem.run_bind,f1,ox,mE _ hms,Sem.run_pure]
theorem Nn{c:oy}{kt2:TypeId}(ho:o.op=.call c)(hcal:c.callee=.builtin .delete)(hargs:c.args= #[m,ix])(hts:c.argTypes= #[t,kt2])(hu:P.underlying t=some (.map kt et))(hk:K0 P S w kt kT ks q kc)
  (hI:Inv S K w0 φ H w) (hx:ρ m=.map (some l.bP)) (hkx:ρ ix=nB (iD kT) kc) (hH:H id=some (.mp kT vT mp)) (hl:φ id=some l):fL P o ρ S K w0 w φ H n n (.tp .ni) [(id,some (.mp kT vT (wb mp q)))]:=by
 obtain⟨l2,o1,⟨b1,b2,ms,hms,hE⟩,_⟩:=hI.lS id _ hH;obtain rfl:=ac (hl.symm.trans o1);obtain⟨f1,f2⟩:=Cq (P:=P) hk.tk hk.ag hk.kd hk.rt hE;have hck:=hk.Md ms.isEmpty w;unfold wb;cases hf:dx q mp.es 0 with
 |some r=>
  obtain⟨i,e⟩:=r;rw[hf]at f1;have e1:(ms.eraseIdxIfInBounds i).toList=ms.toList.eraseIdx i:=by simp_all
  obtain⟨hs,hI'⟩:=hI.yp (m':=⟨mp.es.eraseIdx i,mp.ce⟩) (ms':=ms.eraseIdxIfInBounds i) hH hl hms (by rw[e1];exact hE.abz);refine⟨.value (.tuple #[]),.tuple #[],{w with heap:=w.heap.setIfInBounds l.bP _},?_,.inl rfl,gO.uu hs ⟨[],rfl,rfl⟩ hI'⟩
  simp only[execOp,ho,hcal,resolve,hargs,Sem.run_bind,Sem.run_pure,Result.andThen_ok,invoke,builtin,Builtin.delete_,hts,gp,a_,gF,hx,hkx,dM,
   dh,eC,bT hu,j9 hms]
  simp only[fH]at f1;rw[show(10000:Nat)=8+9992 from rfl,hck];simp only[Result.andThen_ok,Sem.run_bind,f1,mE _ hms,Sem.run_pure]
 |none=>
  rw[hf]at f1;obtain⟨hs,hI'⟩:=hI.yp (m':=mp) hH hl hms hE;refine⟨.value (.tuple #[]),.tuple #[],{w with heap:=w.heap.setIfInBounds l.bP _},?_,.inl rfl,gO.uu hs ⟨[],rfl,rfl⟩ hI'⟩
  simp only[execOp,ho,hcal,resolve,hargs,Sem.run_bind,Sem.run_pure,Result.andThen_ok,invoke,builtin,Builtin.delete_,hts,gp,a_,gF,hx,hkx,dM,
   dh,eC,bT hu,j9 hms]
  rw[show(10000:Nat)=8+9992 from rfl,hck];simp only[ox]at f1;simp only[Result.andThen_ok,Sem.run_bind,f1,mE _ hms,Sem.run_pure]
theorem Er{st:Operand}{kk:IntKind}{b:Int}{y:El vT}{vc:List Value}{mp':Mp (El kT) (El vT)}(ho:o.op=.entryStore t m st x)(hI:Inv S K w0 φ H w)(hx:ρ m=.map (some l.bP))(hb:ρ st=.int kk b)(hvx:ρ x=nB (iD vT) vc)(hy:RT S w vT y vc)
  (hH:H id=some (.mp kT vT mp)) (hl:φ id=some l) (h:De mp b y=some mp'):fL P o ρ S K w0 w φ H n n (.tp .ni) [(id,some (.mp kT vT mp'))]:=by
 obtain⟨l2,o1,⟨b1,b2,ms,hms,hE⟩,_⟩:=hI.lS id _ hH;obtain rfl:=ac (hl.symm.trans o1);obtain⟨i,hi,rfl⟩:=cg.1 h
 have hfind:∀{es:List (El kT×El vT×Nat)}{ms:List MapEntry},kO S w kT vT es ms->ms.findIdx? (fun e=>(e.born:Int)==b)=es.findIdx? (fun e=>decide ((e.2.2:Int)=b)):=by
  intro es;induction es with
  |nil=>intro ms h;cases ms with|nil=>rfl|cons m ms=>exact h.elim
  |cons e es ih=>intro ms h;cases ms with|nil=>exact h.elim|cons m ms=>obtain⟨_,_,_,_,_,_,h5⟩:=h.1;simp only[List.findIdx?_cons,ih h.2,h5];rfl
 have hlt:i<mp.es.length:=(List.findIdx?_eq_some_iff_getElem.1 hi).1;obtain⟨mm,g1,g2⟩:=hE.get (bf hlt);have hE':kO S w kT vT (mH mp.es i y) (ms.modify i (fun e=>{e with val:=ρ x})).toList:=by rw[yo g1];refine hE.put fun e' he'=>?_;rw[bf hlt]at he';obtain rfl:=ac he';obtain⟨c,dd,p1,p2,p3,p4,p5⟩:=g2;exact⟨c,vc,p1,p2,hy,hvx,p5⟩
 obtain⟨hs,hI'⟩:=hI.yp (m':=⟨mH mp.es i y,mp.ce⟩) hH hl hms hE';refine⟨.skip,undef,{w with heap:=w.heap.setIfInBounds l.bP _},?_,.inr ⟨rfl,rfl⟩,gO.set hs hI'⟩;have hfi2:ms.findIdx? (fun e=>(e.born:Int)==b)=some i:=by rw[<-hi,<-hfind hE,<-List.findIdx?_toArray]
 simp only[execOp,ho,Instr.entryStore,hx,Sem.run_bind,Result.andThen_ok,j9 hms,AG hb,hfi2,mE _ hms,Sem.run_pure]
end
section
variable{P:Program}{S K:Nat->Prop}{w0 w w':World}{φ φ':fM}{H:Hf}{o:Oper}{ρ:Operand->Value}{n:Nat}{h2:H2}{v:V}{l:List Nat}{vs:List V}{d:Option Nat}{as:List Operand}{g:Option (Nat×Bool)}{t0:Ty}{fi:List Nat}{aR:Cu}
theorem SC{t ty:TypeId}{b:BinOp}{x y:Operand}(ho:o.op=.binOp b t x y ty)(hc:∀v,ρ (.const v)=v)(hI:Inv S K w0 φ H w)(hr:Ar S w φ ρ [x,y] vs)(h:wB ⟨⟨d,.Gv b,[x,y],g⟩,t0,fi⟩ vs h2=some (v,l)):fS P o ρ S K w0 w φ H n v:=by
 obtain⟨v1,v2,rfl,h1,h3⟩:=hr.two;have wu:∀{r:Option V}{a c:Value},(match r with|some v=>some (v,([]:List Nat))|none=>none)=some (v,l)->oA v1=some a->oA v2=some c->(∀{v},r=some v->∃y,uC b a c=some y/\oA v=some y)->fS P o ρ S K w0 w φ H n v:=by intro r a c h e1 e2 h4;cases r with|none=>cases h|some v'=>obtain⟨rfl,rfl⟩:=ap (ac h);obtain⟨y,k1,k2⟩:=h4 rfl;exact P8 ho hI h1 h3 e1 e2 k1 k2
 cases v1<;>first|(cases h;done)|skip
 rename_i u a;cases v2<;>first|(cases u<;>cases h;done)|skip
 rename_i u2 c;cases u<;>cases u2<;>first|(cases h;done)|skip
 .exact wu h rfl rfl fun e=>UX e fun hz=>by
   have hz':WN [x,y]=true:=hz;unfold WN at hz';split at hz'
   .rename_i k m e2;obtain⟨_,e2⟩:=aB e2;obtain⟨rfl,_⟩:=aB e2;have h5:=R1.int h3;rw[hc]at h5;cases h5;simpa using hz'
   .cases hz'
 .exact wu h rfl rfl Mn
 .exact wu h rfl rfl I5
theorem Jt{t ty:TypeId}{b:BinOp}{x y:Operand}(ho:o.op=.binOp b t x y ty)(hop:b=.eql\/b=.neq)(hu:P.underlying t=some .bool)(hI:Inv S K w0 φ H w)(hr:Ar S w φ ρ [x,y] vs)(h:wB ⟨⟨d,.DF (b==.neq),as,g⟩,t0,fi⟩ vs h2=some (v,l)):
  fS P o ρ S K w0 w φ H n v:=by
 obtain⟨v1,v2,rfl,h1,h3⟩:=hr.two;change (match tF .b v1,tF .b v2 with|some a,some c=>some (V.x .b (bif b==BinOp.neq then !(a==c)else a==c),([]:List Nat))|_,_=>none)=_ at h;split at h<;>first|(cases h;done)|skip
 rename_i p q e1 e2;obtain⟨rfl,rfl⟩:=ap (ac h);exact Nq ho hop hu hI (IU e1 h1) (IU e2 h3)
theorem EN{t ty:TypeId}{b:BinOp}{x y z:Operand}{kind:Nat}(ho:o.op=.binOp b t x y ty)(hop:b=.eql\/b=.neq)(hu:LC P t kind)(hI:Inv S K w0 φ H w)
  (hc:∀v,ρ (.const v)=v) (hz:(z=x/\w7 kind y=true)\/(z=y/\w7 kind x=true)) (hsh:uE φ h2) (hr:Ar S w φ ρ [z] vs) (h:wB ⟨⟨d,.IK kind (b==.neq),as,g⟩,t0,fi⟩ vs h2=some (v,l)):fS P o ρ S K w0 w φ H n v:=by
 obtain⟨v1,rfl,h1⟩:=hr.one;change (match J9 h2 kind v1 with|some v=>some (bif b==BinOp.neq then Ql v else v,([]:List Nat))|none=>none)=_ at h;split at h<;>first|(cases h;done)|skip
 rename_i r hn;obtain⟨rfl,rfl⟩:=ap (ac h);exact P6 ho hop hu hI hc hz hsh h1 hn
theorem Sy{t ty:TypeId}{b:BinOp}{x y:Operand}{k:Ev.K}{args:List Operand}(ho:o.op=.binOp b t x y ty)(hk:vV P b t x y=(k,args))(hc:∀v,ρ (.const v)=v)(hI:Inv S K w0 φ H w)(hsh:uE φ h2)(hr:Ar S w φ ρ args vs)(h:wB ⟨⟨d,k,args,g⟩,t0,fi⟩ vs h2=some (v,l)):
  fS P o ρ S K w0 w φ H n v:=by
 have fw:(Ev.K.fw,([]:List Operand))=(k,args)->fS P o ρ S K w0 w φ H n v:=by intro e;obtain⟨rfl,rfl⟩:=ap e;cases vs with|nil=>cases h|cons a r=>exact hr.elim
 have plainBin:(Ev.K.Gv b,[x,y])=(k,args)->fS P o ρ S K w0 w φ H n v:=by intro e;obtain⟨rfl,rfl⟩:=ap e;exact SC ho hc hI hr h
 have nilBin:∀kind,(b=.eql\/b=.neq)->LC P t kind->ou kind (b==.neq) x y=(k,args)->fS P o ρ S K w0 w φ H n v:=by
  intro kind hop hu hk;unfold ou at hk;split at hk
  .rename_i hy;obtain⟨rfl,rfl⟩:=ap hk;exact EN ho hop hu hI hc (.inl ⟨rfl,hy⟩) hsh hr h
  .split at hk
   .rename_i hx;obtain⟨rfl,rfl⟩:=ap hk;exact EN ho hop hu hI hc (.inr ⟨rfl,hx⟩) hsh hr h
   .exact fw hk
 have eqs:(b=.eql\/b=.neq)->(match P.underlying t with
  |some .bool=>(Ev.K.DF (b==.neq),[x,y])
  |some (.int _)|some (.float _)|some .string=>(Ev.K.Gv b,[x,y])
  |some (.slice _)=>ou 0 (b==.neq) x y
  |some (.pointer _)=>ou 1 (b==.neq) x y
  |some (.func _ _ _)=>ou 2 (b==.neq) x y
  |some (.struct _)|some (.array _ _)=>match Cd P 8 t with|some ks=>if P.eqGuardType P.depth t=false then(Ev.K.Fo (b==.neq) ks,[x,y])else(Ev.K.fw,[])|none=>(Ev.K.fw,[])
  |_=>(Ev.K.fw,[]))=(k,args)->fS P o ρ S K w0 w φ H n v:=by
  intro hop hk
  have agg:eN P t=some true->(match Cd P 8 t with
   |some ks=>if P.eqGuardType P.depth t=false then(Ev.K.Fo (b==.neq) ks,[x,y])else(Ev.K.fw,[])
   |none=>(Ev.K.fw,[]))=(k,args)->fS P o ρ S K w0 w φ H n v:=by
   intro hag hk;split at hk
   .rename_i hks;split at hk
    .rename_i hg;obtain⟨rfl,rfl⟩:=ap hk;exact MI ho hop hks hag hg hI hr h
    .exact fw hk
   .exact fw hk
  split at hk
  .rename_i hu;obtain⟨rfl,rfl⟩:=ap hk;exact Jt ho hop hu hI hr h
  .exact plainBin hk
  .exact plainBin hk
  .exact plainBin hk
  .rename_i hu;exact nilBin 0 hop ⟨_,hu⟩ hk
  .rename_i hu;exact nilBin 1 hop ⟨_,hu⟩ hk
  .rename_i hu;exact nilBin 2 hop ⟨_,_,_,hu⟩ hk
  .rename_i hu;exact agg (by simp[eN,hu]) hk
  .rename_i hu;exact agg (by simp[eN,hu]) hk
  .exact fw hk
 cases b with|eql=>exact eqs (.inl rfl) hk|neq=>exact eqs (.inr rfl) hk|_=>exact plainBin hk
theorem Ws{t:TypeId}{b:UnOp}{x:Operand}(ho:o.op=.unOp b t x)(hI:Inv S K w0 φ H w)(hr:Ar S w φ ρ [x] vs)(h:wB ⟨⟨d,.un b,as,g⟩,t0,fi⟩ vs h2=some (v,l)):fS P o ρ S K w0 w φ H n v:=by
 obtain⟨v1,rfl,h1⟩:=hr.one;cases b<;>cases v1<;>first|(cases h;done)|skip
 all_goals first
  |(obtain⟨rfl,rfl⟩:=ap (ac h);exact Vv ho hI h1 rfl rfl rfl)
  |(rename_i u a
    cases u<;>first|(cases h;done)|(obtain⟨rfl,rfl⟩:=ap (ac h);exact Vv ho hI h1 rfl rfl rfl))
theorem GS{s t:TypeId}{k k':IntKind}{x:Operand}(ho:o.op=.convert s t x)(hs:P.underlying s=some (.int k'))(hd:P.underlying t=some (.int k))(hI:Inv S K w0 φ H w)(hr:Ar S w φ ρ [x] vs)(h:wB ⟨⟨d,.Cr k,as,g⟩,t0,fi⟩ vs h2=some (v,l)):
  fS P o ρ S K w0 w φ H n v:=by
 obtain⟨v1,rfl,h1⟩:=hr.one;cases v1<;>first|(cases h;done)|skip
 rename_i u a;cases u<;>first|(cases h;done)|skip
 obtain⟨rfl,rfl⟩:=ap (ac h);exact fL.pure (val:=.int k (wr k a)) hI (by simp[execOp,ho,R1.int h1,convert,bT hs,bT hd,Conv.intToInt]) (R1.wC (v:=.x (.i k) _) rfl rfl).rw
theorem MJ{s t:TypeId}{k':IntKind}{k:FloatKind}{x:Operand}(ho:o.op=.convert s t x)(hs:P.underlying s=some (.int k'))(hd:P.underlying t=some (.float k))(hI:Inv S K w0 φ H w)(hr:Ar S w φ ρ [x] vs)(h:wB ⟨⟨d,.Ma k,as,g⟩,t0,fi⟩ vs h2=some (v,l)):
  fS P o ρ S K w0 w φ H n v:=by
 obtain⟨v1,rfl,h1⟩:=hr.one;cases v1<;>first|(cases h;done)|skip
 rename_i u a;cases u<;>first|(cases h;done)|skip
 obtain⟨rfl,rfl⟩:=ap (ac h);exact fL.pure (val:=.float k (k.nearest a)) hI (by simp[execOp,ho,R1.int h1,convert,bT hs,bT hd,Conv.intToFloat]) (yY (v:=.x (.f k) _) rfl (.lit rfl)).rw
theorem FB{s t:TypeId}{x:Operand}(ho:o.op=.convert s t x)(hs:P.underlying s=some .string)(hd:P.underlying t=some .string)(hI:Inv S K w0 φ H w)(hr:Ar S w φ ρ [x] vs)(h:wB ⟨⟨d,.Aa,as,g⟩,t0,fi⟩ vs h2=some (v,l)):fS P o ρ S K w0 w φ H n v:=by
 obtain⟨v1,rfl,h1⟩:=hr.one;cases v1<;>first|(cases h;done)|skip
 rename_i u a;cases u<;>first|(cases h;done)|skip
 obtain⟨rfl,rfl⟩:=ap (ac h);have e:=rM (v:=.x .s a) rfl h1;exact fL.pure (val:=.string a) hI (by simp[execOp,ho,e,convert,bT hs,bT hd]) (R1.wC (v:=.x .s a) rfl rfl).rw
theorem GQ{t:TypeId}{x:Operand}{gg:Bool}{m:Nat}(ho:o.op=.load t x)(hag:eN P t=some gg)(hs:dG P t=some m)(hI:Inv S K w0 φ H w)(hr:Ar S w φ ρ [x] vs)(ha:∀i∈l,H i=fO h2 i)
  (h:wB ⟨⟨d,.load gg m,as,g⟩,t0,fi⟩ vs h2=some (v,l)):fS P o ρ S K w0 w φ H n v:=by
 obtain⟨v1,rfl,h1⟩:=hr.one;change (match zL h2 v1 with|some (w,l)=>bif Jn h2 gg m w then some (w,l)else none|none=>none)=_ at h;split at h<;>first|(cases h;done)|skip
 rename_i y l' hl;cases e:Jn h2 gg m y<;>rw[e]at h
 .cases h
 obtain⟨rfl,rfl⟩:=ap (ac h);exact Tf ho hag hs hI h1 hl e ha
theorem Js{t kt et:TypeId}{ka va ok:Bool}{ks:List Kd}{z:List Value}{m ix:Operand}(ho:o.op=.lookup t m ix ok)(hu:P.underlying t=some (.map kt et))(hm:BA P kt et=some (ka,ks,va,z))(hI:Inv S K w0 φ H w)(hr:Ar S w φ ρ [m,ix] vs)
  (ha:∀i∈l,H i=fO h2 i) (h:wB ⟨⟨d,.lookup ka ks va z ok,as,g⟩,t0,fi⟩ vs h2=some (v,l)):fS P o ρ S K w0 w φ H n v:=by
 obtain⟨v1,v2,rfl,h1,h3⟩:=hr.two;have hM:=xC hm;cases v1<;>first|(cases h;done)|skip
 rename_i id
 change (match Qv h2 (.om id)with
  |some ⟨kt,vt,mp,l⟩=>(match tF kt v2 with
   |some k=>bif(iD kt==ka)&&(iD vt==va)&&decide (AV kt=some ks)&&tq (xo vt) z&&kS vt&&(va||df vt==1)then
     some (bif ok then V.tp (.co (.x vt (kp mp (pV vt) k)) (.co (.x .b (Df mp k)) .ni))else .x vt (kp mp (pV vt) k),l)else none
   |none=>none)
  |none=>none)=_ at h
 split at h<;>first|(cases h;done)|skip
 rename_i kT vT mp l' hmv;split at h<;>first|(cases h;done)|skip
 rename_i q hq;simp only[Qv]at hmv;split at hmv<;>first|(cases hmv;done)|skip
 rename_i kT' vT' mp' hob;obtain⟨rfl,hmv⟩:=fN (ac hmv);obtain⟨rfl,hmv⟩:=fN (eq_of_heq hmv);obtain⟨rfl,rfl⟩:=ap (eq_of_heq hmv);cases e:((iD kT'==ka)&&(iD vT'==va)&&decide (AV kT'=some ks)&&tq (xo vT') z&&kS vT'&&(va||df vT'==1))<;>rw[e]at h
 .cases h
 obtain⟨rfl,rfl⟩:=ap (ac h);simp only[aw,beq_iff_eq,decide_eq_true_eq]at e;obtain⟨⟨⟨⟨⟨rfl,rfl⟩,e3⟩,e4⟩,e5⟩,_⟩:=e;obtain⟨kc,c1,c2,_⟩:=r_ hq h3;obtain⟨lo,k1,k2⟩:=R1.fT h1;obtain⟨lo2,o1,⟨_,_,ms,q1,q2⟩,_⟩:=hI.lS id _ ((ha id (by simp)).trans hob);obtain rfl:=ac (k1.symm.trans o1);exact Np (r:=some lo.bP) ho hu hM e3 (vf e4) e5 hI (aB k2).1 q1 q2 c1 c2
end
section
variable{P:Program}{S K:Nat->Prop}{w0 w w':World}{φ φ':fM}{H:Hf}{o:Oper}{ρ:Operand->Value}{n:Nat}{h2:H2}{v:V}{l:List Nat}{vs:List V}{d:Option Nat}{as:List Operand}{g:Option (Nat×Bool)}{t0:Ty}{fi:List Nat}{aR:Cu}{k:Ev.K}{args:List Operand}
theorem xA{α:Type}{x:Array α}{y:α}(h:x.toList=[y]):x= #[y]:=by rw[<-jY (xs:=x),h]
theorem uI{α:Type}{x:Array α}{y z:α}(h:x.toList=[y,z]):x= #[y,z]:=by rw[<-jY (xs:=x),h]
theorem OZ{t kt et:TypeId}{x:Operand}{c:oy}(ho:o.op=.call c)(hcal:c.callee=.builtin .len)(hargs:c.args= #[x])(hts:c.argTypes= #[t])(hu:P.underlying t=some (.map kt et))(hI:Inv S K w0 φ H w)(hr:Ar S w φ ρ [x] vs)(ha:∀i∈l,H i=fO h2 i)(h:wB ⟨⟨d,.Km,as,g⟩,t0,fi⟩ vs h2=some (v,l)):
  fS P o ρ S K w0 w φ H n v:=by
 obtain⟨v0,rfl,hx⟩:=hr.one;cases v0<;>first|(cases h;done)|skip
 .rename_i k
  match k,h,hx with|3,h,hx=>obtain⟨rfl,rfl⟩:=ap (ac h);have e:ρ x=.map none:=(aB (R1.fT (v:=.nl 3) hx)).1;refine fL.pure (val:=.int .i64 0) hI ?_ (R1.rw (R1.wC rfl rfl));simp[execOp,ho,hcal,hargs,hts,resolve,invoke,builtin,e,Builtin.len_,bT hu,goInt]
 .rename_i id;change (match fO h2 id with|some (.mp _ _ m)=>some (V.x (.i .i64) (m.es.length:Int),[id])|_=>none)=_ at h;split at h<;>first|(cases h;done)|skip
  rename_i kT vT m hm;obtain⟨rfl,rfl⟩:=ap (ac h);obtain⟨l1,k1,k2⟩:=R1.fT (v:=.om id) hx;have e:ρ x=.map (some l1.bP):=(aB k2).1;obtain⟨l2,o1,⟨_,_,ms,hms,hE⟩,_⟩:=hI.lS id _ ((ha id (by simp)).trans hm);obtain rfl:=ac (k1.symm.trans o1);have hl:=hE.len;refine fL.pure (val:=.int .i64 (m.es.length:Int)) hI ?_ (R1.rw (R1.wC rfl rfl));have hg:=j9 (P:=P) hms;simp[execOp,ho,hcal,hargs,hts,resolve,invoke,builtin,e,Builtin.len_,bT hu,goInt,hg,hl]
theorem QF{a b:V}{q:List V}{h:H2}{o:Cc}(he:wB ⟨{o with k:=.Km},t0,fi⟩ (a::b::q) h=some (v,l)):False:=by
 cases a<;>first|(cases he;done)|skip
 rename_i k;rcases k with _|_|_|_|k<;>cases he
theorem GT{b:Builtin}{c:oy}(ho:o.op=.call c)(hcal:c.callee=.builtin b)(hk:jR P b c.args.toList c.argTypes.toList=(k,args))(hI:Inv S K w0 φ H w)(hsh:uE φ h2)(hr:Ar S w φ ρ args vs)(ha:∀i∈l,H i=fO h2 i)
  (h:wB ⟨⟨d,k,args,g⟩,t0,fi⟩ vs h2=some (v,l)):fS P o ρ S K w0 w φ H n v:=by
 have lenC:∀{str:Bool}{t:TypeId},c.argTypes.toList=[t]->(if str then P.underlying t=some .string else∃b,P.underlying t=some (.slice b))->b=.len->(Ev.K.len str,c.args.toList)=(k,args)->fS P o ρ S K w0 w φ H n v:=by
  intro str t ht hu hb e;obtain⟨rfl,rfl⟩:=ap e;subst hb
  have:∃x,c.args.toList=[x]:=by
   generalize c.args.toList=la at hr
   match la,vs,hr,h with
   |[x],_,_,_=>exact⟨x,rfl⟩
   |[],[],_,h=>cases str<;>cases h
   |x::y::r,a::b::q,_,h=>cases str<;>cases a<;>first|(cases h;done)|(rename_i kk _;cases kk<;>cases h;done)|(rename_i u _ _;cases u<;>cases h)
  obtain⟨x,hx⟩:=this;rw[hx]at hr;exact Sv ho hcal (xA hx) (xA ht) hu hI hsh hr h
 unfold jR at hk;split at hk
 .rename_i t hts;split at hk
  .rename_i hu;exact lenC (str:=true) hts hu rfl hk
  .rename_i hu;exact lenC (str:=false) hts ⟨_,hu⟩ rfl hk
  .rename_i hu;obtain⟨rfl,rfl⟩:=ap hk
   obtain⟨x,hx⟩:∃x,c.args.toList=[x]:=by
    generalize c.args.toList=la at hr
    match la,vs,hr,h with|[x],_,_,_=>exact⟨x,rfl⟩|[],[],_,h=>cases h|x::y::r,a::b::q,_,h=>exact(QF (o:=⟨d,.Km,_,g⟩) h).elim
   rw[hx]at hr;exact OZ ho hcal (xA hx) (xA hts) hu hI hr ha h
  .obtain ⟨rfl,rfl⟩:=ap hk;cases h
 .obtain ⟨rfl,rfl⟩:=ap hk;exact CD (m:=true) ho hcal hI hr h
 .obtain ⟨rfl,rfl⟩:=ap hk;exact CD (m:=false) ho hcal hI hr h
 all_goals
  (repeat' split at hk)<;>(obtain⟨rfl,rfl⟩:=ap hk;cases h)
theorem Sx{t el:TypeId}{sz:Nat}{x y:Operand}(ho:o.op=.indexAddr t x y)(hu:P.underlying t=some (.slice el))(hsz:dG P el=some sz)(hI:Inv S K w0 φ H w)(hr:Ar S w φ ρ [x,y] vs)(h:wB ⟨⟨d,.ixB sz,as,g⟩,t0,fi⟩ vs h2=some (v,l)):fS P o ρ S K w0 w φ H n v:=by
 obtain⟨v1,v2,rfl,h1,h3⟩:=hr.two;cases v1<;>first|(cases h;done)|skip
 rename_i id t1;cases v2<;>first|(cases t1<;>cases h;done)|skip
 rename_i u2 i;cases t1<;>first|(cases u2<;>cases h;done)|skip
 rename_i u;cases u2<;>first|(cases h;done)|skip
 rename_i kk;change (match Ey u (i:Int).toNat with|some _=>bif decide (0<=(i:Int))&&gE (i:Int).toNat (GN u)&&(D6 u (i:Int).toNat==(i:Int).toNat*sz)then some (V.op id (.st u) [.fd (i:Int).toNat],([]:List Nat))else none|none=>none)=_ at h;split at h<;>first|(cases h;done)|skip
 rename_i u3 hf;cases e:(decide (0<=(i:Int))&&gE (i:Int).toNat (GN u)&&(D6 u (i:Int).toNat==(i:Int).toNat*sz))<;>rw[e]at h
 .cases h
 cases h;simp only[aw,decide_eq_true_eq,eA,beq_iff_eq]at e;obtain⟨l1,k1,k2,k3⟩:=R1.fT (v:=.vs id (.st u)) h1;have hlt:(i:Int)<(GN u:Nat):=(show∀j:Int,0<=j->j.toNat<GN u->j<(GN u:Nat)by omega) i e.1.1 e.1.2;have hex:=zW (P:=P) (w:=w) ho hu hsz (R1.int h3) (aB k3).1 e.1.1 hlt;rw[cT]at hex;refine fL.pure hI hex (R1.rw (R1.wC ⟨l1,k1,k2,⟨u3,hf,?_⟩,?_⟩ rfl))
 .cases u3<;>trivial
 .have e0:∀t:Ty,wm t []=0:=fun t=>by cases t<;>rfl
  simp only[wm,hf,e0,gd,e.2]
theorem EM(hk:yg P aR o.op=(k,args))(hc:∀v,ρ (.const v)=v)(hI:Inv S K w0 φ H w)(hsh:uE φ h2)(hr:Ar S w φ ρ args vs)(ha:∀i∈l,H i=fO h2 i)(hp:yG k=false)(h:wB ⟨⟨d,k,args,g⟩,t0,fi⟩ vs h2=some (v,l)):
  fS P o ρ S K w0 w φ H n v:=by
 have fw:(Ev.K.fw,([]:List Operand))=(k,args)->fS P o ρ S K w0 w φ H n v:=by intro e;obtain⟨rfl,rfl⟩:=ap e;cases h
 have mv:∀{x:Operand},(o.op=.move x\/o.op=.assign x)->(Ev.K.mv,[x])=(k,args)->fS P o ρ S K w0 w φ H n v:=by intro x ho e;obtain⟨rfl,rfl⟩:=ap e;obtain⟨v0,rfl,hx⟩:=hr.one;obtain⟨rfl,rfl⟩:=ap (ac h);exact fL.pure hI (by rcases ho with ho|ho<;>simp[execOp,ho]) hx
 generalize hop:o.op=op at hk;unfold yg at hk;split at hk
 .exact mv (.inl hop) hk
 .exact mv (.inr hop) hk
 .obtain ⟨rfl,rfl⟩:=ap hk;cases hp
 .split at hk<;>(obtain⟨rfl,rfl⟩:=ap hk;cases h)
 .obtain ⟨rfl,rfl⟩:=ap hk;cases h
 .split at hk
  .rename_i hu hz;split at hk
   .rename_i hpl;split at hk
    .rename_i hall;obtain⟨rfl,rfl⟩:=ap hk;exact EO hop hz (.inl ⟨_,hu,hpl,hall⟩) hI hr h
    .exact fw hk
   .exact fw hk
  .rename_i hu hz;split at hk
   .rename_i hs;obtain⟨rfl,rfl⟩:=ap hk;exact EO hop hz (.inr ⟨_,_,_,hu,hs,rfl⟩) hI hr h
   .exact fw hk
  .exact fw hk
 .skip;(repeat' split at hk)<;>(obtain⟨rfl,rfl⟩:=ap hk;cases h)
 .split at hk
  .rename_i hag hs;split at hk
   .rename_i hcc;obtain⟨rfl,rfl⟩:=ap hk;obtain⟨_,_,rfl,rfl⟩:=hcc;refine GQ (d:=d) (as:=[]) (g:=g) (t0:=t0) (fi:=fi) (h2:=h2) hop hag hs hI hr ha ?_;obtain⟨v1,rfl,_⟩:=hr.one;exact h
   .obtain ⟨rfl,rfl⟩:=ap hk;exact GQ hop hag hs hI hr ha h
  .exact fw hk
 .split at hk<;>(obtain⟨rfl,rfl⟩:=ap hk;cases h)
 .obtain ⟨rfl,rfl⟩:=ap hk;exact FA hop hI hr h
 .exact Sy hop hk hc hI hsh hr h
 .obtain ⟨rfl,rfl⟩:=ap hk;exact Ws hop hI hr h
 .split at hk
  .rename_i hs hd;obtain⟨rfl,rfl⟩:=ap hk;exact GS hop hs hd hI hr h
  .rename_i hs hd;obtain⟨rfl,rfl⟩:=ap hk;exact MJ hop hs hd hI hr h
  .rename_i hs hd;obtain⟨rfl,rfl⟩:=ap hk;exact FB hop hs hd hI hr h
  .exact fw hk
 .split at hk
  .rename_i hf;obtain⟨rfl,rfl⟩:=ap hk;exact OY hop hf hI hr h
  .exact fw hk
 .split at hk
  .split at hk
   .split at hk
    .split at hk<;>(obtain⟨rfl,rfl⟩:=ap hk;cases h)
    .exact fw hk
   .exact fw hk
  .exact fw hk
 .skip;(repeat' split at hk)<;>(obtain⟨rfl,rfl⟩:=ap hk;cases h)
 .skip;(repeat' split at hk)<;>(obtain⟨rfl,rfl⟩:=ap hk;cases h)
 .split at hk
  .rename_i hu;split at hk
   .rename_i hf;split at hk
    .rename_i m hs;obtain⟨rfl,rfl⟩:=ap hk;obtain⟨v1,rfl,h1⟩:=hr.one
     match fi,h with
     |[i],h=>
      change (match Kx _ (m+1) i v1 with|some w=>some (w,([]:List Nat))|none=>none)=_ at h;split at h<;>first|(cases h;done)|skip
      rename_i r hfl;obtain⟨rfl,rfl⟩:=ap (ac h);exact FY hop hu hf hs hI h1 hfl
    .exact fw hk
   .exact fw hk
  .exact fw hk
 .split at hk
  .rename_i hu;split at hk
   .rename_i hf;split at hk
    .rename_i hag hs;obtain⟨rfl,rfl⟩:=ap hk;exact MH hop hu hf hag hs hI hr h
    .exact fw hk
   .exact fw hk
  .exact fw hk
 .split at hk
  .rename_i hu;split at hk
   .rename_i hs;split at hk
    .obtain ⟨rfl,rfl⟩:=ap hk;exact Sx hop hu hs hI hr h
    .obtain ⟨rfl,rfl⟩:=ap hk;cases h
   .exact fw hk
  .skip;(repeat' split at hk)<;>(obtain⟨rfl,rfl⟩:=ap hk;cases h)
  .exact fw hk
 .skip;(repeat' split at hk)<;>(obtain⟨rfl,rfl⟩:=ap hk;cases h)
 .obtain ⟨rfl,rfl⟩:=ap hk;exact GR hop hI hr h
 .skip;(repeat' split at hk)<;>(obtain⟨rfl,rfl⟩:=ap hk;cases h)
 .split at hk
  .rename_i hu;split at hk
   .rename_i hm;obtain⟨rfl,rfl⟩:=ap hk;exact Js hop hu hm hI hr ha h
   .exact fw hk
  .exact fw hk
 .skip;(repeat' split at hk)<;>(obtain⟨rfl,rfl⟩:=ap hk;cases h)
 .skip;(repeat' split at hk)<;>(obtain⟨rfl,rfl⟩:=ap hk;cases h)
 .skip;(repeat' split at hk)<;>(obtain⟨rfl,rfl⟩:=ap hk;cases h)
 .rename_i c;split at hk
  .rename_i hcal;exact GT hop hcal hk hI hsh hr ha h
  .skip;(repeat' split at hk)<;>(obtain⟨rfl,rfl⟩:=ap hk;cases h)
  .obtain ⟨rfl,rfl⟩:=ap hk;cases h
  .exact fw hk
 .exact fw hk
end
end Go.Ev
