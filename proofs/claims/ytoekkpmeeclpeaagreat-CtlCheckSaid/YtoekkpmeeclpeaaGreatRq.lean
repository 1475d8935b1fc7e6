/- A runner for more: parts that are held on to, what is gone, a mark for each function. Conditions: the program's mark for mixed orders. -/
import Derived.Test.YtoekkpmeeclpeaaGreatKr
import Derived.Test.YtoekkpmeeclpeaaGreatEvW
open Array renaming replicate->kJ
open List renaming flatMap_append->fF
open Option.some renaming inj->aa
open Prod.mk renaming inj->af
namespace Go.Ev
def TA(s:St)(t:Nat):St:=match bV s.cW t with
 |some (.c (.fx sz id off len))=>if off=0 then s else match Go.Ev.au s.heap id with|some (.aG _ rows)=>if off+len<=rows.length then⟨(t,.c (.fx sz s.next 0 len))::s.cW,(id,none)::(s.next,some (.aG sz ((rows.drop off).take len)))::s.heap,s.next+1,s.gh⟩else s|_=>s
 |_=>s
def Om(l:List Nat)(s:St):St:=Pp (l.foldl TA s)
theorem Ol(s:St)(t:Nat):Sub s (TA s t):=by
 unfold TA;split
 .rename_i h1;split
  .exact Sub.refl _
  .split
   .rename_i h2;split
    .rename_i h3;exact IF h1 h2 rfl h3
    .exact Sub.refl _
   .exact Sub.refl _
 .exact Sub.refl _
theorem AU(l:List Nat)(s:St):Sub s (Om l s):=by unfold Om;refine Sub.trans ?_ (L5 _);induction l generalizing s with|nil=>exact Sub.refl _|cons t l ih=>exact(Ol s t).trans (ih _)
def tZ(h:bp):List Nat->List C->List T×List Nat
 |_,[]=>([],[])
 |seen,c::cs=>match dE h 300 c with|some (t,o,_)=>if o.any seen.contains then(.tF::(tZ h seen cs).1,(tZ h seen cs).2)else(t::(tZ h (o++seen) cs).1,o++(tZ h (o++seen) cs).2)|none=>(.tF::(tZ h seen cs).1,(tZ h seen cs).2)
def Do(jJ:List RV)(s:St):Option (List R×List T):=
 match dD (jJ.map (wA s))with
 |none=>none
 |some vs=>match t7 s.heap vs with|some (rs,a)=>if(a++(tZ s.heap a s.gh).2).Nodup then some (rs,(tZ s.heap a s.gh).1)else none|none=>none
theorem PT{h:bp}:∀(cs:List C)(seen:List Nat),vy h cs (tZ h seen cs).1 (tZ h seen cs).2:=by
 intro cs;induction cs with
 |nil=>intro seen;exact .nil
 |cons c cs ih=>
  intro seen;simp only[tZ];split
  .rename_i hc;split
   .exact .tF (ih _)
   .exact .cons hc (ih _)
  .exact .tF (ih _)
theorem Ay{jJ:List RV}{s:St}{rs:List R}{outs:List T}(h:Do jJ s=some (rs,outs)):tf jJ s rs outs:=by
 unfold Do at h;split at h
 .cases h
 rename_i vs hv;split at h
 .rename_i r0 a hp;split at h
  .rename_i hn;obtain⟨rfl,rfl⟩:=af (aa h);exact⟨vs,a,_,hv,hp,PT _ _,hn⟩
  .cases h
 .cases h
def Ji(td:St->St)(f:St->Option (rD×St)):Nat->St->Option (rD×St)
 |0,_=>none
 |n+1,s=>match f s with|some (.normal,s')=>Ji td f n (td s')|r=>r
def vd(td:St->St)(call:Call):CC->St->Option (rD×St)
 |.skip,s=>some (.normal,s)
 |.region ops _,s=>match AM call ops s with|some s'=>some (.normal,s')|none=>none
 |.drawn ops dyn _,s=>match mO (fun _=>call) s.next ops 0 s.cW s.heap with|some (e,h,tr)=>if AR tr dyn=true then some (.normal,⟨e,h,s.next+ig*ops.length,s.gh⟩)else none|none=>none
 |.seq a b,s=>match vd td call a s with|some (.normal,s')=>vd td call b s'|r=>r
 |.cond c a b,s=>match kz s.cW c with|some (.c (.d (.lit (.bool true))))=>vd td call a s|some (.c (.d (.lit (.bool false))))=>vd td call b s|_=>none
 |.block id a,s=>match vd td call a s with|some (.exit id',s')=>if id'=id then some (.normal,s')else some (.exit id',s')|r=>r
 |.loop _ a,s=>Ji td (vd td call a) 10000000 s
 |.exit id,s=>some (.exit id,s)
 |.ret,s=>some (.ret,s)
 |.fL,_=>none
def Ms(P:Program)(sg:Nat->xp)(cu:Nat->List Nat)(ex:Call):Nat->Call
 |0=>fun _ _=>none
 |d+1=>fun f as=>match ex f as with
  |some r=>some r
  |none=>match v6 P (sg f) f as.length with
   |some F=>match vd (Om (cu f)) (Ms P sg cu ex d) F.body (jw as)with|some (.exit _,_)=>none|some (_,s')=>if s'.gh.length=(jw as).gh.length then Do F.jJ s' else none|none=>none
   |none=>none
section
variable{P:Program}{bM:xp}{call:Call}
theorem vM{td:St->St}(htd:∀s,Sub s (td s))(hok:fg P call):∀(c:CC)(s s':St)(o:rD)(Q:rD->St->Prop),vd td call c s=some (o,s')->Q o s'->W P c s Q:=by
 intro c;induction c with
 |skip=>intro s s' o Q h hq;obtain⟨rfl,rfl⟩:=af (aa h);exact .of hq
 |region ops lK=>
  intro s s' o Q h hq;simp only[vd]at h;split at h
  .rename_i s1 he;obtain⟨rfl,rfl⟩:=af (aa h);exact Ho hok ops s s1 he (.of hq)
  .cases h
 |drawn ops dyn lK=>
  intro s s' o Q h hq;simp only[vd]at h;split at h
  .rename_i e hp tr he;split at h
   .rename_i hd;obtain⟨rfl,rfl⟩:=af (aa h);exact⟨s,Sub.refl s,fun _=>call,e,hp,tr,fun _=>hok,he,hd,.of hq⟩
   .cases h
  .cases h
 |seq a b iha ihb=>
  intro s s' o Q h hq;simp only[vd]at h;split at h
  .rename_i s1 he;exact iha _ _ _ _ he (ihb _ _ _ _ h hq)
  .rename_i hn;refine iha _ _ _ _ h ?_;cases o with|normal=>exact absurd h (hn _)|exit id=>exact hq|ret=>exact hq
 |cond x a b iha ihb=>
  intro s s' o Q h hq;simp only[vd]at h;refine⟨s,Sub.refl s,?_⟩;split at h
  .rename_i he;exact⟨true,he,fun _=>iha _ _ _ _ h hq,fun e=>by cases e⟩
  .rename_i he;exact⟨false,he,(fun e=>by cases e),fun _=>ihb _ _ _ _ h hq⟩
  .cases h
 |block id a iha=>
  intro s s' o Q h hq;simp only[vd]at h;split at h
  .rename_i id' s1 he;refine iha _ _ _ _ he ?_;show if id'=id then Q .normal s1 else Q (.exit id') s1;split at h
   .rename_i e;obtain⟨rfl,rfl⟩:=af (aa h);rw[if_pos e];exact hq
   .rename_i e;obtain⟨rfl,rfl⟩:=af (aa h);rw[if_neg e];exact hq
  .rename_i hn;refine iha _ _ _ _ h ?_;cases o with|normal=>exact hq|exit id=>exact absurd h (hn _ _)|ret=>exact hq
 |loop lK a iha=>
  intro s s' o Q h hq;refine⟨fun n s=>∃o s',Ji td (vd td call a) n s=some (o,s')/\Q o s',10000000,.of ⟨o,s',h,hq⟩,fun n s hI=>?_⟩;obtain⟨o,s',hI,hq⟩:=hI;cases n with
  |zero=>cases hI
  |succ n=>
   simp only[Ji]at hI;split at hI
   .rename_i s1 he;exact iha _ _ _ _ he ⟨n,Nat.lt_succ_self n,td s1,htd s1,o,s',hI,hq⟩
   .rename_i hn;refine iha _ _ _ _ hI ?_;cases o with|normal=>exact absurd hI (hn _)|exit id=>exact hq|ret=>exact hq
 |exit id=>intro s s' o Q h hq;obtain⟨rfl,rfl⟩:=af (aa h);exact .of hq
 |ret=>intro s s' o Q h hq;obtain⟨rfl,rfl⟩:=af (aa h);exact .of hq
 |fL=>intro s s' o Q h hq;cases h
theorem IN{sg:Nat->xp}{cu:Nat->List Nat}{ex:Call}(hm:P.follows .mixedOrders=true)(hx:fg P ex):∀d,fg P (Ms P sg cu ex d):=by
 intro d;induction d with
 |zero=>intro f as rs outs h;cases h
 |succ d ih=>
  intro f as rs outs h;simp only[Ms]at h;split at h
  .rename_i r hr;obtain rfl:=aa h;exact hx _ _ _ _ hr
  split at h
  .rename_i F hF
   have hnp:as.length=F.np:=by
    have hF2:=hF;unfold v6 at hF2;split at hF2
    .cases hF2
    split at hF2
    .cases hF2
    split at hF2
    .split at hF2
     .obtain rfl:=aa hF2;rfl
     .cases hF2
    .cases hF2
   refine Jw (m:=[]) hm hF ⟨hnp,?_⟩;split at h
   .cases h
   .rename_i o s' hn he;split at h
    .rename_i hg;refine vM (AU _) ih _ _ _ _ _ he ?_;cases o with|exit id=>exact(hn _ rfl).elim|normal=>exact .of ⟨hg,rs,Ay h,rfl⟩|ret=>exact .of ⟨hg,rs,Ay h,rfl⟩
    .cases h
   .cases h
  .cases h
theorem NW{f:Nat}{g:Func}{code:Code}{jJ:List RV}{as:List A}{rs:List R}{outs:List T}{m:List Bool}(hg:P.funcs[f]?=some g)(hb:g.body=some code)(hname:(g.name== "runtime.NumGoroutine")=false)(hnp:as.length<=g.ntmps)
  (hrv:zW P g.results.toList=some jJ)
  (h:∀(S K:Nat->Prop)(w0:World)(Kn:Nat->Prop)(φ:Nat->gj)(gv:List Value)(a:Act)(w:World),Bl S K w0 Kn φ gv g.ntmps (jw as) a w->code.wp P (xq S K w0 w gv g.ntmps (DX jJ m (jw as).gh.length rs outs)) a w):xw P f as rs outs:=by
 intro S w vs fp hlt hargs hnd hfp hglob;left;refine⟨f,vs.toArray,?_,?_⟩
 .simp [callFunc,run_program,hg,hb];intro e;rw[e]at hname;simp at hname
 refine calls_of_wp hg hb ?_;have hI0:Inv S (fun b=>b<w.heap.size/\b∉fp/\¬S b) w (fun _=>False) (fun _=>default) (au []) w:=by refine⟨hlt,fun b hb h=>h.2.2 hb,⟨fun b hb=>hb.1,fun _ _=>rfl,Nat.le_refl _,fun _ _=>rfl,fun b aG ho=>⟨aG,ho,rfl⟩,Io.refl _⟩,fun id o ho=>by simp[au,bV]at ho,fun i j a b ha=>by simp[au,bV]at ha,hglob,fun i sz sl k x hi=>by simp[au,bV]at hi⟩
 obtain⟨φ,hL,q1,q2,q3,q4⟩:=yN as (S:=S) (K:=fun b=>b<w.heap.size/\b∉fp/\¬S b) (w0:=w) (w:=w) (Kn:=fun _=>False) (φ:=fun _=>default) (hf:=au []) vs fp 0 0 hI0 (fun _ _ h=>h) hargs hnd
  (fun b hb=>⟨hfp b hb,fun h=>h.2.1 hb⟩) (fun j o ho=>by simp[au,bV]at ho)
 unfold jw at h;generalize hen:enter as 0 0=en at h hL q1 q2 q3;obtain⟨e,hp,n,lent⟩:=en;simp only at h hL q1 q2 q3
 have hRel:Bl S (fun b=>b<w.heap.size/\b∉fp/\¬S b) w (po (fun _=>False) 0 n) φ (kT as vs) g.ntmps ⟨e,hp,n,lent⟩
   {tmps:=vs.toArray++kJ (g.ntmps-vs.toArray.size) undef,defers:=[]} w:=by
  refine⟨?_,fun t x hx=>?_,?_,rfl,fun j hj hk=>?_,fun i c v h1 h2=>.inr (q2 i c v h1 h2)⟩
  .have:au hp=bf hp (au []):=by rw[<-fH,List.append_nil]
   rw[this];exact hL.inv
  .obtain ⟨_,v,hv,hr⟩:=q1 t x hx;have hv':vs[t]?=some v:=by simpa using hv
   have:(vs.toArray++kJ (g.ntmps-vs.toArray.size) undef).getD t undef=v:=by have ht:t<vs.length:=(List.getElem?_eq_some_iff.1 hv').1;rw[Array.getD_eq_getD_getElem?,Array.getElem?_append_left (by simpa using ht)];simp[hv']
   simp only[this];exact hr
  .simp;omega
  .rcases hk with hk|hk
   .exact hk
   .have:n<=j:=hj;omega
 refine wp_mono (h _ _ _ _ _ _ _ _ hRel) fun ex a' w' hp=>?_;obtain⟨o,s',hl,rfl,S',Kn',φ',hs,hR⟩:=hp
 have main:∀(s':St)(rs:List R)(S' Kn':Nat->Prop)(φ':Nat->gj),gy S w S' w'->Bl S' (fun b=>b<w.heap.size/\b∉fp/\¬S b) w Kn' φ' (kT as vs) g.ntmps s' a' w'->s'.gh.length=lent.length->tf jJ s' rs outs->
   a'.defers=[]/\∃v,(results g a'.tmps).run P w'=.ok v w'/\∃v',Ending.returned v=Ending.returned v'/\Left S w fp rs outs (kT as vs) v' w':=by
  intro s' rs S' Kn' φ' hs hR hgl hlv;obtain⟨tvs,oa,ob,htv,hpr,hpc,hnod⟩:=hlv;obtain⟨rv,p1,p2,p3⟩:=vp hR.inv hR.cW _ _ _ hrv htv;obtain⟨r1,r2⟩:=wF hR.inv tvs rv rs oa hpr p2 p3;obtain⟨t1,t2⟩:=yC hR.inv hpc (kT as vs) (hgl.trans q3) hR.gh
  have hown:∀i∈oa++ob,∃o,au s'.heap i=some o/\cA o=true:=by
   intro i hi;rcases List.mem_append.1 hi with hi|hi
   .exact r2 i hi
   .exact t2 i hi
  have hfrm:=hR.inv.oe;refine⟨hR.defers,_,yz p1,_,rfl,S',rv,_,_,rfl,hs,fun b hb=>?_,hR.inv.uH,r1,t1,?_,?_,?_⟩
  .by_cases h1:b<w.heap.size
   .by_cases h2:b∈fp
    .exact .inr (.inl h2)
    .by_cases h3:S b
     .exact .inl h3
     .exact absurd ⟨h1,h2,h3⟩ (hR.inv.sk b hb)
   .exact .inr (.inr (by omega))
  .rw [<-fF];exact yp hR.inv hnod hown
  .rw [<-fF];intro b hb;obtain⟨i,hi,hb⟩:=List.mem_flatMap.1 hb;obtain⟨oi,hoi,hoo⟩:=hown i hi;obtain⟨k1,k2,k3⟩:=nU hR.inv hoi hoo hb;refine⟨k1,?_⟩;by_cases h1:b<w.heap.size
   .by_cases h2:b∈fp
    .exact .inl h2
    .by_cases h3:S b
     .exact absurd (hs.sub _ h3) k1
     .exact absurd ⟨h1,h2,h3⟩ k2
   .exact .inr (by omega)
  .refine ⟨fun b hb=>hb.1,fun b hb=>?_,hfrm.sT,hfrm.Bj,hfrm.bk,hfrm.io⟩;by_cases h3:S b
   .exact hs.dH b h3
   .exact hfrm.lK b ⟨hb.1,hb.2,h3⟩
 have qU:wk (fun s=>s.gh.length=lent.length/\∃rs0,tf jJ s rs0 outs/\rR m rs0=rs) s'->
   a'.defers=[]/\∃v,(results g a'.tmps).run P w'=.ok v w'/\∃v',Ending.returned v=Ending.returned v'/\Left S w fp rs outs (kT as vs) v' w':=by
  rintro⟨s1,hsub,hgl,rs0,hlv,rfl⟩;obtain⟨S1,Kn1,φ1,hs1,hR1⟩:=hsub S' _ w Kn' φ' _ _ a' w' hR;obtain⟨q1,v,q2,v',q3,q4⟩:=main s1 rs0 S1 Kn1 φ1 (hs.trans hs1) hR1 hgl hlv;exact⟨q1,v,q2,v',q3,q4.Bj m⟩
 cases o with|exit id=>exact hl.elim|normal=>exact qU hl|ret=>exact qU hl
end
theorem Mo{P:Program}{sg:Nat->xp}{cu:Nat->List Nat}{ex:Call}{d f:Nat}{ro:Bool}(hm:P.follows .mixedOrders=true)(hx:fg P ex)(h:RM (Ms P sg cu ex d f [])=true):bw P f ⟨[],[([.x .b],[])],ro,[],fun _=>some true⟩:=by refine⟨by cases ro<;>decide+kernel,fun p z hz=>?_⟩;obtain rfl:=aa hz;exact IN hm hx d f [] _ _ (RL h)
end Go.Ev
