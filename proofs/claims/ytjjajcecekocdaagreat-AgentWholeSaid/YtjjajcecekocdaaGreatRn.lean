/- Runs: the abstract machine carried out; what it answers is good. Conditions: the program's mark for mixed orders. -/
import Derived.Test.YtjjajcecekocdaaGreatEvW
open Bool renaming false_or->j6
open Option.some renaming inj->aa
open Prod.mk renaming inj->af
namespace Go.Ev
def JM{α:Type}:List (Nat×α)->List Nat->List (Nat×α)
 |[],_=>[]
 |(t,v)::r,seen=>if seen.contains t then JM r seen else(t,v)::JM r (t::seen)
def Gy:bC->List Nat->bC
 |[],_=>[]
 |(t,v)::r,seen=>if seen.contains t then Gy r seen else match v with|none=>Gy r (t::seen)|some o=>(t,some o)::Gy r (t::seen)
def Kx(s:St):St:=⟨JM s.dE [],Gy s.heap [],s.next,s.gh⟩
def HK(f:St->Option (qX×St)):Nat->St->Option (qX×St)
 |0,_=>none
 |n+1,s=>match f s with|some (.normal,s')=>HK f n (Kx s')|r=>r
def vR(call:Call):CC->St->Option (qX×St)
 |.skip,s=>some (.normal,s)
 |.region ops _,s=>match rQ call ops s with|some s'=>some (.normal,s')|none=>none
 |.drawn ops dyn _,s=>match jH (fun _=>call) s.next ops 0 s.dE s.heap with|some (e,h,tr)=>if zM tr dyn=true then some (.normal,⟨e,h,s.next+aD*ops.length,s.gh⟩)else none|none=>none
 |.seq a b,s=>match vR call a s with|some (.normal,s')=>vR call b s'|r=>r
 |.cond c a b,s=>match ke s.dE c with|some (.c (.d (.lit (.bool true))))=>vR call a s|some (.c (.d (.lit (.bool false))))=>vR call b s|_=>none
 |.block id a,s=>match vR call a s with|some (.exit id',s')=>if id'=id then some (.normal,s')else some (.exit id',s')|r=>r
 |.loop _ a,s=>HK (vR call a) 10000000 s
 |.exit id,s=>some (.exit id,s)
 |.ret,s=>some (.ret,s)
 |.gk,_=>none
def tJ(P:Program)(bz:ww)(ex:Call):Nat->Call
 |0=>fun _ _=>none
 |d+1=>fun f as=>match ex f as with
  |some r=>some r
  |none=>match o_ P bz f as.length with
  |some F=>match vR (tJ P bz ex d) F.body (nP as)with|some (.exit _,_)=>none|some (_,s')=>if s'.gh.length=(nP as).gh.length then LG F.kW s' else none|none=>none
  |none=>none
theorem Pr{α:Type}{t:Nat}:∀(e:List (Nat×α))(seen:List Nat),cm (JM e seen) t=if seen.contains t then none else cm e t:=by
 intro e;induction e with
 |nil=>intro seen;simp[JM,cm]
 |cons p e ih=>
  intro seen;obtain⟨u,v⟩:=p;simp only[JM];split
  .rename_i hc;rw[ih];split
   .rfl
   .rename_i hn;have hne:(u==t)=false:=beq_false_of_ne fun e=>hn (e▸hc);simp[cm,hne]
  .rename_i hc;by_cases hu:u=t
   .subst hu;rw[if_neg hc];simp[cm]
   .have hb:(t==u)=false:=beq_false_of_ne fun e=>hu e.symm;have hb2:(u==t)=false:=beq_false_of_ne hu;simp only[cm,hb2,cond_false,ih,List.contains_cons,hb,j6]
theorem JL{t:Nat}:∀(e:bC)(seen:List Nat),(cm (Gy e seen) t).join=if seen.contains t then none else(cm e t).join:=by
 intro e;induction e with
 |nil=>intro seen;simp[Gy,cm]
 |cons p e ih=>
  intro seen;obtain⟨u,v⟩:=p;simp only[Gy];split
  .rename_i hc;rw[ih];split
   .rfl
   .rename_i hn;have hne:(u==t)=false:=beq_false_of_ne fun e=>hn (e▸hc);simp[cm,hne]
  .rename_i hc;by_cases hu:u=t
   .subst hu;rw[if_neg hc];cases v with|none=>rw[ih];simp[cm]|some o=>simp[cm]
   .have hb:(t==u)=false:=beq_false_of_ne fun e=>hu e.symm;have hb2:(u==t)=false:=beq_false_of_ne hu;cases v with|none=>simp only[cm,hb2,cond_false,ih,List.contains_cons,hb,j6]|some o=>simp only[cm,hb2,cond_false,ih,List.contains_cons,hb,j6]
theorem Kw(s:St):Sub s (Kx s):=fun S K w0 Kn φ gv nt a w h=>by
 refine⟨S,Kn,φ,gZ.refl S w,⟨?_,fun t x hx=>?_,h.size,h.defers,h.gx,h.gh⟩⟩
 .have e:aw (Kx s).heap=aw s.heap:=funext fun i=>by have:=JL (t:=i) s.heap [];simpa[aw,Kx]using this
  rw[e];exact h.inv
 .have:=Pr (t:=t) s.dE [];rw[List.contains_nil,if_neg Bool.false_ne_true]at this;exact h.dE t x (this▸hx)
section
variable{P:Program}{bz:ww}{call:Call}
theorem Rf(mo:kE P call){Q:St->Prop}:∀(l:List mO)(s s':St),rQ call l s=some s'->Q s'->WO P l s Q:=by
 intro l;induction l with
 |nil=>intro s s' h hq;obtain rfl:=aa h;exact .of hq
 |cons o l ih=>
  intro s s' h hq;simp only[rQ]at h;refine⟨s,Sub.refl s,?_⟩;split at h
  .rename_i hw;split at h
   .rename_i v u az n he;exact .inl ⟨hw,call,v,u,az,n,mo,he,ih _ _ h hq⟩
   .cases h
  .rename_i hw;exact .inr ⟨hw,ih _ _ h hq⟩
  .cases h
theorem ID(mo:kE P call):∀(c:CC)(s s':St)(o:qX)(Q:qX->St->Prop),vR call c s=some (o,s')->Q o s'->W P c s Q:=by
 intro c;induction c with
 |skip=>intro s s' o Q h hq;obtain⟨rfl,rfl⟩:=af (aa h);exact .of hq
 |region ops mV=>
  intro s s' o Q h hq;simp only[vR]at h;split at h
  .rename_i s1 he;obtain⟨rfl,rfl⟩:=af (aa h);exact Rf mo ops s s1 he (.of hq)
  .cases h
 |drawn ops dyn mV=>
  intro s s' o Q h hq;simp only[vR]at h;split at h
  .rename_i e hp tr he;split at h
   .rename_i hd;obtain⟨rfl,rfl⟩:=af (aa h);exact⟨s,Sub.refl s,fun _=>call,e,hp,tr,fun _=>mo,he,hd,.of hq⟩
   .cases h
  .cases h
 |seq a b iha ihb=>
  intro s s' o Q h hq;simp only[vR]at h;split at h
  .rename_i s1 he;exact iha _ _ _ _ he (ihb _ _ _ _ h hq)
  .rename_i hn;refine iha _ _ _ _ h ?_;cases o with|normal=>exact absurd h (hn _)|exit id=>exact hq|ret=>exact hq
 |cond x a b iha ihb=>
  intro s s' o Q h hq;simp only[vR]at h;refine⟨s,Sub.refl s,?_⟩;split at h
  .rename_i he;exact⟨true,he,fun _=>iha _ _ _ _ h hq,fun e=>by cases e⟩
  .rename_i he;exact⟨false,he,(fun e=>by cases e),fun _=>ihb _ _ _ _ h hq⟩
  .cases h
 |block id a iha=>
  intro s s' o Q h hq;simp only[vR]at h;split at h
  .rename_i id' s1 he;refine iha _ _ _ _ he ?_;show if id'=id then Q .normal s1 else Q (.exit id') s1;split at h
   .rename_i e;obtain⟨rfl,rfl⟩:=af (aa h);rw[if_pos e];exact hq
   .rename_i e;obtain⟨rfl,rfl⟩:=af (aa h);rw[if_neg e];exact hq
  .rename_i hn;refine iha _ _ _ _ h ?_;cases o with|normal=>exact hq|exit id=>exact absurd h (hn _ _)|ret=>exact hq
 |loop mV a iha=>
  intro s s' o Q h hq;refine⟨fun n s=>∃o s',HK (vR call a) n s=some (o,s')/\Q o s',10000000,.of ⟨o,s',h,hq⟩,fun n s hI=>?_⟩;obtain⟨o,s',hI,hq⟩:=hI;cases n with
  |zero=>cases hI
  |succ n=>
   simp only[HK]at hI;split at hI
   .rename_i s1 he;exact iha _ _ _ _ he ⟨n,Nat.lt_succ_self n,Kx s1,Kw s1,o,s',hI,hq⟩
   .rename_i hn;refine iha _ _ _ _ hI ?_;cases o with|normal=>exact absurd hI (hn _)|exit id=>exact hq|ret=>exact hq
 |exit id=>intro s s' o Q h hq;obtain⟨rfl,rfl⟩:=af (aa h);exact .of hq
 |ret=>intro s s' o Q h hq;obtain⟨rfl,rfl⟩:=af (aa h);exact .of hq
 |gk=>intro s s' o Q h hq;cases h
theorem BR{ex:Call}(hm:P.follows .mixedOrders=true)(hx:kE P ex):∀d,kE P (tJ P bz ex d):=by
 intro d;induction d with
 |zero=>intro f as rs outs h;cases h
 |succ d ih=>
  intro f as rs outs h;simp only[tJ]at h;split at h
  .rename_i r hr;obtain rfl:=aa h;exact hx _ _ _ _ hr
  split at h
  .rename_i F hF
   have hnp:as.length=F.np:=by
    have hF2:=hF;unfold o_ at hF2;split at hF2
    .cases hF2
    split at hF2
    .cases hF2
    split at hF2
    .split at hF2
     .obtain rfl:=aa hF2;rfl
     .cases hF2
    .cases hF2
   refine wh (m:=[]) hm hF ⟨hnp,?_⟩;split at h
   .cases h
   .rename_i o s' hn he;split at h
    .rename_i hg;refine ID ih _ _ _ _ _ he ?_;cases o with|exit id=>exact(hn _ rfl).elim|normal=>exact .of ⟨hg,rs,.of h,rfl⟩|ret=>exact .of ⟨hg,rs,.of h,rfl⟩
    .cases h
   .cases h
  .cases h
end
end Go.Ev
