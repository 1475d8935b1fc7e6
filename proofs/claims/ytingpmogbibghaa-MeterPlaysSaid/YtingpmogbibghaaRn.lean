/- Runs: the abstract machine carried out; what it answers is good. Conditions: the program's mark for mixed orders. -/
import Derived.Test.YtingpmogbibghaaEvW
open Bool renaming false_or->h_
open Option.some renaming inj->aa
open Prod.mk renaming inj->ad
namespace Go.Ev
def A9{α:Type}:List (Nat×α)->List Nat->List (Nat×α)
 |[],_=>[]
 |(t,v)::r,seen=>if seen.contains t then A9 r seen else(t,v)::A9 r (t::seen)
def yp:aY->List Nat->aY
 |[],_=>[]
 |(t,v)::r,seen=>if seen.contains t then yp r seen else match v with|none=>yp r (t::seen)|some o=>(t,some o)::yp r (t::seen)
def BH(s:St):St:=⟨A9 s.bS [],yp s.heap [],s.next,s.gh⟩
def zB(f:St->Option (kP×St)):Nat->St->Option (kP×St)
 |0,_=>none
 |n+1,s=>match f s with|some (.normal,s')=>zB f n (BH s')|r=>r
def nP(call:Call):CC->St->Option (kP×St)
 |.skip,s=>some (.normal,s)
 |.region ops _,s=>match v_ call ops s with|some s'=>some (.normal,s')|none=>none
 |.drawn ops dyn _,s=>match ic (fun _=>call) s.next ops 0 s.bS s.heap with|some (e,h,tr)=>if rk tr dyn=true then some (.normal,⟨e,h,s.next+e9*ops.length,s.gh⟩)else none|none=>none
 |.seq a b,s=>match nP call a s with|some (.normal,s')=>nP call b s'|r=>r
 |.cond c a b,s=>match L9 s.bS c with|some (.c (.d (.lit (.bool true))))=>nP call a s|some (.c (.d (.lit (.bool false))))=>nP call b s|_=>none
 |.block id a,s=>match nP call a s with|some (.exit id',s')=>if id'=id then some (.normal,s')else some (.exit id',s')|r=>r
 |.loop _ a,s=>zB (nP call a) 10000000 s
 |.exit id,s=>some (.exit id,s)
 |.ret,s=>some (.ret,s)
 |.dL,_=>none
def BW(P:Program)(QC:pT)(ex:Call):Nat->Call
 |0=>fun _ _=>none
 |d+1=>fun f as=>match ex f as with
  |some r=>some r
  |none=>match nD P QC f as.length with
  |some F=>match nP (BW P QC ex d) F.body (iP as)with|some (.exit _,_)=>none|some (_,s')=>if s'.gh.length=(iP as).gh.length then CG F.gu s' else none|none=>none
  |none=>none
theorem E9{α:Type}{t:Nat}:∀(e:List (Nat×α))(seen:List Nat),bv (A9 e seen) t=if seen.contains t then none else bv e t:=by
 intro e;induction e with
 |nil=>intro seen;simp[A9,bv]
 |cons p e ih=>
  intro seen;obtain⟨u,v⟩:=p;simp only[A9];split
  .rename_i hc;rw[ih];split
   .rfl
   .rename_i hn;have hne:(u==t)=false:=beq_false_of_ne fun e=>hn (e▸hc);simp[bv,hne]
  .rename_i hc;by_cases hu:u=t
   .subst hu;rw[if_neg hc];simp[bv]
   .have hb:(t==u)=false:=beq_false_of_ne fun e=>hu e.symm;have hb2:(u==t)=false:=beq_false_of_ne hu;simp only[bv,hb2,cond_false,ih,List.contains_cons,hb,h_]
theorem A8{t:Nat}:∀(e:aY)(seen:List Nat),(bv (yp e seen) t).join=if seen.contains t then none else(bv e t).join:=by
 intro e;induction e with
 |nil=>intro seen;simp[yp,bv]
 |cons p e ih=>
  intro seen;obtain⟨u,v⟩:=p;simp only[yp];split
  .rename_i hc;rw[ih];split
   .rfl
   .rename_i hn;have hne:(u==t)=false:=beq_false_of_ne fun e=>hn (e▸hc);simp[bv,hne]
  .rename_i hc;by_cases hu:u=t
   .subst hu;rw[if_neg hc];cases v with|none=>rw[ih];simp[bv]|some o=>simp[bv]
   .have hb:(t==u)=false:=beq_false_of_ne fun e=>hu e.symm;have hb2:(u==t)=false:=beq_false_of_ne hu;cases v with|none=>simp only[bv,hb2,cond_false,ih,List.contains_cons,hb,h_]|some o=>simp only[bv,hb2,cond_false,ih,List.contains_cons,hb,h_]
theorem BG(s:St):Sub s (BH s):=fun S K w0 Kn φ gv nt a w h=>by
 refine⟨S,Kn,φ,WJ.refl S w,⟨?_,fun t x hx=>?_,h.size,h.defers,h.dP,h.gh⟩⟩
 .have e:ak (BH s).heap=ak s.heap:=funext fun i=>by have:=A8 (t:=i) s.heap [];simpa[ak,BH]using this
  rw[e];exact h.inv
 .have:=E9 (t:=t) s.bS [];rw[List.contains_nil,if_neg Bool.false_ne_true]at this;exact h.bS t x (this▸hx)
section
variable{P:Program}{QC:pT}{call:Call}
theorem GB(hok:fB P call){Q:St->Prop}:∀(l:List iX)(s s':St),v_ call l s=some s'->Q s'->WO P l s Q:=by
 intro l;induction l with
 |nil=>intro s s' h hq;obtain rfl:=aa h;exact .of hq
 |cons o l ih=>
  intro s s' h hq;simp only[v_]at h;refine⟨s,Sub.refl s,?_⟩;split at h
  .rename_i hw;split at h
   .rename_i v u aj n he;exact .inl ⟨hw,call,v,u,aj,n,hok,he,ih _ _ h hq⟩
   .cases h
  .rename_i hw;exact .inr ⟨hw,ih _ _ h hq⟩
  .cases h
theorem z_(hok:fB P call):∀(c:CC)(s s':St)(o:kP)(Q:kP->St->Prop),nP call c s=some (o,s')->Q o s'->W P c s Q:=by
 intro c;induction c with
 |skip=>intro s s' o Q h hq;obtain⟨rfl,rfl⟩:=ad (aa h);exact .of hq
 |region ops ik=>
  intro s s' o Q h hq;simp only[nP]at h;split at h
  .rename_i s1 he;obtain⟨rfl,rfl⟩:=ad (aa h);exact GB hok ops s s1 he (.of hq)
  .cases h
 |drawn ops dyn ik=>
  intro s s' o Q h hq;simp only[nP]at h;split at h
  .rename_i e hp tr he;split at h
   .rename_i hd;obtain⟨rfl,rfl⟩:=ad (aa h);exact⟨s,Sub.refl s,fun _=>call,e,hp,tr,fun _=>hok,he,hd,.of hq⟩
   .cases h
  .cases h
 |seq a b iha ihb=>
  intro s s' o Q h hq;simp only[nP]at h;split at h
  .rename_i s1 he;exact iha _ _ _ _ he (ihb _ _ _ _ h hq)
  .rename_i hn;refine iha _ _ _ _ h ?_;cases o with|normal=>exact absurd h (hn _)|exit id=>exact hq|ret=>exact hq
 |cond x a b iha ihb=>
  intro s s' o Q h hq;simp only[nP]at h;refine⟨s,Sub.refl s,?_⟩;split at h
  .rename_i he;exact⟨true,he,fun _=>iha _ _ _ _ h hq,fun e=>by cases e⟩
  .rename_i he;exact⟨false,he,(fun e=>by cases e),fun _=>ihb _ _ _ _ h hq⟩
  .cases h
 |block id a iha=>
  intro s s' o Q h hq;simp only[nP]at h;split at h
  .rename_i id' s1 he;refine iha _ _ _ _ he ?_;show if id'=id then Q .normal s1 else Q (.exit id') s1;split at h
   .rename_i e;obtain⟨rfl,rfl⟩:=ad (aa h);rw[if_pos e];exact hq
   .rename_i e;obtain⟨rfl,rfl⟩:=ad (aa h);rw[if_neg e];exact hq
  .rename_i hn;refine iha _ _ _ _ h ?_;cases o with|normal=>exact hq|exit id=>exact absurd h (hn _ _)|ret=>exact hq
 |loop ik a iha=>
  intro s s' o Q h hq;refine⟨fun n s=>∃o s',zB (nP call a) n s=some (o,s')/\Q o s',10000000,.of ⟨o,s',h,hq⟩,fun n s hI=>?_⟩;obtain⟨o,s',hI,hq⟩:=hI;cases n with
  |zero=>cases hI
  |succ n=>
   simp only[zB]at hI;split at hI
   .rename_i s1 he;exact iha _ _ _ _ he ⟨n,Nat.lt_succ_self n,BH s1,BG s1,o,s',hI,hq⟩
   .rename_i hn;refine iha _ _ _ _ hI ?_;cases o with|normal=>exact absurd hI (hn _)|exit id=>exact hq|ret=>exact hq
 |exit id=>intro s s' o Q h hq;obtain⟨rfl,rfl⟩:=ad (aa h);exact .of hq
 |ret=>intro s s' o Q h hq;obtain⟨rfl,rfl⟩:=ad (aa h);exact .of hq
 |dL=>intro s s' o Q h hq;cases h
theorem y9{ex:Call}(hm:P.follows .mixedOrders=true)(hx:fB P ex):∀d,fB P (BW P QC ex d):=by
 intro d;induction d with
 |zero=>intro f as rs outs h;cases h
 |succ d ih=>
  intro f as rs outs h;simp only[BW]at h;split at h
  .rename_i r hr;obtain rfl:=aa h;exact hx _ _ _ _ hr
  split at h
  .rename_i F hF
   have hnp:as.length=F.np:=by
    have hF2:=hF;unfold nD at hF2;split at hF2
    .cases hF2
    split at hF2
    .cases hF2
    split at hF2
    .split at hF2
     .obtain rfl:=aa hF2;rfl
     .cases hF2
    .cases hF2
   refine zG (m:=[]) hm hF ⟨hnp,?_⟩;split at h
   .cases h
   .rename_i o s' hn he;split at h
    .rename_i hg;refine z_ ih _ _ _ _ _ he ?_;cases o with|exit id=>exact(hn _ rfl).elim|normal=>exact .of ⟨hg,rs,.of h,rfl⟩|ret=>exact .of ⟨hg,rs,.of h,rfl⟩
    .cases h
   .cases h
  .cases h
end
end Go.Ev
