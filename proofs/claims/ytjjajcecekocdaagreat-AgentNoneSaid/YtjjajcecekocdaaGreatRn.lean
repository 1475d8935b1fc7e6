/- Runs: the abstract machine carried out; what it answers is good. Conditions: the program's mark for mixed orders. -/
import Derived.Test.YtjjajcecekocdaaGreatEvW
open Option.some renaming inj->aa
open Prod.mk renaming inj->ad
namespace Go.Ev
def G7{α:Type}:List (Nat×α)->List Nat->List (Nat×α)
 |[],_=>[]
 |(t,v)::r,seen=>if seen.contains t then G7 r seen else(t,v)::G7 r (t::seen)
def Ey:bh->List Nat->bh
 |[],_=>[]
 |(t,v)::r,seen=>if seen.contains t then Ey r seen else match v with|none=>Ey r (t::seen)|some o=>(t,some o)::Ey r (t::seen)
def HJ(s:St):St:=⟨G7 s.cR [],Ey s.heap [],s.next,s.gh⟩
def Fx(f:St->Option (ql×St)):Nat->St->Option (ql×St)
 |0,_=>none
 |n+1,s=>match f s with|some (.normal,s')=>Fx f n (HJ s')|r=>r
def vc(call:Call):CC->St->Option (ql×St)
 |.skip,s=>some (.normal,s)
 |.region ops _,s=>match re call ops s with|some s'=>some (.normal,s')|none=>none
 |.drawn ops dyn _,s=>match jj (fun _=>call) s.next ops 0 s.cR s.heap with|some (e,h,tr)=>if yK tr dyn=true then some (.normal,⟨e,h,s.next+eL*ops.length,s.gh⟩)else none|none=>none
 |.seq a b,s=>match vc call a s with|some (.normal,s')=>vc call b s'|r=>r
 |.cond c a b,s=>match jB s.cR c with|some (.c (.d (.lit (.bool true))))=>vc call a s|some (.c (.d (.lit (.bool false))))=>vc call b s|_=>none
 |.block id a,s=>match vc call a s with|some (.exit id',s')=>if id'=id then some (.normal,s')else some (.exit id',s')|r=>r
 |.loop _ a,s=>Fx (vc call a) 10000000 s
 |.exit id,s=>some (.exit id,s)
 |.ret,s=>some (.ret,s)
 |.fG,_=>none
def uH(P:Program)(bq:uX)(ex:Call):Nat->Call
 |0=>fun _ _=>none
 |d+1=>fun f as=>match ex f as with
  |some r=>some r
  |none=>match oG P bq f as.length with
  |some F=>match vc (uH P bq ex d) F.body (mW as)with|some (.exit _,_)=>none|some (_,s')=>if s'.gh.length=(mW as).gh.length then II F.ki s' else none|none=>none
  |none=>none
theorem Ln{α:Type}{t:Nat}:∀(e:List (Nat×α))(seen:List Nat),bQ (G7 e seen) t=if seen.contains t then none else bQ e t:=by
 intro e;induction e with
 |nil=>intro seen;simp[G7,bQ]
 |cons p e ih=>
  intro seen;obtain⟨u,v⟩:=p;simp only[G7];split
  .rename_i hc;rw[ih];split
   .rfl
   .rename_i hn;have hne:(u==t)=false:=beq_false_of_ne fun e=>hn (e▸hc);simp[bQ,hne]
  .rename_i hc;by_cases hu:u=t
   .subst hu;rw[if_neg hc];simp[bQ]
   .have hb:(t==u)=false:=beq_false_of_ne fun e=>hu e.symm;have hb2:(u==t)=false:=beq_false_of_ne hu;simp only[bQ,hb2,cond_false,ih,List.contains_cons,hb,Bool.false_or]
theorem G6{t:Nat}:∀(e:bh)(seen:List Nat),(bQ (Ey e seen) t).join=if seen.contains t then none else(bQ e t).join:=by
 intro e;induction e with
 |nil=>intro seen;simp[Ey,bQ]
 |cons p e ih=>
  intro seen;obtain⟨u,v⟩:=p;simp only[Ey];split
  .rename_i hc;rw[ih];split
   .rfl
   .rename_i hn;have hne:(u==t)=false:=beq_false_of_ne fun e=>hn (e▸hc);simp[bQ,hne]
  .rename_i hc;by_cases hu:u=t
   .subst hu;rw[if_neg hc];cases v with|none=>rw[ih];simp[bQ]|some o=>simp[bQ]
   .have hb:(t==u)=false:=beq_false_of_ne fun e=>hu e.symm;have hb2:(u==t)=false:=beq_false_of_ne hu;cases v with|none=>simp only[bQ,hb2,cond_false,ih,List.contains_cons,hb,Bool.false_or]|some o=>simp only[bQ,hb2,cond_false,ih,List.contains_cons,hb,Bool.false_or]
theorem HI(s:St):Sub s (HJ s):=fun S K w0 Kn φ gv nt a w h=>by
 refine⟨S,Kn,φ,fX.refl S w,⟨?_,fun t x hx=>?_,h.size,h.defers,h.fP,h.gh⟩⟩
 .have e:ao (HJ s).heap=ao s.heap:=funext fun i=>by have:=G6 (t:=i) s.heap [];simpa[ao,HJ]using this
  rw[e];exact h.inv
 .have:=Ln (t:=t) s.cR [];rw[List.contains_nil,if_neg Bool.false_ne_true]at this;exact h.cR t x (this▸hx)
section
variable{P:Program}{bq:uX}{call:Call}
theorem MK(hok:kD P call){Q:St->Prop}:∀(l:List l6)(s s':St),re call l s=some s'->Q s'->WO P l s Q:=by
 intro l;induction l with
 |nil=>intro s s' h hq;obtain rfl:=aa h;exact .of hq
 |cons o l ih=>
  intro s s' h hq;simp only[re]at h;refine⟨s,Sub.refl s,?_⟩;split at h
  .rename_i hw;split at h
   .rename_i v u au n he;exact .inl ⟨hw,call,v,u,au,n,hok,he,ih _ _ h hq⟩
   .cases h
  .rename_i hw;exact .inr ⟨hw,ih _ _ h hq⟩
  .cases h
theorem F8(hok:kD P call):∀(c:CC)(s s':St)(o:ql)(Q:ql->St->Prop),vc call c s=some (o,s')->Q o s'->W P c s Q:=by
 intro c;induction c with
 |skip=>intro s s' o Q h hq;obtain⟨rfl,rfl⟩:=ad (aa h);exact .of hq
 |region ops md=>
  intro s s' o Q h hq;simp only[vc]at h;split at h
  .rename_i s1 he;obtain⟨rfl,rfl⟩:=ad (aa h);exact MK hok ops s s1 he (.of hq)
  .cases h
 |drawn ops dyn md=>
  intro s s' o Q h hq;simp only[vc]at h;split at h
  .rename_i e hp tr he;split at h
   .rename_i hd;obtain⟨rfl,rfl⟩:=ad (aa h);exact⟨s,Sub.refl s,fun _=>call,e,hp,tr,fun _=>hok,he,hd,.of hq⟩
   .cases h
  .cases h
 |seq a b iha ihb=>
  intro s s' o Q h hq;simp only[vc]at h;split at h
  .rename_i s1 he;exact iha _ _ _ _ he (ihb _ _ _ _ h hq)
  .rename_i hn;refine iha _ _ _ _ h ?_;cases o with|normal=>exact absurd h (hn _)|exit id=>exact hq|ret=>exact hq
 |cond x a b iha ihb=>
  intro s s' o Q h hq;simp only[vc]at h;refine⟨s,Sub.refl s,?_⟩;split at h
  .rename_i he;exact⟨true,he,fun _=>iha _ _ _ _ h hq,fun e=>by cases e⟩
  .rename_i he;exact⟨false,he,(fun e=>by cases e),fun _=>ihb _ _ _ _ h hq⟩
  .cases h
 |block id a iha=>
  intro s s' o Q h hq;simp only[vc]at h;split at h
  .rename_i id' s1 he;refine iha _ _ _ _ he ?_;show if id'=id then Q .normal s1 else Q (.exit id') s1;split at h
   .rename_i e;obtain⟨rfl,rfl⟩:=ad (aa h);rw[if_pos e];exact hq
   .rename_i e;obtain⟨rfl,rfl⟩:=ad (aa h);rw[if_neg e];exact hq
  .rename_i hn;refine iha _ _ _ _ h ?_;cases o with|normal=>exact hq|exit id=>exact absurd h (hn _ _)|ret=>exact hq
 |loop md a iha=>
  intro s s' o Q h hq;refine⟨fun n s=>∃o s',Fx (vc call a) n s=some (o,s')/\Q o s',10000000,.of ⟨o,s',h,hq⟩,fun n s hI=>?_⟩;obtain⟨o,s',hI,hq⟩:=hI;cases n with
  |zero=>cases hI
  |succ n=>
   simp only[Fx]at hI;split at hI
   .rename_i s1 he;exact iha _ _ _ _ he ⟨n,Nat.lt_succ_self n,HJ s1,HI s1,o,s',hI,hq⟩
   .rename_i hn;refine iha _ _ _ _ hI ?_;cases o with|normal=>exact absurd hI (hn _)|exit id=>exact hq|ret=>exact hq
 |exit id=>intro s s' o Q h hq;obtain⟨rfl,rfl⟩:=ad (aa h);exact .of hq
 |ret=>intro s s' o Q h hq;obtain⟨rfl,rfl⟩:=ad (aa h);exact .of hq
 |fG=>intro s s' o Q h hq;cases h
theorem Ks{ex:Call}(hm:P.follows .mixedOrders=true)(hx:kD P ex):∀d,kD P (uH P bq ex d):=by
 intro d;induction d with
 |zero=>intro f as rs outs h;cases h
 |succ d ih=>
  intro f as rs outs h;simp only[uH]at h;split at h
  .rename_i r hr;obtain rfl:=aa h;exact hx _ _ _ _ hr
  split at h
  .rename_i F hF
   have hnp:as.length=F.np:=by
    have hF2:=hF;unfold oG at hF2;split at hF2
    .cases hF2
    split at hF2
    .cases hF2
    split at hF2
    .split at hF2
     .obtain rfl:=aa hF2;rfl
     .cases hF2
    .cases hF2
   refine vA (m:=[]) hm hF ⟨hnp,?_⟩;split at h
   .cases h
   .rename_i o s' hn he;split at h
    .rename_i hg;refine F8 ih _ _ _ _ _ he ?_;cases o with|exit id=>exact(hn _ rfl).elim|normal=>exact .of ⟨hg,rs,.of h,rfl⟩|ret=>exact .of ⟨hg,rs,.of h,rfl⟩
    .cases h
   .cases h
  .cases h
end
end Go.Ev
