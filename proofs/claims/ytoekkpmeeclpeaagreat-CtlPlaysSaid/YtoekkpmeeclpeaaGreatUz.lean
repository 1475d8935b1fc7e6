/- A region in any order: what the check says, what a set of operations makes. Conditions: none. -/
import Derived.Test.YtoekkpmeeclpeaaGreatUq
import Derived.Scope
open Array renaming getElem?_eq_getElem->cq,getElem?_eq_some_iff->bZ,getElem?_toList->eF
open Bool renaming and_eq_true->ax,or_eq_true->cE
open List renaming all_eq_true->cw,append_assoc->bm,contains_eq_mem->ko,getElem?_eq_getElem->bf,getElem?_eq_some_iff->bG,getElem?_set_self->o7,map_cons->bN,mem_append->aK,mem_cons->aO,mem_map->aR,mem_of_getElem?->bA,not_mem_nil->bF,range->aG
open Nat renaming add_assoc->gF,add_sub_cancel'->rK,blt_eq->fM,le_refl->aw,le_succ->cA,le_trans->bg,lt_of_lt_of_le->bY,lt_or_ge->f_,lt_succ_self->bh,zero_add->dJ,zero_le->cG
open Option renaming bind_some->aa
open Option.some renaming inj->af,injEq->eZ
namespace Go.Ev
theorem Lq{acc:List Nat}{j:Nat}:∀{es:List Edge},(zn acc es).testBit j=true->∃e∈es,Region.binds .any e=true/\(e.on=j\/(acc.getD e.on 0).testBit j=true):=by
 intro es;induction es with
 |nil=>intro h;simp[zn]at h
 |cons e r ih=>
  intro h;simp[zn]at h
  grind
theorem Rz{m:List Nat}:∀{l:List Oper}{i:Nat},H3 m l i=true->∀(k:Nat)(o:Oper),l[k]?=some o->
  (∀j,il m j (i+k)=true->∃e∈o.after,Region.binds .any e=true/\(e.on=j\/il m j e.on=true))/\∀e∈o.after,Region.binds .any e=true->e.on<i+k:=by
 intro l;induction l with
 |nil=>intro i _ k o hk;simp at hk
 |cons o0 r ih=>
  intro i h k o hk;simp only[H3,ax]at h;obtain⟨⟨h1,h2⟩,h3⟩:=h;cases k with
  |zero=>
   obtain rfl:o0=o:=by simpa using hk
   refine⟨fun j hj=>?_,fun e he hb=>?_⟩
   .unfold il at hj;rw[Nat.add_zero,(by simpa using h1:m.getD i 0=_)]at hj;obtain⟨e,he,h'⟩:=Lq hj;exact⟨e,by simpa using he,h'⟩
   grind
  |succ k=>
   have:=ih h3 k o (by simpa using hk)
   grind
theorem K5{m:List Nat}{i:Nat}{a:IM}:∀{l:List IM}{j:Nat},FG m i a l j=true->∀(k:Nat)(b:IM),l[k]?=some b->il m i (j+k)=true\/Kz a b=false:=by
 intro l;induction l with
 |nil=>intro j _ k b hk;simp at hk
 |cons b0 r ih=>intro j h k b hk;simp[FG]at h;cases k with|zero=>simp_all|succ k=>have:=ih h.2 k b (by simpa using hk);rwa[show j+1+k=j+(k+1)by omega]at this
theorem Q4{m:List Nat}:∀{l:List IM}{i:Nat},HT m l i=true->∀(k k':Nat)(a b:IM),l[k]?=some a->l[k']?=some b->k<k'->il m (i+k) (i+k')=true\/Kz a b=false:=by
 intro l;induction l with
 |nil=>intro i _ k k' a b hk;simp at hk
 |cons a0 r ih=>
  intro i h k k' a b hk hk' hlt;simp[HT]at h;cases k' with
  |zero=>omega
  |succ k'=>
   cases k with
   |zero=>
    obtain rfl:a0=a:=by simpa using hk
    have:=K5 h.1 k' b (by simpa using hk');rwa[show i+1+k'=i+(k'+1)by omega]at this
   |succ k=>have:=ih h.2 k k' a b (by simpa using hk) (by simpa using hk') (by omega);rwa[show i+1+k=i+(k+1)by omega,show i+1+k'=i+(k'+1)by omega]at this
theorem Qc{m:List Nat}{i:Nat}{a:IM}:∀{l:List IM}{j:Nat},∀(k:Nat)(b:IM),l[k]?=some b->il m i (j+k)=true\/Iu b.k=0\/Iu b.k+Iu a.k<=2\/(i,if On a.k b.k then 1000+(j+k)else j+k)∈Hh m i a l j:=by
 intro l;induction l with
 |nil=>intro j k b hk;simp at hk
 |cons b0 r ih=>
  intro j k b hk;cases k with
  |zero=>
   simp[Hh]
   grind
  |succ k=>
   have:=ih (j:=j+1) k b (by simpa using hk)
   grind [Hh,List.mem_cons_of_mem]
theorem Qd{m:List Nat}:∀{l:List IM}{i:Nat},∀(k k':Nat)(a b:IM),l[k]?=some a->l[k']?=some b->k<k'->
  il m (i+k) (i+k')=true\/Iu a.k=0\/Iu b.k=0\/Iu b.k+Iu a.k<=2\/(i+k,if On a.k b.k then 1000+(i+k')else i+k')∈Cj m l i:=by
 intro l;induction l with
 |nil=>intro i k k' a b hk;simp at hk
 |cons a0 r ih=>
  intro i k k' a b hk hk' hlt;cases k' with
  |zero=>omega
  |succ k'=>
   cases k with
   |zero=>
    obtain rfl:a0=a:=by simpa using hk
    have:=Qc (m:=m) (i:=i) (a:=a0) (j:=i+1) k' b (by simpa using hk');rw[show i+1+k'=i+(k'+1)by omega]at this;rcases this with h|h|h|h
    .exact .inl h
    .exact .inr (.inr (.inl h))
    .exact .inr (.inr (.inr (.inl h)))
    .by_cases e:Iu a0.k=0
     .exact .inr (.inl e)
     simp_all[Cj]
   |succ k=>
    have:=ih (i:=i+1) k k' a b (by simpa using hk) (by simpa using hk') (by omega)
    grind [Cj,List.mem_append_right]
section
variable(dst:Nat->Option Nat)(ef:Nat->Ef)(D:Nat->Bool)(e0:oc)(h0:Hf)
def zM:Nat->oc
 |0,t=>e0 t
 |k+1,t=>if D k=true/\dst k=some t then some (We (ef k))else zM k t
def pA:Nat->Hf
 |0,i=>h0 i
 |k+1,i=>if D k=true then(match iV (E_ (ef k)) i with|some o=>o|none=>pA k i)else pA k i
end
def Fx(ef:Nat->Ef)(k id:Nat):Prop:=id∈(E_ (ef k)).map (·.1)
theorem uX{α:Type}{u:List (Nat×α)}{id:Nat}(h:id∉u.map (·.1)):iV u id=none:=by induction u with|nil=>rfl|cons p r ih=>grind [iV]
theorem ZJ{α:Type}{u:List (Nat×α)}{id:Nat}(h:id∈u.map (·.1)):∃x,iV u id=some x:=by
 induction u with
 |nil=>simp at h
 |cons p r ih=>
  obtain⟨i,x⟩:=p;by_cases e:i=id
  .exact ⟨x,by simp[iV,e]⟩
  grind [absurd,iV]
section
variable{dst:Nat->Option Nat}{ef:Nat->Ef}{D D':Nat->Bool}{E:Nat->oc}{Hp:Nat->Hf}
theorem T6{n i t:Nat}(hstep:∀k,k<n->∀t,E (k+1) t=if dst k=some t then some (We (ef k))else E k t)(hi:i<=n)
  (h1:∀k,k<i->dst k=some t->D k=true) (h2:∀k,i<=k->k<n->dst k=some t->D k=false):zM dst ef D (E 0) n t=E i t:=by
 have a:∀k,k<=i->zM dst ef D (E 0) k t=E k t:=by
  intro k;induction k with
  |zero=>intro _;rfl
  |succ k ih=>
   rw[zM]
   grind
 have b:∀d,i+d<=n->zM dst ef D (E 0) (i+d) t=E i t:=by
  intro d;induction d with
  |zero=>intro _;exact a i (aw _)
  |succ d ih=>
   rw[<-gF,zM]
   grind
 have:=b (n-i) (by omega);rwa[rK hi]at this
theorem PQ{n i id:Nat}(hstep:∀k,k<n->∀id,Hp (k+1) id=match iV (E_ (ef k)) id with|some o=>o|none=>Hp k id)(hi:i<=n)
  (h1:∀k,k<i->Fx ef k id->D k=true) (h2:∀k,i<=k->k<n->Fx ef k id->D k=false):pA ef D (Hp 0) n id=Hp i id:=by
 have a:∀k,k<=i->pA ef D (Hp 0) k id=Hp k id:=by
  intro k;induction k with
  |zero=>intro _;rfl
  |succ k ih=>
   intro hk;rw[pA,hstep k (by omega),ih (by omega)];by_cases ht:Fx ef k id
   .rw [if_pos (h1 k (by omega) ht)]
   .rw [uX ht];simp
 have b:∀d,i+d<=n->pA ef D (Hp 0) (i+d) id=Hp i id:=by
  intro d;induction d with
  |zero=>intro _;exact a i (aw _)
  |succ d ih=>
   intro hd;rw[<-gF,pA,ih (by omega)];by_cases ht:Fx ef (i+d) id
   .rw [if_neg (by grind)]
   .rw [uX ht];simp
 have:=b (n-i) (by omega);rwa[rK hi]at this
theorem ZU{e0:oc}{n i t:Nat}(hi:i<n)(hD:∀k,k≠i->D' k=D k)(hDi:D' i=true)(hDi0:D i=false)
  (h:dst i=some t->∀k,i<k->k<n->D k=true->dst k≠some t):
  zM dst ef D' e0 n t=if dst i=some t then some (We (ef i))else zM dst ef D e0 n t:=by
 have a:∀k,k<=i->zM dst ef D' e0 k t=zM dst ef D e0 k t:=by intro k;induction k with|zero=>intro _;rfl|succ k ih=>intro hk;rw[zM,zM,hD k (by omega),ih (by omega)]
 have b:∀d,i+1+d<=n->zM dst ef D' e0 (i+1+d) t=if dst i=some t then some (We (ef i))else zM dst ef D e0 (i+1+d) t:=by
  intro d;induction d with
  |zero=>simp_all[zM]
  |succ d ih=>
   rw[<-gF,zM,zM]
   grind
 have:=b (n-(i+1)) (by omega);rwa[rK (by omega)]at this
theorem V3{h0:Hf}{n i id:Nat}(hi:i<n)(hD:∀k,k≠i->D' k=D k)(hDi:D' i=true)(hDi0:D i=false)
  (h:Fx ef i id->∀k,i<k->k<n->D k=true->¬Fx ef k id):
  pA ef D' h0 n id=match iV (E_ (ef i)) id with|some o=>o|none=>pA ef D h0 n id:=by
 have a:∀k,k<=i->pA ef D' h0 k id=pA ef D h0 k id:=by intro k;induction k with|zero=>intro _;rfl|succ k ih=>intro hk;rw[pA,pA,hD k (by omega),ih (by omega)]
 have b:∀d,i+1+d<=n->pA ef D' h0 (i+1+d) id=match iV (E_ (ef i)) id with|some o=>o|none=>pA ef D h0 (i+1+d) id:=by
  intro d;induction d with
  |zero=>simp_all[pA]
  |succ d ih=>
   intro hd;rw[<-gF,pA,pA,hD _ (by omega),ih (by omega)];by_cases ht:Fx ef i id
   .by_cases hc:D (i+1+d)=true
    .rw [uX (h ht _ (by omega) (by omega) hc)];simp
    .rw [if_neg hc,if_neg hc]
   .rw [uX ht]
 have:=b (n-(i+1)) (by omega);rwa[rK (by omega)]at this
end
def Am(ops:Array Oper)(k:Nat):Option Nat:=(ops[k]?).bind (·.dst)
section
variable{P:Program}{S K:Nat->Prop}{w0 w:World}{φ:iq}{gv:List Value}{nt:Nat}{a:Act}{bI:II}{ops:Array Oper}{m:List Nat}{E:Nat->oc}{Hp:Nat->H2}{N:Nat->Nat}{ef:Nat->Ef}{gh:V}
def aeR(P:Program)(bI:II)(nt:Nat)(ops:Array Oper)(E:Nat->oc)(Hp:Nat->H2)(N:Nat->Nat)(ef:Nat->Ef)(i j:Nat):Prop:=∃id,(∀x∈Nt (ef i),x=id)/\(∀φ,A6 φ (Hp i)->A6 φ (E_ (ef j)++Hp i))/\∀o v u l n',ops[i]?=some o->ef i=some (v,u,l,n')->id∈l->∃vs,QH (E i) (df P bI nt ops o).args vs/\aaT P o (df P bI nt ops o).args vs (E_ (ef j)++Hp i) (N i) n' v u l
structure ja(P:Program)(bI:II)(nt:Nat)(ops:Array Oper)(m:List Nat)(E:Nat->oc)(Hp:Nat->H2)(N:Nat->Nat)(ef:Nat->Ef):Prop where
 iT:∀(k:Nat)(o:Oper),ops[k]?=some o->vH P nt o (df P bI nt ops o) (E k) (Hp k) (N k) (N (k+1)) (ef k) (E (k+1)) (Hp (k+1))
 ok:∀k,k<=ops.size->SD (N k) (Hp k) (E k)
 ord:∀(k:Nat)(o:Oper),ops[k]?=some o->(∀j,il m j k=true->∃e∈o.after,Region.binds .any e=true/\(e.on=j\/il m j e.on=true))/\∀e∈o.after,Region.binds .any e=true->e.on<k
 con:∀(i j:Nat)(a b:Oper),ops[i]?=some a->ops[j]?=some b->i<j->il m i j=true\/Kz (df P bI nt ops a) (df P bI nt ops b)=false
 apt:∀(i j:Nat),i<j->j<ops.size->il m i j=true\/((∀id,Fx ef i id->id∉Nt (ef j)/\¬Fx ef j id)/\((∀id,Fx ef j id->id∉Nt (ef i))\/aeR P bI nt ops E Hp N ef i j))
theorem vH.heap{o:Oper}{co:IM}{E E':oc}{h h':H2}{n m:Nat}{f:Ef}(hs:vH P nt o co E h n m f E' h')(id:Nat):fO h' id=match iV (E_ f) id with|some o=>o|none=>fO h id:=by rw[hs.2.2.1,oz];rfl
theorem abJ{b:Nat}{s0 s':S2}{E0:oc}{q':Rg}{tr:WO}(hT:Eo P bI nt ops (some b) ops.toList 0 s0 E0 E Hp N ef s' q' tr)(hord:H3 m ops.toList 0=true)(hsch:HT m (ops.toList.map (df P bI nt ops)) 0=true)
  (hdyn:anz (ops.toList.map (AN P bI nt ops)) tr (Cj m (ops.toList.map (df P bI nt ops)) 0)=true) (hsmall:ops.size<=1000):ja P bI nt ops m E Hp N ef:=by
 have st:=fun k o(hk:ops[k]?=some o)=>hT.st k o (by rw[eF];exact hk);have lmap:∀{k:Nat}{o:Oper},ops[k]?=some o->(ops.toList.map (df P bI nt ops))[k]?=some (df P bI nt ops o):=fun hk=>by simp_all
 refine⟨fun k o hk=>(st k o hk).1,fun k hk=>hT.ok k (by simpa using hk),fun k o hk=>?_,fun i j a b ha hb hij=>?_,fun i j hij hj=>?_⟩
 .have:=Rz hord k o (by rw[eF];exact hk);rwa[dJ]at this
 .have:=Q4 hsch i j _ _ (lmap ha) (lmap hb) hij;rwa[dJ,dJ]at this
 .obtain ⟨a,ha⟩:∃a,ops[i]?=some a:=⟨_,cq (by omega)⟩
  obtain⟨b,hb⟩:∃b,ops[j]?=some b:=⟨_,cq hj⟩
  obtain⟨sa,li,ti,hli⟩:=st i a ha;obtain⟨sb,lj,tj,hlj⟩:=st j b hb
  have lowU:∀{k:Nat}{o:Oper},vH P nt o (df P bI nt ops o) (E k) (Hp k) (N k) (N (k+1)) (ef k) (E (k+1)) (Hp (k+1))->Iu (df P bI nt ops o).k<=1->∀id,¬Fx ef k id:=fun hs hc id ht=>by
   rcases hs.2.2.2.1 with h|⟨h,_⟩
   .omega
   .unfold Fx at ht;rw[h]at ht;simp at ht
  have lowR:∀{k:Nat}{o:Oper},vH P nt o (df P bI nt ops o) (E k) (Hp k) (N k) (N (k+1)) (ef k) (E (k+1)) (Hp (k+1))->Iu (df P bI nt ops o).k=0->∀id,id∉Nt (ef k):=fun hs hc id ht=>by
   rcases hs.2.2.2.1 with h|⟨_,h⟩
   .omega
   .rw [h hc]at ht;simp at ht
  rcases Qd (m:=m) (i:=0) i j _ _ (lmap ha) (lmap hb) hij with h|h|h|h|h
  .left;rwa[dJ,dJ]at h
  .grind
  .grind
  .grind
  .rw [dJ,dJ]at h;have hapart:Dw (li,(E_ (ef i)).map (·.1)) (lj,(E_ (ef j)).map (·.1))=true->(∀id,Fx ef i id->id∉Nt (ef j)/\¬Fx ef j id)/\((∀id,Fx ef j id->id∉Nt (ef i))\/aeR P bI nt ops E Hp N ef i j):=by intro this;simp only[Dw,ax,cw,Bool.not_eq_true',ko,decide_eq_false_iff_not]at this;exact⟨fun id ht=>⟨fun hr=>(this.1 id ht).1 (hlj id hr),(this.1 id ht).2⟩,.inl fun id ht hr=>this.2 id ht (hli id hr)⟩
   have hd:=cw.1 hdyn _ h;by_cases hso:On (df P bI nt ops a).k (df P bI nt ops b).k=true
   .rw [if_pos hso]at hd;have e1:Nat.ble 1000 (1000+j)=true:=by simp
    simp only[e1,cond_true,show 1000+j-1000=j by omega,ti,tj,cE]at hd;rcases hd with hd|hd
    .exact .inr (hapart hd)
    .right;unfold adK at hd;split at hd
     .rename_i oi id hoi hti;rw[ti]at hti;simp only[eZ,Prod.mk.injEq]at hti;obtain⟨rfl,hU⟩:=hti;simp only[ax]at hd;obtain⟨_,hd⟩:=hd
      have hlkF:Zr (df P bI nt ops a).k=true/\Md (df P bI nt ops b).k=true:=by
       unfold On at hso;split at hso
       .rename_i h1 h2;rw[h1,h2];exact⟨rfl,rfl⟩
       .cases hso
      refine⟨fun x hx=>by unfold Fx at hx;rw[hU]at hx;simp at hx,?_⟩;by_cases htj:Fx ef j id
      .right
       have hsame:∀k,i<=k->k<=j->fO (Hp k) id=fO (Hp i) id:=by
        intro k hk;induction k with
        |zero=>intro _;rw[show i=0 by omega]
        |succ k ih=>
         intro hkj;by_cases e:i=k+1
         .rw [e]
         .rw [<-ih (by omega) (by omega)];obtain⟨c,hc⟩:∃c,ops[k]?=some c:=⟨_,cq (by omega)⟩
          obtain⟨sk,lk,tk,_⟩:=st k c hc;rw[sk.heap id]
          have hn:id∉(E_ (ef k)).map (·.1):=by
           by_cases e2:k=i
           .subst e2;rw[hU];simp
           .have hm:(lk,(E_ (ef k)).map (·.1))∈(tr.take j).drop (i+1):=by refine bA (i:=k-(i+1)) ?_;rw[List.getElem?_drop,show i+1+(k-(i+1))=k by omega,List.getElem?_take,if_pos (by omega)];exact tk
            have:=cw.1 hd _ hm;simpa using this
          rw[uX hn]
       have hjs:=sb.2.2.2.2;unfold Fx at htj;cases hfj:ef j with
       |none=>rw[hfj]at htj;simp[E_]at htj
       |some pj=>
        obtain⟨vj,uj,lj',nj⟩:=pj;rw[hfj]at hjs htj;obtain⟨_,_,_,_,_,_,_,hent⟩:=hjs;obtain⟨id2,kT,vT,mp,q,g1,g2⟩:=hent hlkF.2;have g2':uj=_:=g2;subst g2';obtain rfl:id=id2:=by simpa[E_]using htj
        rw[hsame j (by omega) (aw _)]at g1;refine⟨id,fun x hx=>by simpa using hli x hx,fun φ hs i' l o h1 h2=>?_,fun o v u l n' ho hf hid=>?_⟩
        .rw [hfj]at h2;change fO ((id,_)::Hp i) i'=some o at h2;by_cases e:id=i'
         .subst e;simp[fO,iV]at h2;subst h2;trivial
         .have:fO ((id,some (O.mp kT vT (pp mp (pM vT) q).1))::Hp i) i'=fO (Hp i) i':=by simp[fO,mJ,e]
          rw[this]at h2;exact hs i' l o h1 h2
        .rw [ha]at ho;cases ho;have his:=sa.2.2.2.2;rw[hf]at his;obtain⟨_,_,_,vs,k1,_,k3,_⟩:=his;rw[hfj];exact⟨vs,k1,k3 hlkF.1 id hid kT vT mp q g1⟩
      grind
     .cases hd
   .rw [if_neg hso]at hd;have e1:Nat.ble 1000 j=false:=by rw[<-Bool.not_eq_true,Nat.ble_eq];omega
    simp_all
def KW(ops:Array Oper)(D:Nat->Bool):Prop:=∀(k:Nat)(o:Oper),ops[k]?=some o->D k=true->∀e∈o.after,Region.binds .any e=true->D e.on=true
theorem ja.Fd(hp:ja P bI nt ops m E Hp N ef){D:Nat->Bool}(hc:KW ops D){i:Nat}:∀(M j:Nat),j<M->j<ops.size->D j=true->il m i j=true->D i=true:=by
 intro M;induction M with
 |zero=>omega
 |succ M ih=>
  intro j hj hjn hD hb;have ho:=cq hjn;obtain⟨h1,h2⟩:=hp.ord j _ ho;obtain⟨e,he,hbd,h⟩:=h1 i hb;have hDe:=hc j _ ho hD e he hbd
  grind
theorem ja.akr(hp:ja P bI nt ops m E Hp N ef){D:Nat->Bool}(hc:KW ops D){i j:Nat}{o:Oper}(hi:ops[i]?=some o)(hall:∀e∈o.after,Region.binds .any e=true->D e.on=true)
  (hb:il m j i=true):D j=true:=by
 obtain⟨h1,h2⟩:=hp.ord i _ hi;obtain⟨e,he,hbd,h⟩:=h1 j hb;have hDe:=hall e he hbd;rcases h with h|h
 .rw [<-h];exact hDe
 .have:=h2 e he hbd;have hlt:=(bZ.1 hi).1;exact hp.Fd hc _ e.on (by omega) (by omega) hDe h
theorem TS{d:Option Nat}{l:List Nat}{t:Nat}(hd:d=some t)(h:t∈l):V1 d l=true:=by subst hd;simpa[V1]using h
theorem ja.akg(hp:ja P bI nt ops m E Hp N ef){D:Nat->Bool}(hc:KW ops D){i:Nat}{o:Oper}(hi:ops[i]?=some o)(hD:D i=false)
  (hall:∀e∈o.after,Region.binds .any e=true->D e.on=true):
  (∀t∈Nl (df P bI nt ops o),zM (Am ops) ef D (E 0) ops.size t=E i t)/\
  (∀v u l n',ef i=some (v,u,l,n')->∃G vs,QH (E i) (df P bI nt ops o).args vs/\aaT P o (df P bI nt ops o).args vs G (N i) n' v u l/\(∀φ,A6 φ (Hp i)->A6 φ G)/\∀id∈l,pA ef D (fO (Hp 0)) ops.size id=fO G id)/\
  (∀t,o.dst=some t->∀k,i<k->k<ops.size->D k=true->Am ops k≠some t)/\(∀id,Fx ef i id->∀k,i<k->k<ops.size->D k=true->¬Fx ef k id):=by
 have hlt:i<ops.size:=(bZ.1 hi).1;have get:∀k,k<ops.size->∃b,ops[k]?=some b:=fun k hk=>⟨_,cq hk⟩;have lat:∀k,i<k->k<ops.size->il m i k=true->D k=false:=by intro k _ hk hb;cases hDk:D k with|false=>rfl|true=>rw[hp.Fd hc (k+1) k (by omega) hk hDk hb]at hD;cases hD
 have henv:∀k,k<ops.size->∀t,E (k+1) t=if Am ops k=some t then some (We (ef k))else E k t:=fun k hk t=>by obtain⟨b,hb⟩:=get k hk;rw[(hp.iT k b hb).2.1];simp only[sg,Am,hb,aa];rfl
 have hhp:∀k,k<ops.size->∀id,fO (Hp (k+1)) id=match iV (E_ (ef k)) id with|some o=>o|none=>fO (Hp k) id:=fun k hk id=>by obtain⟨b,hb⟩:=get k hk;exact(hp.iT k b hb).heap id
 refine⟨fun t ht=>?_,fun v u l n' hf=>?_,fun t ht k hik hk hDk hdk=>?_,fun id ht k hik hk hDk htk=>?_⟩
 .refine T6 henv (Nat.le_of_lt hlt) (fun k hk hd=>?_) (fun k hik hk hd=>?_)
  .obtain ⟨b,hb⟩:=get k (by omega);have hbd:(df P bI nt ops b).dst=some t:=by show b.dst=some t;simpa[Am,hb]using hd
   rcases hp.con k i b o hb hi hk with h|h
   .exact hp.akr hc hi hall h
   .simp [Kz,TS hbd ht]at h
  .rcases f_ i k with h1|h1
   .obtain ⟨b,hb⟩:=get k (by omega);have hbd:(df P bI nt ops b).dst=some t:=by show b.dst=some t;simpa[Am,hb]using hd
    rcases hp.con i k o b hi hb h1 with h|h
    .exact lat k h1 hk h
    .simp [Kz,TS hbd ht]at h
   grind
 .have his:=(hp.iT i o hi).2.2.2.2;rw[hf]at his;obtain⟨_,_,_,vs,k1,k2,_⟩:=his;have hR:Nt (ef i)=l:=by rw[hf];rfl
  by_cases hsoft:∃k,i<k/\k<ops.size/\D k=true/\∃id∈Nt (ef i),Fx ef k id
  .obtain ⟨k,⟨hik,hk,hDk,id0,hid0,ht0⟩,hmax⟩:∃k,(i<k/\k<ops.size/\D k=true/\∃id∈Nt (ef i),Fx ef k id)/\∀k',k<k'->¬(i<k'/\k'<ops.size/\D k'=true/\∃id∈Nt (ef i),Fx ef k' id):=by
    have:∀(M:Nat)(k:Nat),ops.size-k<=M->(i<k/\k<ops.size/\D k=true/\∃id∈Nt (ef i),Fx ef k id)->
      ∃k,(i<k/\k<ops.size/\D k=true/\∃id∈Nt (ef i),Fx ef k id)/\∀k',k<k'->¬(i<k'/\k'<ops.size/\D k'=true/\∃id∈Nt (ef i),Fx ef k' id):=by
     intro M;induction M with
     |zero=>intro k h1 h2;omega
     |succ M ihM=>
      intro k h1 h2;by_cases hm:∃k',k<k'/\(i<k'/\k'<ops.size/\D k'=true/\∃id∈Nt (ef i),Fx ef k' id)
      .obtain ⟨k',h3,h4⟩:=hm;exact ihM k' (by omega) h4
      grind
    obtain⟨k,h⟩:=hsoft;exact this _ k (aw _) h
   rcases hp.apt i k hik hk with h|⟨_,h|⟨id,h1,h2,h3⟩⟩
   .rw [lat k hik hk h]at hDk;cases hDk
   .exact absurd hid0 (h id0 ht0)
   .obtain rfl:=h1 id0 hid0;obtain⟨vs',q1,q2⟩:=h3 o v u l n' hi hf (hR▸hid0);refine⟨E_ (ef k)++Hp i,vs',q1,q2,h2,fun id' hid'=>?_⟩;obtain rfl:=h1 id' (hR▸hid');obtain⟨x,hx⟩:=ZJ ht0
    have hlast:∀n',k<n'->n'<=ops.size->pA ef D (fO (Hp 0)) n' id'=x:=by
     intro n' hkn;induction n' with
     |zero=>omega
     |succ n' ihn=>
      intro hn';simp only[pA];by_cases e:n'=k
      .subst e;rw[if_pos hDk,hx]
      .have hno:¬(D n'=true/\Fx ef n' id'):=fun hh=>hmax n' (by omega) ⟨by omega,by omega,hh.1,id',hid0,hh.2⟩;have:=ihn (by omega) (by omega);cases hDn:D n' with|false=>simpa[hDn]using this|true=>have hnt:¬Fx ef n' id':=fun h=>hno ⟨hDn,h⟩;rw[uX hnt];simpa[hDn]using this
    rw[hlast ops.size hk (aw _),oz];simp only[up,hx]
  .refine ⟨Hp i,vs,k1,k2.act,fun φ h=>h,fun id hid=>?_⟩;rw[<-hR]at hid;refine PQ (Hp:=fun k=>fO (Hp k)) hhp (Nat.le_of_lt hlt) (fun k hk hd=>?_) (fun k hik hk hd=>?_)
   .rcases hp.apt k i hk hlt with h|h
    .exact hp.akr hc hi hall h
    .exact absurd hid (h.1 id hd).1
   grind
 .obtain ⟨b,hb⟩:=get k hk;have hbd:(df P bI nt ops b).dst=some t:=by show b.dst=some t;simpa[Am,hb]using hdk
  rcases hp.con i k o b hi hb hik with h|h
  .rw [lat k hik hk h]at hDk;cases hDk
  grind [df,Kz,V1]
 .rcases hp.apt i k hik hk with h|h
  .rw [lat k hik hk h]at hDk;cases hDk
  .exact absurd htk (h.1 id ht).2
end
section
variable{P:Program}{S K:Nat->Prop}{w0 w:World}{φ:iq}{gv:List Value}{nt:Nat}{a:Act}{bI:II}{ops:Array Oper}{m:List Nat}{E:Nat->oc}{Hp:Nat->H2}{N:Nat->Nat}{ef:Nat->Ef}{gh:V}
def Wn(D:Nat->Bool):Nat->Nat
 |0=>0
 |k+1=>Wn D k+if D k=true then 0 else 1
theorem ac5{D D':Nat->Bool}{i:Nat}(hD:∀k,k≠i->D' k=D k)(h1:D' i=true)(h0:D i=false):∀n,i<n->Wn D' n+1=Wn D n:=by
 have a:∀k,k<=i->Wn D' k=Wn D k:=by intro k;induction k with|zero=>intro _;rfl|succ k ih=>intro hk;simp[Wn];rw[ih (by omega),hD k (by omega)]
 intro n;induction n with
 |zero=>omega
 |succ n ih=>
  simp[Wn]
  grind
theorem aaf{D:Nat->Bool}:∀{n:Nat},Wn D n=0->∀k,k<n->D k=true:=by intro n;induction n with|zero=>omega|succ n ih=>grind [Wn]
theorem ac4(n:Nat):Wn (fun _=>false) n=n:=by induction n with|zero=>rfl|succ n ih=>simp[Wn,ih]
theorem Ah{f:Nat->Nat}{n:Nat}(h:∀k,k<n->f k<=f (k+1)):∀{i j:Nat},i<=j->j<=n->f i<=f j:=by
 intro i j hij;induction j with
 |zero=>intro _;rw[show i=0 by omega];exact aw _
 |succ j ih=>
  intro hj;by_cases e:i=j+1
  .rw [e];exact aw _
  .exact bg (ih (by omega) (by omega)) (h j (by omega))
theorem ja.HR(hp:ja P bI nt ops m E Hp N ef){i:Nat}{o:Oper}(ho:ops[i]?=some o){φ':iq}{H H':Hf}{S':Nat->Prop}{w':World}(hsh:∀j,j<=ops.size->A6 φ (Hp j))(hr:Ren φ φ')(hnew:∀id l,φ' id=some l->φ id=none->N i<=id/\id<N (i+1))(hI:Inv S' K w0 φ' H' w')
  (hH:H'=up H (E_ (ef i))):∀j,j<=ops.size->A6 φ' (Hp j):=by
 have hlt:i<ops.size:=(bZ.1 ho).1;have hN:∀k,k<ops.size->N k<=N (k+1):=fun k hk=>(hp.iT k _ (cq hk)).1;intro j hj id l o' h1 h2;cases e:φ id with
 |some l0=>obtain rfl:=af ((hr id l0 e).symm.trans h1);exact hsh j hj id l0 o' e h2
 |none=>
  obtain⟨b1,b2⟩:=hnew id l h1 e;have none_le:∀k,k<=i->fO (Hp k) id=none:=fun k hk=>by cases e2:fO (Hp k) id with|none=>rfl|some x=>have:=(hp.ok k (by omega)).DZ.lt id x e2;have:=Ah hN hk (by omega);omega
  have h0:∀o,fO (Hp (i+1)) id=some o->Ev.HR l o:=by
   intro x hx;rw[(hp.iT i o ho).heap id,none_le i (aw _)]at hx;cases e2:iV (E_ (ef i)) id with
   |none=>rw[e2]at hx;cases hx
   |some y=>
    rw[e2]at hx;have hx:y=some x:=hx;have:H' id=some x:=by rw[hH];simp only[up,e2,hx]
    obtain⟨l2,a1,a2,_⟩:=hI.o9 id x this;obtain rfl:=af (h1.symm.trans a1);exact a2.HR
  have all:∀d,i+1+d<=ops.size->∀o,fO (Hp (i+1+d)) id=some o->Ev.HR l o:=by intro d;induction d with|zero=>intro _;exact h0|succ d ih=>intro hd;have st:=hp.iT (i+1+d) _ (cq (by omega));have hm:=Ah hN (show i+1<=i+1+d by omega) (by omega);exact FC st.gj (by omega) (ih (by omega))
  rcases f_ i j with h|h
  .have:=all (j-(i+1)) (by omega) o';rw[show i+1+(j-(i+1))=j by omega]at this;exact this h2
  .rw [none_le j h]at h2;cases h2
theorem Z2(hnt:nt<1000000000)(hp:ja P bI nt ops m E Hp N ef){Q:Exit->Act->World->Prop}{S0:Nat->Prop}{ws:World}{a0:Act}{φ0:iq}
  (hQ:∀S' φ' a' w',iW S0 ws S' w'->NT S' K w0 φ' gv nt (E ops.size) (fO (Hp ops.size)) gh a' w'->(∀j,N ops.size<=j->φ' j=none)->A6 φ' (Hp ops.size)->Ly ops.toList (N 0) φ0 φ' a0 a'->Q .normal a' w'):
  ∀(fuel:Nat)(listed:Array Bool)(S:Nat->Prop)(φ:iq)(a:Act)(w:World)(ec:oc)(hc:Hf),
  listed.size=ops.size->Wn (fun k=>listed.getD k false) ops.size<=fuel->KW ops (fun k=>listed.getD k false)->
  (∀t,ec t=zM (Am ops) ef (fun k=>listed.getD k false) (E 0) ops.size t)->(∀id,hc id=pA ef (fun k=>listed.getD k false) (fO (Hp 0)) ops.size id)->
  NT S K w0 φ gv nt ec hc gh a w->(∀j l,φ j=some l->j<N 0\/∃i,i<ops.size/\listed.getD i false=true/\N i<=j/\j<N (i+1))->(∀j,j<=ops.size->A6 φ (Hp j))->iW S0 ws S w->Ly ops.toList (N 0) φ0 φ a0 a->wpAny P .any ops Q fuel listed a w:=by
 have hN:∀k,k<ops.size->N k<=N (k+1):=fun k hk=>(hp.iT k _ (cq hk)).1;have henvS:∀k,k<ops.size->∀t,E (k+1) t=if Am ops k=some t then some (We (ef k))else E k t:=fun k hk t=>by rw[(hp.iT k _ (cq hk)).2.1];simp only[sg,Am,cq hk,aa];rfl
 have hhpS:∀k,k<ops.size->∀id,fO (Hp (k+1)) id=match iV (E_ (ef k)) id with|some o=>o|none=>fO (Hp k) id:=fun k hk id=>(hp.iT k _ (cq hk)).heap id
 have CI:∀{listed:Array Bool}{S:Nat->Prop}{φ:iq}{a:Act}{w:World}{ec:oc}{hc:Hf},(∀k,k<ops.size->listed.getD k false=true)->(∀t,ec t=zM (Am ops) ef (fun k=>listed.getD k false) (E 0) ops.size t)->(∀id,hc id=pA ef (fun k=>listed.getD k false) (fO (Hp 0)) ops.size id)->
   NT S K w0 φ gv nt ec hc gh a w->(∀j l,φ j=some l->j<N 0\/∃i,i<ops.size/\listed.getD i false=true/\N i<=j/\j<N (i+1))->(∀j,j<=ops.size->A6 φ (Hp j))->iW S0 ws S w->Ly ops.toList (N 0) φ0 φ a0 a->Q .normal a w:=by
  intro listed S φ a w ec hc hall henv hheap hR hK hsh gj hkp;have e1:ec=E ops.size:=by funext t;rw[henv];exact T6 henvS (aw _) (fun k hk _=>hall k hk) (fun k h1 h2 _=>by omega)
  have e2:hc=fO (Hp ops.size):=by funext id;rw[hheap];exact PQ (Hp:=fun k=>fO (Hp k)) hhpS (aw _) (fun k hk _=>hall k hk) (fun k h1 h2 _=>by omega)
  subst e1;subst e2;refine hQ S φ a w gj hR (fun j hj=>?_) (hsh _ (aw _)) hkp;cases e:φ j with
  |none=>rfl
  |some l=>
   rcases hK j l e with h|⟨i,hi,_,_,h⟩
   .have:=Ah hN (cG ops.size) (aw _);omega
   .have:=Ah hN (show i+1<=ops.size by omega) (aw _);omega
 intro fuel;induction fuel with
 |zero=>
  intro listed S φ a w ec hc hsz hcnt hcl henv hheap hR hK hsh gj hkp;have hall:=aaf (Nat.le_zero.1 hcnt);refine⟨?_,CI hall henv hheap hR hK hsh gj hkp⟩;rw[List.eq_nil_iff_forall_not_mem];intro i hi;obtain⟨h0,o,ho,_⟩:=mem_ready.1 hi;have hlt:i<ops.size:=(bZ.1 ho).1;have h2:=hall i hlt;have hlt2:i<listed.size:=by omega
  simp[Array.getD,hlt2]at h0 h2;rw[h0]at h2;simp at h2
 |succ fuel ih=>
  intro listed S φ a w ec hc hsz hcnt hcl henv hheap hR hK hsh gj hkp;refine⟨fun hnil=>CI ?_ henv hheap hR hK hsh gj hkp,fun i hi=>?_⟩
  .intro k;induction k using Nat.strongRecOn with
   |_ k ihk=>
    intro hk;cases hd:listed.getD k false with
    |true=>rfl
    |false=>
     exfalso;have ho:ops[k]?=some ops[k]:=cq hk
     have:k∈Region.ready .any ops listed:=by
      rw[mem_ready];refine⟨?_,_,ho,fun e he hbk=>?_⟩
      .grind
      .have:=(hp.ord k _ ho).2 e he hbk;exact ihk e.on this (by omega)
     rw[hnil]at this;simp at this
  .obtain ⟨h0,o,ho,hall⟩:=mem_ready.1 hi;have hlt:i<ops.size:=(bZ.1 ho).1;have hlt2:i<listed.size:=by omega
   have hD:listed.getD i false=false:=by grind
   have hstep:=hp.iT i o ho;obtain⟨s1,s2,s3,s4⟩:=hp.akg (D:=fun k=>listed.getD k false) hcl ho hD hall;have hD':∀k,k≠i->(listed.setIfInBounds i true).getD k false=listed.getD k false:=fun k hk=>getD_set_ne false (fun e=>hk e.symm);have hDi:(listed.setIfInBounds i true).getD i false=true:=by simp[hlt2]
   have hcnt':Wn (fun k=>(listed.setIfInBounds i true).getD k false) ops.size<=fuel:=by have:=ac5 (D:=fun k=>listed.getD k false) (D':=fun k=>(listed.setIfInBounds i true).getD k false) hD' hDi hD ops.size hlt;omega
   have hcl':KW ops (fun k=>(listed.setIfInBounds i true).getD k false):=by
    intro k o' ho' hk e he hb;by_cases e1:k=i
    .subst e1;obtain rfl:o=o':=af (ho.symm.trans ho');exact getD_set_true (hall e he hb)
    .have hk':listed.getD k false=true:=by rw[<-hD' k e1];exact hk
     exact getD_set_true (hcl k o' ho' hk' e he hb)
   have hdstD:Am ops i=o.dst:=by simp[Am,ho]
   have hfree:∀j,N i<=j->j<N (i+1)->φ j=none:=by
    intro j h1 h2;cases e:φ j with
    |none=>rfl
    |some l=>
     exfalso;rcases hK j l e with h|⟨k,hk,h3,h4,h5⟩
     .have:=Ah hN (cG i) (by omega);omega
     .have hne:k≠i:=by rintro rfl;rw[h3]at hD;cases hD
      rcases f_ k i with h6|h6
      .have:=Ah hN (show k+1<=i by omega) (by omega);omega
      .have:=Ah hN (show i+1<=k by omega) (by omega);omega
   refine Oy hnt hstep hR (fun t ht=>by rw[henv t];exact s1 t ht) ho (fun v u l n' hf=>?_) hfree fun S' φ' a' w' h1 h2 h3 h4 h9=>?_
   .obtain ⟨G,vs,q1,q2,q3,q4⟩:=s2 v u l n' hf;exact⟨G,vs,q1,q2,q3 φ (hsh i (by omega)),fun id hid=>by rw[hheap id];exact q4 id hid⟩
   .refine ih _ S' φ' a' w' (sg ec o.dst (We (ef i))) (up hc (E_ (ef i))) (by simp[hsz]) hcnt' hcl' (fun t=>?_) (fun id=>?_) h4 (fun j l hj=>?_) (hp.HR ho hsh h2 h3 h4.inv rfl) (gj.trans h1) (hkp.iT (bA (by rw[eF];exact ho)) h2 h3 (Ah hN (cG i) (by omega)) h9)
    .rw [ZU (D:=fun k=>listed.getD k false) hlt hD' hDi hD (fun hd=>s3 t (by rw[hdstD]at hd;exact hd)),hdstD];simp only[sg,henv t]
    .rw [V3 (D:=fun k=>listed.getD k false) hlt hD' hDi hD (fun ht=>s4 id ht)];simp only[up,hheap id];cases iV (E_ (ef i)) id<;>rfl
    .cases e:φ j with
     |none=>have:=h3 j l hj e;exact .inr ⟨i,hlt,hDi,this.1,this.2⟩
     |some l0=>
      rcases hK j l0 e with h|⟨k,hk,q1,q2⟩
      .exact .inl h
      .exact .inr ⟨k,hk,getD_set_true q1,q2⟩
end
def Vi:ik->Exit
 |.normal=>.normal
 |.exit id=>.exit id
 |.ret=>.ret
structure Fr(s s':S2):Prop where
 le:s.next<=s'.next
 wo:∃W,s'.wo=W++s.wo/\∀id,id∉W->fO s'.heap id=fO s.heap id
theorem Fr.refl(s:S2):Fr s s:=⟨aw _,[],rfl,fun _ _=>rfl⟩
theorem Fr.trans{a b c:S2}(h1:Fr a b)(h2:Fr b c):Fr a c:=by obtain⟨W1,e1,k1⟩:=h1.wo;obtain⟨W2,e2,k2⟩:=h2.wo;refine⟨bg h1.le h2.le,W2++W1,by rw[e2,e1];simp,fun id hid=>?_⟩;simp only[aK,not_or]at hid;rw[k2 id hid.1,k1 id hid.2]
structure oA(ds:List Nat)(n:Nat)(φ0 φ:iq)(a0 a:Act):Prop where
 tmp:∀t,t∉ds->a.tmps.getD t undef=a0.tmps.getD t undef
 plc:∀i,i<n->φ i=φ0 i
theorem oA.refl(ds:List Nat)(n:Nat)(φ:iq)(a:Act):oA ds n φ φ a a:=⟨fun _ _=>rfl,fun _ _=>rfl⟩
theorem oA.trans{d1 d2:List Nat}{n m:Nat}{φ0 φ1 φ2:iq}{a0 a1 a2:Act}(h1:oA d1 n φ0 φ1 a0 a1)(h2:oA d2 m φ1 φ2 a1 a2)(hn:n<=m):oA (d1++d2) n φ0 φ2 a0 a2:=by refine⟨fun t ht=>?_,fun i hi=>(h2.plc i (by omega)).trans (h1.plc i hi)⟩;simp only[aK,not_or]at ht;exact(h2.tmp t ht.2).trans (h1.tmp t ht.1)
theorem oA.sub{d1 d2:List Nat}{n:Nat}{φ0 φ1:iq}{a0 a1:Act}(h:oA d1 n φ0 φ1 a0 a1)(hs:∀t∈d1,t∈d2):oA d2 n φ0 φ1 a0 a1:=⟨fun t ht=>h.tmp t fun h1=>ht (hs t h1),h.plc⟩
theorem Ly.n{os:List Oper}{n m:Nat}{φ0 φ:iq}{a0 a:Act}(h:Ly os n φ0 φ a0 a)(hm:m<=n):oA (os.filterMap (·.dst)) m φ0 φ a0 a:=⟨fun t ht=>h.tmp t fun o ho e=>ht (List.mem_filterMap.2 ⟨o,ho,e⟩),fun i hi=>h.plc i (by omega)⟩
def D8(S K:Nat->Prop)(w0 w:World)(φ:iq)(a:Act)(gv:List Value)(nt:Nat)(ds:List Nat)(s:S2){β:Type}(k:ik->S2->Option β)(r:β)(e:Exit)(a':Act)(w':World):Prop:=∃o s',k o s'=some r/\e=Vi o/\Fr s s'/\∃S' φ',iW S w S' w'/\oA ds s.next φ φ' a a'/\Ax S' K w0 φ' gv nt s' a' w'
section
variable{P:Program}{S K:Nat->Prop}{w0 w:World}{φ:iq}{gv:List Value}{nt:Nat}{a:Act}{bI:II}{ops:Array Oper}{tb:Lv}{s s':S2}{β:Type}{r:β}
theorem Inv.adu{H:Hf}(hI:Inv S K w0 φ H w){id id2 m ver:Nat}{u:Ty}{r:List (Sl (El u))}{x:Sl (El u)}(ho:H id=some (.rw u (.mk r) (some (m,id2))))(h2:H id2=some (.ar u x ver))(hne:id≠id2):
  Inv S K w0 φ (up H [(id,some (.rw u (.mk (r.set m x)) none)),(id2,none)]) w:=by
 obtain⟨l2,b1,b2,_⟩:=hI.o9 id2 _ h2
 have hI2:=hI.mg (o':=.rw u (.mk (r.set m x)) (some (m,id2))) ho (fun l hr=>by
  obtain⟨h1,h2,h3,h4,h5⟩:=hr;refine⟨h1,by rw[h2];simp[nB],h3,h4,fun r' e=>?_⟩;cases e;obtain⟨cr,k1,k2,k3,k4,k5,k6⟩:=h5 r rfl;refine⟨cr,k1,k2,by simpa using k3,by simpa using k4,by simpa using k5,fun i y hi=>?_⟩;by_cases e:m=i
  .subst e;have hm:m<r.length:=by have:=(bG.1 hi).1;simpa using this
   obtain⟨v,v1,v2⟩:=k6 m _ (bf hm);rw[o7 hm]at hi;cases hi;simp only[if_true]at v2;refine⟨v,v1,?_⟩;simp only[if_true];exact⟨⟨l2,b1,b2.2.1⟩,v2.2⟩
  .rw [List.getElem?_set_ne e]at hi;obtain⟨v,v1,v2⟩:=k6 i y hi;simp only[if_neg e]at v2;exact⟨v,v1,by simp only[if_neg e];exact v2⟩) (fun l=>by simp[ob])
 by_cases hm:m<r.length
 .have:=hI2.aaI (id:=id) (id2:=id2) (m:=m) (r:=r.set m x) (x:=x) (ver:=ver) (by rw[cx,if_pos rfl]) (by rw[cx,if_neg hne];exact h2) (by rw[o7 hm]) hne
  have e:up (up H [(id,some (.rw u (.mk (r.set m x)) (some (m,id2))))]) [(id,some (.rw u (.mk (r.set m x)) none)),(id2,none)]=up H [(id,some (.rw u (.mk (r.set m x)) none)),(id2,none)]:=by
   funext j;simp only[cx,GH];by_cases e:id=j
   .simp [e]
   .simp [e]
  rw[e]at this;exact this
 .have hset:r.set m x=r:=List.set_eq_of_length_le (by omega);rw[hset]at hI2|-
  have hI3:=hI.mg (o':=.rw u (.mk r) none) ho (fun l hr=>by
   obtain⟨h1,h2,h3,h4,h5⟩:=hr;refine⟨h1,h2,h3,h4,fun r' e=>?_⟩;cases e;obtain⟨cr,k1,k2,k3,k4,k5,k6⟩:=h5 r rfl;have hrow:∀i,i<r.length->vR w l none i=vR w l (some (m,id2)) i:=fun i hi=>by rw[mq,sN l (by omega)]
   refine⟨cr,k1,k2,k3,k4,fun i j b hi hj hb=>?_,fun i y hi=>?_⟩
   .rw [hrow i hi]at hb;rw[hrow j hj];exact k5 i j b hi hj hb
   .obtain ⟨v,v1,v2⟩:=k6 i y hi;have hne2:m≠i:=by have:=(bG.1 hi).1;omega
    simp only[if_neg hne2]at v2;exact⟨v,v1,v2⟩) (fun l=>by
   simp only[ob,Jy];congr 1
   exact Kj fun i hi=>by
    have hi:i<r.length:=by simpa using hi
    rw[mq,sN l (by omega)])
  refine hI3.G7 fun i o h=>?_;simp only[cx,GH]at h|-;by_cases e:id=i
  .simpa [e]using h
  .rw [if_neg e]at h|-;split at h
   .cases h
   .exact h
theorem wu.rel{u:xm}(hT:wu s s' u)(hR:Ax S K w0 φ gv nt s a w)(hn:s'.next=s.next)(hI:Inv S K w0 φ (up (fO s.heap) u) w):Ax S K w0 φ gv nt s' a w/\Fr s s':=by
 have gj:=hT.gj;have e1:s'.jl=s.jl:=by rw[hT.eq]
 have e2:s'.gh=s.gh:=by rw[hT.eq]
 refine⟨⟨⟨by rw[hT.heap,oz];exact hI,by rw[e1];exact hR.rx.jl,hR.rx.size,hR.rx.defers,by rw[e2];exact hR.rx.gh⟩,by rw[hn];exact hR.zk,?_,⟨hT.DZ hR.ok.DZ,fun t v hv=>eA hT.le gj (hR.ok.jl t v (by rw[<-e1];exact hv))⟩,fun c hc=>eA hT.le gj (hR.ZC c (by rw[<-e2];exact hc))⟩,
  ⟨hT.le,u.map (·.1),by rw[hT.eq],fun id hid=>?_⟩⟩
 .refine A6.mono hR.HR gj fun i l hi=>?_;rcases f_ i s.next with h|h
  .exact h
  .rw [hR.zk i h]at hi;cases hi
 .rw [hT.heap,oz];simp only[up,uX hid]
theorem adv{id:Nat}(hR:Ax S K w0 φ gv nt s a w)(h:agL s id=some s'):Ax S K w0 φ gv nt s' a w/\Fr s s':=by
 unfold agL at h;split at h
 .rename_i t v m id2 ho;split at h<;>first|(cases h;done)|skip
  rename_i u x ver h2;split at h<;>cases h;rename_i r hr;obtain⟨rfl,rfl⟩:=zx hr;have hne:id≠id2:=fun e=>by subst e;rw[ho]at h2;cases h2
  have hid:=hR.ok.DZ.lt _ _ ho
  have hT:wu s (j8 (j8 s id2 none) id (some (.rw u (v.to (v.l.set m x)) none))) [(id,some (.rw u (v.to (v.l.set m x)) none)),(id2,none)]:=by
   refine⟨aw _,rfl,mA.cons (fun o' e=>.inr (.inr ⟨_,ho,?_⟩)) (mA.cons (fun o' e=>by cases e) mA.nil),fun p hp=>?_,fun p hp t c e=>?_⟩
   .cases e;refine⟨rfl,?_⟩;cases v with|nil=>rfl|mk r=>simp[nB,Sl.to,Sl.l]
   .simp only[aO,bF,or_false]at hp;rcases hp with rfl|rfl
    .exact .inl ⟨hid,trivial⟩
    .exact .inr rfl
   .simp only[aO,bF,or_false]at hp;rcases hp with rfl|rfl<;>cases e
  refine hT.rel hR rfl ?_;cases v with
  |mk r=>exact hR.rx.inv.adu ho h2 hne
  |nil=>
   have hI3:=hR.rx.inv.mg (o':=.rw u Sl.nil none) ho (fun l hr=>⟨hr.1,hr.2.1,hr.2.2.1,hr.2.2.2.1,fun r' e=>by cases e⟩) (fun l=>rfl);refine hI3.G7 fun i o h=>?_;simp only[cx,GH]at h|-;by_cases e:id=i
   .simpa [e,Sl.to]using h
   .rw [if_neg e]at h|-;split at h
    .cases h
    .exact h
 .cases h;exact⟨hR,Fr.refl _⟩
theorem Mr:∀{l:List Nat}{s:S2},Ax S K w0 φ gv nt s a w->NQ l s=some s'->Ax S K w0 φ gv nt s' a w/\Fr s s':=by
 intro l;induction l with
 |nil=>intro s hR h;cases h;exact⟨hR,Fr.refl _⟩
 |cons id l ih=>
  intro s hR h;simp only[NQ]at h;split at h<;>first|(cases h;done)|skip
  rename_i s1 h1;obtain⟨r1,f1⟩:=adv hR h1;obtain⟨r2,f2⟩:=ih r1 h;exact⟨r2,f1.trans f2⟩
theorem Ml{E:Nat->oc}{Hp:Nat->H2}{N:Nat->Nat}{ef:Nat->Ef}{n:Nat}(st:∀k,k<n->D_ (N k) (Hp k) (Hp (k+1))/\N k<=N (k+1)):∀k,k<=n->D_ (N 0) (Hp 0) (Hp k)/\N 0<=N k:=by intro k;induction k with|zero=>intro _;exact⟨D_.refl _ _,aw _⟩|succ k ih=>intro hk;obtain⟨h1,h2⟩:=ih (by omega);obtain⟨h3,h4⟩:=st k (by omega);exact⟨h1.trans h2 h3,bg h2 h4⟩
theorem SZ{dr:Option Nat}{E:Nat->oc}{Hp:Nat->H2}{N:Nat->Nat}{ef:Nat->Ef}{q':Rg}{tr:WO}{os:List Oper}(hT:Eo P bI nt ops dr os 0 s (iV s.jl) E Hp N ef s' q' tr)(h0:s.next<=N 0)(hok:SD s.next s.heap (iV s.jl))(hgok:∀c∈kO s.gh,fG s.next s.heap c)
  (hR:NT S K w0 φ gv nt (E os.length) (fO (Hp os.length)) s.gh a w) (hfr:∀j,N os.length<=j->φ j=none) (hsh:A6 φ (Hp os.length)):Ax S K w0 φ gv nt {s' with next:=N os.length} a w/\Fr s {s' with next:=N os.length}:=by
 have hch:=Ml (E:=E) (ef:=ef) (n:=os.length) (fun k hk=>by have:=(hT.st k _ (bf hk)).1;exact⟨this.gj,this.1⟩) os.length (aw _)
 have gj:D_ s.next s.heap (Hp os.length):=by
  have h1:D_ s.next s.heap (Hp 0):=by rw[hT.h0];exact D_.refl _ _
  exact h1.trans h0 hch.1
 have hev:∀t v,iV s'.jl t=some v->v=.gn\/E os.length t=some v:=hT.rg.ev;have htok:=hT.ok os.length (aw _);refine⟨⟨⟨by show Inv S K w0 φ (fO s'.heap) w;rw[hT.hp];exact hR.inv,fun t v hv=>?_,hR.size,hR.defers,by show∀(i:Nat)(c:V)(v:Value),(kO s'.gh)[i]?=some c->_;rw[hT.gh];exact hR.gh⟩,hfr,by show A6 φ s'.heap;rw[hT.hp];exact hsh,⟨by show DX _ s'.heap;rw[hT.hp];exact htok.DZ,fun t v hv=>?_⟩,fun c hc=>?_⟩,⟨bg h0 hch.2,?_⟩⟩
 .rcases hev t v hv with rfl|h
  .trivial
  .exact hR.jl t v h
 .rcases hev t v hv with rfl|h
  .trivial
  .have:=htok.jl t v h;show fG _ s'.heap v;rw[hT.hp];exact this
 .show fG _ s'.heap c;rw[hT.hp];exact eA (bg h0 hch.2) gj (hgok c (by rw[<-hT.gh];exact hc))
 .obtain ⟨U,u1,u2⟩:=hT.wo;exact⟨U.map (·.1),u2,fun id hid=>by show fO s'.heap id=_;rw[u1,oz];simp only[up,uX hid]⟩
theorem abB(hT:vi P tb)(hnt:nt<1000000000){k:S2->Option β}{e0:List (Nat×V)}(hR:Ax S K w0 φ gv nt s a w)(h:Gi tb (ops.toList.map (AN P bI nt ops)) none s k=some r):
  wpOps P ops (fun e a' w'=>e=.normal/\∃s',k s'=some r/\Fr s s'/\∃S' φ',iW S w S' w'/\oA (ops.toList.filterMap (·.dst)) s.next φ φ' a a'/\Ax S' K w0 φ' gv nt s' a' w') (aG ops.size) a w:=by
 unfold Gi at h;obtain⟨E,Hp,N,ef,s',q',tr',h1,hTr⟩:=L3 hT ops.toList 0 s ⟨[],[]⟩ (iV s.jl) [] h ⟨fun t v hv=>.inr hv,(fun g c hc=>by cases hc),(fun t g b v hc=>by cases hc)⟩ hR.ok (fun b e=>by cases e);obtain⟨n1,n2⟩:=hTr.nn rfl;obtain⟨s3,h3,h4⟩:=zF h1;refine afq (gv:=gv) (K:=K) (w0:=w0) hnt hTr (gh:=s.gh) (S0:=S) (ws:=w) (a0:=a) (φ0:=φ) ?_ (aG ops.size) 0 S φ a w (fun i j hj=>?_) (by simp) ?_ ?_ ?_ (iW.refl _ _) ⟨fun _ _=>rfl,fun _ _=>rfl⟩ (aw _)
 .intro S' φ' a' w' g1 g2 g3 g4 g5;obtain⟨r1,f1⟩:=SZ hTr (by rw[n1];exact aw _) hR.ok hR.ZC g2 g3 g4;have e1:({s' with next:=N ops.toList.length}:S2)=s':=by rw[n2]
  rw[e1]at r1 f1;obtain⟨r2,f2⟩:=Mr r1 h3;exact⟨rfl,s3,h4,f1.trans f2,S',φ',g1,g5.n (by first|(rw[n1];exact aw _)|(rw[hN0];exact aw _)),r2⟩
 .obtain ⟨hlt,rfl⟩:i<ops.size/\i=j:=by obtain⟨q1,q2⟩:=bG.1 hj;simp at q1 q2;exact⟨q1,q2⟩
  simp
 .rw [hTr.e0,hTr.h0];exact hR.rx
 .rw [n1];exact hR.zk
 .rw [hTr.h0];exact hR.HR
theorem abC(hT:vi P tb)(hnt:nt<1000000000){k:S2->Option β}{m:List Nat}(hord:H3 m ops.toList 0=true)(hsch:HT m (ops.toList.map (df P bI nt ops)) 0=true)(hsmall:ops.size<=1000)(hR:Ax S K w0 φ gv nt s a w)
  (h:Gi tb (ops.toList.map (AN P bI nt ops)) (some (Cj m (ops.toList.map (df P bI nt ops)) 0)) s k=some r):
  wpAny P .any ops (fun e a' w'=>e=.normal/\∃s',k s'=some r/\Fr s s'/\∃S' φ',iW S w S' w'/\oA (ops.toList.filterMap (·.dst)) s.next φ φ' a a'/\Ax S' K w0 φ' gv nt s' a' w') ops.size (Array.replicate ops.size false) a {w with drawn:=w.drawn+1}:=by
 unfold Gi at h;obtain⟨E,Hp,N,ef,s',q',tr',h1,hTr⟩:=L3 hT ops.toList 0 s ⟨[],[]⟩ (iV s.jl) [] h ⟨fun t v hv=>.inr hv,(fun g c hc=>by cases hc),(fun t g b v hc=>by cases hc)⟩ hR.ok (fun b e=>by cases e;simp);obtain⟨e1,h2⟩:=aN h1;obtain⟨s3,h3,h4⟩:=zF h2;have hn:=fun j hj=>(hTr.nd _ rfl).2 j hj;have hp:=abJ hTr hord hsch (by simpa using e1) hsmall;have hN0:N 0=s.next:=by have:=hn 0 (cG _);simpa using this
 have hNn:N ops.toList.length=s.next+AI*(ops.toList.map (AN P bI nt ops)).length:=by have:=hn _ (aw _);rw[this];simp
 have hd:∀k,(Array.replicate ops.size false).getD k false=false:=by intro k;simp[Array.getElem?_replicate];split<;>rfl
 have gj:iW S w S {w with drawn:=w.drawn+1}:=iW.D3 S w _;refine Z2 (gv:=gv) (K:=K) (w0:=w0) hnt hp (gh:=s.gh) (S0:=S) (ws:=w) (a0:=a) (φ0:=φ) ?_ ops.size _ S φ a _ (iV s.jl) (fO s.heap) (by simp) ?_ ?_ ?_ ?_ ⟨hR.rx.inv.D3 _ (cA _),hR.rx.jl.mono gj (Ren.refl _),hR.rx.size,hR.rx.defers,fun i c v h1 h2=>(hR.rx.gh i c v h1 h2).mono gj (Ren.refl _)⟩ ?_ ?_ gj ⟨fun _ _=>rfl,fun _ _=>rfl⟩
 .intro S' φ' a' w' g1 g2 g3 g4 g5;have hl:ops.size=ops.toList.length:=by simp
  rw[hl]at g2 g3 g4;obtain⟨r1,f1⟩:=SZ hTr (by rw[hN0];exact aw _) hR.ok hR.ZC g2 g3 g4;rw[hNn]at r1 f1;obtain⟨r2,f2⟩:=Mr r1 h3;exact⟨rfl,s3,h4,f1.trans f2,S',φ',g1,g5.n (by first|(rw[n1];exact aw _)|(rw[hN0];exact aw _)),r2⟩
 .simp only[hd,ac4];exact aw _
 .intro k o _ hk;simp only[hd]at hk;cases hk
 .intro t;simp only[hd];rw[hTr.e0];have:∀k,zM (Am ops) ef (fun _=>false) (iV s.jl) k t=iV s.jl t:=by intro k;induction k with|zero=>rfl|succ k ih=>simp[zM,ih]
  exact(this _).symm
 .intro id;simp only[hd];rw[hTr.h0];have:∀k,pA ef (fun _=>false) (fO s.heap) k id=fO s.heap id:=by intro k;induction k with|zero=>rfl|succ k ih=>simp[pA,ih]
  exact(this _).symm
 .intro j l hj;left;rw[hN0];rcases f_ j s.next with h|h
  .exact h
  .rw [hR.zk j h]at hj;cases hj
 .intro j hj;have hch:=Ml (E:=E) (ef:=ef) (n:=ops.size) (fun k hk=>by have:=hp.iT k _ (cq hk);exact⟨this.gj,this.1⟩) j hj;have h0:A6 φ (Hp 0):=by rw[hTr.h0];exact hR.HR
  refine A6.mono h0 hch.1 fun i l hi=>?_;rw[hN0];rcases f_ i s.next with h|h
  .exact h
  .rw [hR.zk i h]at hi;cases hi
end
theorem Ul{m:List Bd}{j:Nat}{b:Bd}(h:Hy m j=some b):b∈m/\b.j=j:=by
 induction m with
 |nil=>cases h
 |cons c m ih=>
  simp only[Hy]at h;by_cases e:c.j=j
  .rw [show(c.j==j)=true by simpa using e]at h;cases h;exact⟨by simp,e⟩
  .rw [show(c.j==j)=false by simpa using e]at h;obtain⟨h1,h2⟩:=ih h;exact⟨by simp[h1],h2⟩
def pU(m m':List Bd):Prop:=∀j b,Hy m j=some b->Hy m' j=some b
theorem pU.refl(m:List Bd):pU m m:=fun _ _ h=>h
theorem pU.trans{a b c:List Bd}(h:pU a b)(h2:pU b c):pU a c:=fun j x e=>h2 j x (h j x e)
def Cs(m:List Bd):Prop:=∀j1 j2 b1 b2 id,Hy m j1=some b1->Hy m j2=some b2->b1.id=some id->b2.id=some id->j1=j2
theorem aaq{m m':List Bd}{b:Bd}(h:BD m b=some m'):pU m m'/\(Cs m->Cs m')/\∃c,Hy m' b.j=some c/\c.id=b.id:=by
 unfold BD at h;split at h
 .rename_i hn;obtain⟨e,h2⟩:=aN h;cases h2
  have hb:∀j,Hy (b::m) j=if b.j=j then some b else Hy m j:=fun j=>by
   simp only[Hy];by_cases e:b.j=j
   .simp [e]
   .rw [show(b.j==j)=false by simpa using e];simp[e]
  refine⟨fun j c hj=>?_,fun hi j1 j2 b1 b2 id h1 h2 e1 e2=>?_,b,by rw[hb,if_pos rfl],rfl⟩
  .rw [hb];by_cases e:b.j=j
   .rw [e]at hn;rw[hn]at hj;cases hj
   .rw [if_neg e];exact hj
  .have other:∀{c:Bd}{j:Nat},Hy m j=some c->c.id=some id->b.id=some id->False:=by intro c j hc hci hbi;rw[hbi]at e;have:=cw.1 e c (Ul hc).1;rw[hci]at this;simp at this
   rw[hb]at h1 h2;split at h1<;>split at h2
   .omega
   .cases h1;exact(other h2 e2 e1).elim
   .cases h2;exact(other h1 e1 e2).elim
   .exact hi j1 j2 b1 b2 id h1 h2 e1 e2
 .rename_i c hc;split at h<;>first|(cases h;done)|skip
  .rename_i i i' e1 e2;obtain⟨e,h2⟩:=aN h;cases h2;exact⟨pU.refl _,id,c,hc,by rw[e1,e2,eq_of_beq e]⟩
theorem Yl:∀{p:xK}{l:List Nat},S9 p=some l->p=l.map .fd:=by
 intro p;induction p with
 |nil=>intro l h;cases h;rfl
 |cons q p ih=>intro l h;cases q with|fd i=>simp only[S9]at h;split at h<;>cases h;rename_i l' h1;rw[ih h1];rfl|ix n=>cases h
def Ik(b:Nat)(M:List Bd)(os:List JO)(φ:iq):iq:=fun i=>if i<b then φ i else match Hy M (i-b)with|some ⟨_,some id⟩=>φ id|some ⟨_,none⟩=>(match os[i-b]?with|some (.ar t)=>some ⟨0,0,0,0,t,none⟩|_=>none)|none=>none
def MOk(M:List Bd)(os:List JO):Prop:=∀j c,Hy M j=some c->j<os.length/\(c.id=none->∃t,os[j]?=some (.ar t)/\H4 t=true)
section
variable{S K:Nat->Prop}{w0 w:World}{φ φ':iq}{b:Nat}{M:List Bd}{os:List JO}{h:H2}{n:Nat}
theorem Yi{i:Nat}(hi:i<b):Ik b M os φ i=φ i:=by simp[Ik,hi]
theorem S8{j id:Nat}{c:Bd}(hj:Hy M j=some c)(hc:c.id=some id):Ik b M os φ (b+j)=φ id:=by obtain⟨cj,ci⟩:=c;simp only at hc;subst hc;simp[Ik,hj];intro h;omega
theorem O0{j:Nat}{c:Bd}{t:Ty}(hj:Hy M j=some c)(hc:c.id=none)(ho:os[j]?=some (.ar t)):Ik b M os φ (b+j)=some ⟨0,0,0,0,t,none⟩:=by obtain⟨cj,ci⟩:=c;simp only at hc;subst hc;simp[Ik,hj,ho];intro h;omega
theorem RC.WL(hφ:∀i,i<n->φ' i=φ i):∀{v:V}{c:List Value},fG n h v->RC S w φ v c->RC S w φ' v c:=by intro v;induction v with|so id=>rintro c ho ⟨l,h1,h2⟩;exact⟨l,(hφ id ho).trans h1,h2⟩|sr id=>rintro c ho ⟨l,h1,h2⟩;exact⟨l,(hφ id ho).trans h1,h2⟩|sb id ver lo t r=>rintro c ho ⟨l,h1,h2⟩;exact⟨l,(hφ id ho.1).trans h1,h2⟩|op id t p=>rintro c ho ⟨l,h1,h2⟩;exact⟨l,(hφ id ho).trans h1,h2⟩|ep id n t p=>rintro c ho ⟨l,m,h1,h2⟩;exact⟨l,m,(hφ id ho.1).trans h1,h2⟩|om id=>rintro c ho ⟨l,h1,h2⟩;exact⟨l,(hφ id ho).trans h1,h2⟩|vs id t=>rintro c ho ⟨l,h1,h2⟩;exact⟨l,(hφ id ho).trans h1,h2⟩|fn z f l ih=>rintro c ho ⟨d,h1,h2⟩;exact⟨d,h1,ih ho h2⟩|rc l ih=>intro c ho hr;exact ih ho hr|co a r iha ihr=>rintro c ho ⟨d,e,h1,h2,h3⟩;exact⟨d,e,h1,iha ho.1 h2,ihr ho.2 h3⟩|_=>intro c _ hr;exact hr
theorem RW.WL(hφ:∀i,i<n->φ' i=φ i){v:V}{x:Value}(ho:fG n h v)(hr:RW S w φ v x):RW S w φ' v x:=by
 have k1:∀{v:V}{x:Value},fG n h v->R1 S w φ v x->R1 S w φ' v x:=fun ho⟨c,h1,h2⟩=>⟨c,h1.WL hφ ho,h2⟩;have k2:∀{l:V}{xs:List Value},fG n h l->RW.RWs S w φ l xs->RW.RWs S w φ' l xs:=by intro l;induction l with|co a r _ ihr=>rintro xs ho ⟨x,ys,h1,h2,h3⟩;exact⟨x,ys,h1,k1 ho.1 h2,ihr ho.2 h3⟩|ni=>intro xs _ h;exact h|_=>intro xs _ h;exact h.elim
 cases v with|tp l=>obtain⟨xs,h1,h2⟩:=hr;exact⟨xs,h1,k2 ho h2⟩|no=>exact hr|gn=>exact hr|_=>exact k1 ho hr
def CJ(b:Nat)(os:List JO)(v v1:V)(m m':List Bd):Prop:=pU m m'/\(Cs m->Cs m')/\∀M,MOk M os->pU m' M->(∀h,fG (b+os.length) h v1)/\∀{S:Nat->Prop}{w:World}{φ:iq}{c:List Value},RC S w φ v c->RC S w (Ik b M os φ) v1 c/\DW v1=DW v
theorem CJ.mg{v v1:V}{m:List Bd}(h1:∀n h,fG n h v1)(h2:∀{S:Nat->Prop}{w:World}{φ φ':iq}{c:List Value},RC S w φ v c->RC S w φ' v1 c/\DW v1=DW v):CJ b os v v1 m m:=⟨pU.refl _,fun h=>h,fun M _ _=>⟨h1 _,fun h=>h2 h⟩⟩
theorem CJ.bind{v v1:V}{m m':List Bd}{j:Nat}{o:Option Nat}(hb:BD m ⟨j,o⟩=some m')(h1:∀{n:Nat}{h:H2},b+j<n->fG n h v1)(h2:∀{S:Nat->Prop}{w:World}{φ φ':iq}{c:List Value},(∀id,o=some id->φ' (b+j)=φ id)->(o=none->∃t,φ' (b+j)=some ⟨0,0,0,0,t,none⟩)->RC S w φ v c->RC S w φ' v1 c/\DW v1=DW v):CJ b os v v1 m m':=by obtain⟨q1,q2,c,q3,q4⟩:=aaq hb;refine⟨q1,q2,fun M hM hs=>?_⟩;have q5:=hs _ _ q3;obtain⟨k1,k2⟩:=hM _ _ q5;simp only at k1;refine⟨fun h=>h1 (by omega),fun hr=>h2 (fun id e=>S8 q5 (q4.trans e)) (fun e=>?_) hr⟩;obtain⟨t,ht,_⟩:=k2 (q4.trans e);exact⟨t,O0 q5 (q4.trans e) ht⟩
theorem NG:∀{a:JV}{b0:Bool}{v v1 d:V}{m m':List Bd}{l bH rest':List V},Gv a b0 v m=some (l,m')->xw b a b0 (l++bH) d=some (v1,rest')->rest'=bH/\CJ b os v v1 m m':=by
 intro a;induction a with
 |x t=>
  intro b0 v v1 d m m' l bH rest' hc hr;cases b0<;>first|(cases hc;done)|skip
  change (match zN t v with|some y=>some ([V.x t y],m)|none=>none)=_ at hc;split at hc<;>cases hc;rename_i y hy;cases(aN hr).2;exact⟨rfl,CJ.mg (fun _ _=>trivial) fun hv=>⟨Dr hy hv,(NA hy hv).symm⟩⟩
 |pt t=>
  intro b0 v v1 d m m' l bH rest' hc hr;cases b0<;>cases v<;>first|(cases hc;done)|skip
  rename_i u v;change (match fF u t v with|some y=>some ([V.x t y],m)|none=>none)=_ at hc;split at hc<;>cases hc;rename_i y hy;obtain⟨rfl,rfl⟩:=kJ hy;cases(aN hr).2;exact⟨rfl,CJ.mg (fun _ _=>trivial) fun hv=>⟨hv,rfl⟩⟩
 |so j=>
  intro b0 v v1 d m m' l bH rest' hc hr;have nilc:∀{v:V},(match BD m ⟨j,none⟩with|some m=>some (([]:List V),m)|none=>none)=some (l,m')->DW v=false->(∀{S:Nat->Prop}{w:World}{φ:iq}{c:List Value},RC S w φ v c->c=[.slice none 0 0])->b0=false->rest'=bH/\CJ b os v v1 m m':=by intro v hcc hag hv e0;subst e0;split at hcc<;>cases hcc;rename_i hb;cases hr;refine⟨rfl,CJ.bind hb (fun h=>h) fun _ h2 hr=>?_⟩;obtain⟨t,ht⟩:=h2 rfl;exact⟨⟨_,ht,hv hr⟩,hag.symm⟩
  cases b0<;>cases v<;>first|(cases hc;done)|skip
  .rename_i u v;cases u<;>first|(cases hc;done)|skip
   obtain⟨e,h2⟩:=aN hc;refine nilc h2 rfl (fun{S w φ c}hr=>?_) rfl;cases v with|nil=>exact hr|mk q=>cases e
  .rename_i k;cases k<;>first|(cases hc;done)|skip
   exact nilc hc rfl (fun hr=>hr) rfl
  .rename_i id;change (match BD m ⟨j,some id⟩with|some m=>some (([]:List V),m)|none=>none)=_ at hc;split at hc<;>cases hc;rename_i hb;cases hr;exact⟨rfl,CJ.bind hb (fun h=>h) fun h1 _⟨l,k1,k2⟩=>⟨⟨l,(h1 id rfl).trans k1,k2⟩,rfl⟩⟩
 |sr j=>
  intro b0 v v1 d m m' l bH rest' hc hr;cases b0<;>cases v<;>first|(cases hc;done)|skip
  rename_i id;change (match BD m ⟨j,some id⟩with|some m=>some (([]:List V),m)|none=>none)=_ at hc;split at hc<;>cases hc;rename_i hb;cases hr;exact⟨rfl,CJ.bind hb (fun h=>h) fun h1 _⟨l,k1,k2⟩=>⟨⟨l,(h1 id rfl).trans k1,k2⟩,rfl⟩⟩
 |om j=>
  intro b0 v v1 d m m' l bH rest' hc hr;cases b0<;>cases v<;>first|(cases hc;done)|skip
  rename_i id;change (match BD m ⟨j,some id⟩with|some m=>some (([]:List V),m)|none=>none)=_ at hc;split at hc<;>cases hc;rename_i hb;cases hr;exact⟨rfl,CJ.bind hb (fun h=>h) fun h1 _⟨l,k1,k2⟩=>⟨⟨l,(h1 id rfl).trans k1,k2⟩,rfl⟩⟩
 |op j t p=>
  intro b0 v v1 d m m' l bH rest' hc hr;cases b0<;>cases v<;>first|(cases hc;done)|skip
  rename_i id u q;obtain⟨e,h2⟩:=aN hc;simp only[ax,decide_eq_true_eq]at e;obtain⟨rfl,e2⟩:=e;obtain rfl:=Yl e2;split at h2<;>cases h2;rename_i hb;cases hr;exact⟨rfl,CJ.bind hb (fun h=>h) fun h1 _⟨l,k1,k2⟩=>⟨⟨l,(h1 id rfl).trans k1,k2⟩,rfl⟩⟩
 |nl k=>
  intro b0 v v1 d m m' l bH rest' hc hr;cases b0<;>cases v<;>first|(cases hc;done)|skip
  obtain⟨e,h2⟩:=aN hc;obtain rfl:=eq_of_beq e;cases h2;cases hr;exact⟨rfl,CJ.mg (fun _ _=>trivial) fun hv=>⟨hv,rfl⟩⟩
 |fn z f a ih=>
  intro b0 v v1 d m m' l bH rest' hc hr;cases b0<;>cases v<;>first|(cases hc;done)|skip
  rename_i z' f' v;obtain⟨e,h2⟩:=aN hc;simp only[ax,beq_iff_eq]at e;obtain⟨rfl,rfl⟩:=e;change (match xw b a true (l++bH) .ni with|some (w,l)=>some (V.fn z f w,l)|none=>none)=_ at hr;split at hr<;>cases hr;rename_i w1 h3;obtain⟨rfl,q1,q2,q3⟩:=ih h2 h3;refine⟨rfl,q1,q2,fun M hM hs=>?_⟩;obtain⟨k1,k2⟩:=q3 M hM hs;exact⟨k1,fun⟨d,r1,r2⟩=>⟨⟨d,r1,(k2 r2).1⟩,rfl⟩⟩
 |rc a ih=>
  intro b0 v v1 d m m' l bH rest' hc hr;have CI:∀{v':V},Gv a true v' m=some (l,m')->b0=false->DW v=true->(∀{S:Nat->Prop}{w:World}{φ:iq}{c:List Value},RC S w φ v c->RC S w φ v' c)->rest'=bH/\CJ b os v v1 m m':=by intro v' h2 e0 hag hv;subst e0;change (match xw b a true (l++bH) .ni with|some (w,l)=>some (V.rc w,l)|none=>none)=_ at hr;split at hr<;>cases hr;rename_i w1 h3;obtain⟨rfl,q1,q2,q3⟩:=ih h2 h3;refine⟨rfl,q1,q2,fun M hM hs=>?_⟩;obtain⟨k1,k2⟩:=q3 M hM hs;exact⟨k1,fun hr=>⟨(k2 (hv hr)).1,hag.symm⟩⟩
  cases b0<;>cases v<;>first|(cases hc;done)|skip
  .rename_i u v;cases u<;>first|(cases hc;done)|skip
   rename_i u;exact CI (v':=Xh u v) hc rfl rfl fun hr=>Xg (t:=u) hr
  .exact CI hc rfl rfl fun hr=>hr
 |ni=>
  intro b0 v v1 d m m' l bH rest' hc hr;cases b0<;>cases v<;>first|(cases hc;done)|skip
  cases hc;cases hr;exact⟨rfl,CJ.mg (fun _ _=>trivial) fun hv=>⟨hv,rfl⟩⟩
 |co a c iha ihc=>
  intro b0 v v1 d m m' l bH rest' hc hr;cases b0<;>cases v<;>first|(cases hc;done)|skip
  rename_i x y;change (match Gv a false x m with|some (l,m)=>(match Gv c true y m with|some (l',m)=>some (l++l',m)|none=>none)|none=>none)=_ at hc;split at hc<;>first|(cases hc;done)|skip
  rename_i l1 m1 h1;split at hc<;>cases hc;rename_i l2 h2
  have hr2:∃d1 d2 w1 r1 w2,xw b a false (l1++(l2++bH)) d1=some (w1,r1)/\xw b c true r1 d2=some (w2,rest')/\v1=.co w1 w2:=by
   rw[bm]at hr
   have gen:∀(d1 d2:V),(match xw b a false (l1++(l2++bH)) d1 with|some (v,l)=>(match xw b c true l d2 with|some (w,l)=>some (V.co v w,l)|none=>none)|none=>none)=some (v1,rest')->∃d1 d2 w1 r1 w2,xw b a false (l1++(l2++bH)) d1=some (w1,r1)/\xw b c true r1 d2=some (w2,rest')/\v1=.co w1 w2:=by
    intro d1 d2 hr;split at hr<;>first|(cases hr;done)|skip
    rename_i w1 r1 g1;split at hr<;>cases hr;rename_i w2 g2;exact⟨d1,d2,w1,r1,w2,g1,g2,rfl⟩
   cases d<;>exact gen _ _ hr
  obtain⟨d1,d2,w1,r1,w2,g1,g2,rfl⟩:=hr2;obtain⟨rfl,q1,q2,q3⟩:=iha h1 g1;obtain⟨rfl,p1,p2,p3⟩:=ihc h2 g2;refine⟨rfl,q1.trans p1,fun h=>p2 (q2 h),fun M hM hs=>?_⟩;obtain⟨k1,k2⟩:=q3 M hM (p1.trans hs);obtain⟨k3,k4⟩:=p3 M hM hs;exact⟨fun h=>⟨k1 h,k3 h⟩,fun⟨e,f,e1,e2,e3⟩=>⟨⟨e,f,e1,(k2 e2).1,(k4 e3).1⟩,rfl⟩⟩
 |_=>intro b0 v v1 d m m' l bH rest' hc;cases b0<;>cases v<;>cases hc
end
section
variable{b:Nat}{M:List Bd}{os:List JO}{h:H2}{n:Nat}{s:S2}
theorem Ue{S:Nat->Prop}{w:World}{φ:iq}{a:JV}{v:V}{m m':List Bd}{l:List V}{x:Value}(hc:Gv a false v m=some (l,m'))(hr:RW S w φ v x):R1 S w φ v x:=by
 cases v<;>first|exact hr|skip
 all_goals(exfalso;cases a<;>first|(cases hc;done)|skip)
 all_goals
  rename_i t
  first
   |(change (match zN t (.tp _)with|some y=>some ([V.x t y],m)|none=>none)=_ at hc;split at hc<;>first|(cases hc;done)|(rename_i hy;cases hy;done))
   |(change (match zN t .no with|some y=>some ([V.x t y],m)|none=>none)=_ at hc;split at hc<;>first|(cases hc;done)|(rename_i hy;cases hy;done))
   |(change (match zN t .gn with|some y=>some ([V.x t y],m)|none=>none)=_ at hc;split at hc<;>first|(cases hc;done)|(rename_i hy;cases hy;done))
theorem CJ.rw{v v1:V}{m m':List Bd}(hC:CJ b os v v1 m m')(hM:MOk M os)(hs:pU m' M){S:Nat->Prop}{w:World}{φ:iq}{x:Value}(hr:R1 S w φ v x):RW S w (Ik b M os φ) v1 x:=by obtain⟨_,h2⟩:=hC.2.2 M hM hs;obtain⟨c,k1,k2⟩:=hr;obtain⟨q1,q2⟩:=h2 k1;exact R1.rw ⟨c,q1,by rw[q2];exact k2⟩
def VTo(b:Nat)(os:List JO)(M:List Bd)(v v1:V):Prop:=(∀h,fG (b+os.length) h v1)/\∀{S:Nat->Prop}{w:World}{φ:iq}{x:Value},RW S w φ v x->RW S w (Ik b M os φ) v1 x
theorem aaj:∀{vs:List (Nat×JV)}{m m':List Bd}{l bH rest':List V}{e:List (Nat×V)},Ud s vs m=some (l,m')->SU b vs (l++bH)=some (e,rest')->rest'=bH/\pU m m'/\(Cs m->Cs m')/\
  ∀M,MOk M os->pU m' M->∀t v1,iV e t=some v1->∃v,iV s.jl t=some v/\VTo b os M v v1:=by
 intro vs;induction vs with
 |nil=>intro m m' l bH rest' e hc hr;cases hc;cases hr;exact⟨rfl,pU.refl _,fun h=>h,fun M _ _ t v1 ht=>by cases ht⟩
 |cons p vs ih=>
  obtain⟨t,a⟩:=p;intro m m' l bH rest' e hc hr;simp only[Ud]at hc;split at hc<;>first|(cases hc;done)|skip
  rename_i v hv;split at hc<;>first|(cases hc;done)|skip
  rename_i l1 m1 h1;split at hc<;>cases hc;rename_i l2 h2;simp only[SU]at hr;rw[bm]at hr;split at hr<;>first|(cases hr;done)|skip
  rename_i v1 r1 g1;split at hr<;>cases hr;rename_i e2 g2;obtain⟨rfl,hC⟩:=NG (os:=os) h1 g1;obtain⟨rfl,p1,p2,p3⟩:=ih h2 g2
  have hfv:iV s.jl t=some v:=by
   simp only[Vq]at hv;split at hv<;>first|(cases hv;done)|skip
   rename_i hx;rw[hx];rw[(aN hv).2]
  refine⟨rfl,hC.1.trans p1,fun h=>p2 (hC.2.1 h),fun M hM hs t' v' ht=>?_⟩;rw[mJ]at ht;split at ht
  .rename_i e;subst e;cases ht;exact⟨v,hfv,(hC.2.2 M hM (p1.trans hs)).1,fun hr=>hC.rw hM (p1.trans hs) (Ue h1 hr)⟩
  .exact p3 M hM hs t' v' ht
theorem Ou{x y:V}(h:Ov x y=true):x=y:=by
 unfold Ov at h;split at h<;>first|(cases h;done)|rfl|skip
 all_goals simp_all
theorem XO:∀{x y:V},Ow x y=true->x=y:=by
 intro x;induction x with
 |ni=>intro y h;cases y<;>first|rfl|cases h
 |co a r _ ihr=>
  intro y h;cases y<;>first|(cases h;done)|skip
  simp only[Ow,ax]at h;rw[Ou h.1,ihr h.2]
 |_=>intro y h;cases y<;>cases h
theorem adb{hb:H2}:∀{a:JV}{g0 g g1:V}{m m':List Bd}{l bH rest':List V},Qn h a g0 g m=some (l,m')->xw b a true (l++bH) g0=some (g1,rest')->(∀c∈kO g0,fG b hb c)->rest'=bH/\pU m m'/\(Cs m->Cs m')/\
  ∀M,MOk M os->pU m' M->∀(i:Nat)(c1:V),(kO g1)[i]?=some c1->∃c,(kO g)[i]?=some c/\((c1∈kO g0/\c=c1)\/VTo b os M c c1):=by
 intro a;induction a with
 |sm=>intro g0 g g1 m m' l bH rest' hc hr _;obtain⟨e,h2⟩:=aN (show(bif Ow g0 g then some (([]:List V),m)else none)=some (l,m')from hc);cases h2;cases hr;obtain rfl:=XO e;exact⟨rfl,pU.refl _,fun h=>h,fun M _ _ i c1 hi=>⟨c1,hi,.inl ⟨bA hi,rfl⟩⟩⟩
 |ni=>
  intro g0 g g1 m m' l bH rest' hc hr _;cases g0<;>first|(cases hc;done)|skip
  cases g<;>first|(cases hc;done)|skip
  cases hc;cases hr;exact⟨rfl,pU.refl _,fun h=>h,fun M _ _ i c1 hi=>by simp[kO]at hi⟩
 |co a r iha ihr=>
  intro g0 g g1 m m' l bH rest' hc hr hok;cases g0<;>first|(cases hc;done)|skip
  rename_i x0 y0;cases g<;>first|(cases hc;done)|skip
  rename_i x y
  have hr2:∀{l1 l2:List V},l=l1++l2->∃w1 r1 w2,xw b a false (l1++(l2++bH)) x0=some (w1,r1)/\xw b r true r1 y0=some (w2,rest')/\g1=.co w1 w2:=by
   intro l1 l2 e;rw[e,bm]at hr;change (match xw b a false (l1++(l2++bH)) x0 with|some (v,l)=>(match xw b r true l y0 with|some (w,l)=>some (V.co v w,l)|none=>none)|none=>none)=_ at hr;split at hr<;>first|(cases hr;done)|skip
   rename_i w1 r1 g1;split at hr<;>cases hr;rename_i w2 g2;exact⟨w1,r1,w2,g1,g2,rfl⟩
  have CI:∀{l1 l2:List V}{m1:List Bd}{w1 w2:V},pU m m1->(Cs m->Cs m1)->Qn h r y0 y m1=some (l2,m')->xw b r true (l2++bH) y0=some (w2,rest')->(∀M,MOk M os->pU m1 M->(w1=x0/\x=x0)\/VTo b os M x w1)->rest'=bH/\pU m m'/\(Cs m->Cs m')/\
    ∀M,MOk M os->pU m' M->∀(i:Nat)(c1:V),(kO (.co w1 w2))[i]?=some c1->∃c,(kO (.co x y))[i]?=some c/\((c1∈kO (.co x0 y0)/\c=c1)\/VTo b os M c c1):=by
   intro l1 l2 m1 w1 w2 h1 h2 h3 h4 h5;obtain⟨rfl,p1,p2,p3⟩:=ihr h3 h4 (fun c hc=>hok c (by simp[kO,hc]));refine⟨rfl,h1.trans p1,fun h=>p2 (h2 h),fun M hM hs i c1 hi=>?_⟩;cases i with
   |zero=>
    obtain rfl:w1=c1:=by simpa[kO]using hi
    refine⟨x,by simp[kO],(h5 M hM (p1.trans hs)).imp (fun⟨e1,e2⟩=>⟨by simp[kO,e1],by rw[e1,e2]⟩) fun h=>h⟩
   |succ i=>obtain⟨c,q1,q2⟩:=p3 M hM hs i c1 (by simpa[kO]using hi);exact⟨c,by simpa[kO]using q1,q2.imp (fun⟨e1,e2⟩=>⟨by simp[kO,e1],e2⟩) fun h=>h⟩
  have gen:∀{a':JV},a'=a->a'≠.sm->a'≠.gn->(bif tM h x then(match Gv a false x m with|some (l,m)=>(match Qn h r y0 y m with|some (l',m)=>some (l++l',m)|none=>none)|none=>none)else none)=some (l,m')->rest'=bH/\pU m m'/\(Cs m->Cs m')/\
    ∀M,MOk M os->pU m' M->∀(i:Nat)(c1:V),(kO g1)[i]?=some c1->∃c,(kO (.co x y))[i]?=some c/\((c1∈kO (.co x0 y0)/\c=c1)\/VTo b os M c c1):=by
   intro a' _ _ _ hc;have hc:=(aN hc).2;split at hc<;>first|(cases hc;done)|skip
   rename_i l1 m1 h1;split at hc<;>cases hc;rename_i l2 h2;obtain⟨w1,r1,w2,g1,g2,rfl⟩:=hr2 rfl;obtain⟨rfl,hC⟩:=NG (os:=os) h1 g1;exact CI (l1:=l1) hC.1 hC.2.1 h2 g2 fun M hM hs=>.inr ⟨(hC.2.2 M hM hs).1,fun hr=>hC.rw hM hs (Ue h1 hr)⟩
  cases a with|sm=>obtain⟨e,h2⟩:=aN (show(bif Ov x0 x then Qn h r y0 y m else none)=some (l,m')from hc);obtain rfl:=Ou e;obtain⟨w1,r1,w2,g1,g2,rfl⟩:=hr2 (l1:=[]) (l2:=l) rfl;cases g1;exact CI (l1:=[]) (pU.refl _) (fun h=>h) h2 g2 fun M _ _=>.inl ⟨rfl,rfl⟩|gn=>obtain⟨w1,r1,w2,g1,g2,rfl⟩:=hr2 (l1:=[]) (l2:=l) rfl;cases g1;exact CI (l1:=[]) (pU.refl _) (fun h=>h) hc g2 fun M _ _=>.inr ⟨fun _=>trivial,fun _=>trivial⟩|_=>exact gen rfl (by simp) (by simp) hc
 |_=>intro g0 g g1 m m' l bH rest' hc;cases g0<;>cases g<;>cases hc
def ObR(b:Nat)(os:List JO)(M:List Bd)(h:H2)(j:Nat)(o:O):Prop:=∃c,Hy M j=some c/\((c.id=none/\∃t,os[j]?=some (.ar t)/\H4 t=true/\o=.ar t Sl.nil 0)\/
 ∃id o',c.id=some id/\fO h id=some o'/\(∀t cc,o=.bx t cc->∀h,fG (b+os.length) h cc)/\(∀n,G4 n (some o))/\∀{S:Nat->Prop}{w:World}{φ:iq}{l:rJ},RO S w φ l o'->RO S w (Ik b M os φ) l o/\ob w l o=ob w l o')
theorem ada{j:Nat}{jo:JO}{m m':List Bd}{l bH rest':List V}{o:O}(hj:os[j]?=some jo)(hc:agy h j jo m=some (l,m'))(hr:akj b jo (l++bH)=some (o,rest')):rest'=bH/\pU m m'/\(Cs m->Cs m')/\
  (∃c,Hy m' j=some c/\(c.id=none->∃t,jo=.ar t/\H4 t=true))/\∀M,MOk M os->pU m' M->ObR b os M h j o:=by
 unfold agy at hc;split at hc<;>first|(cases hc;done)|skip
 rename_i c hcj;split at hc<;>first|(cases hc;done)|skip
 .rename_i t hid;obtain⟨e,h2⟩:=aN hc;cases h2;cases(aN hr).2;exact⟨rfl,pU.refl _,fun h=>h,⟨c,hcj,fun _=>⟨t,rfl,e⟩⟩,fun M _ hs=>⟨c,hs _ _ hcj,.inl ⟨hid,t,hj,e,rfl⟩⟩⟩
 .rename_i t id hid;split at hc<;>first|(cases hc;done)|skip
  rename_i u s0 ver ho;split at hc<;>cases hc;rename_i s1 hs1;obtain⟨rfl,rfl⟩:=zx hs1;cases(aN hr).2;refine⟨rfl,pU.refl _,fun h=>h,⟨c,hcj,fun e=>by rw[hid]at e;cases e⟩,fun M _ hs=>⟨c,hs _ _ hcj,.inr ⟨id,_,hid,ho,(by simp),(fun _=>trivial),fun hro=>⟨⟨hro.1,hro.2.1,hro.2.2.1,hro.2.2.2.1,fun r e=>hro.2.2.2.2 r e⟩,rfl⟩⟩⟩⟩
 .rename_i t id hid;split at hc<;>first|(cases hc;done)|skip
  rename_i u s0 ho;split at hc<;>cases hc;rename_i s1 hs1;obtain⟨rfl,rfl⟩:=Gu hs1;cases(aN hr).2;refine⟨rfl,pU.refl _,fun h=>h,⟨c,hcj,fun e=>by rw[hid]at e;cases e⟩,fun M _ hs=>⟨c,hs _ _ hcj,.inr ⟨id,_,hid,ho,(by simp),(fun _=>trivial),fun hro=>⟨⟨hro.1,hro.2.1,hro.2.2.1,hro.2.2.2.1,fun r e=>?_⟩,rfl⟩⟩⟩⟩;obtain⟨cr,k1,k2,k3,k4,k5,k6⟩:=hro.2.2.2.2 r e;exact⟨cr,k1,k2,k3,k4,k5,k6⟩
 .rename_i t a id hid;split at hc<;>first|(cases hc;done)|skip
  rename_i u v ho;obtain⟨e,h2⟩:=aN hc;obtain rfl:=of_decide_eq_true e;change (match xw b a false (l++bH) .gn with|some (w,l)=>bif fg w false u then some (O.bx u w,l)else none|none=>none)=_ at hr;split at hr<;>first|(cases hr;done)|skip
  rename_i w1 l1 h3;obtain⟨e2,h4⟩:=aN hr;cases h4;obtain⟨rfl,hC⟩:=NG (os:=os) h2 h3;refine⟨rfl,hC.1,hC.2.1,⟨c,hC.1 _ _ hcj,fun e=>by rw[hid]at e;cases e⟩,fun M hM hs=>?_⟩;obtain⟨q1,q2⟩:=hC.2.2 M hM hs;exact⟨c,hs _ _ (hC.1 _ _ hcj),.inr ⟨id,_,hid,ho,(fun t cc e=>by cases e;exact q1),(fun _=>trivial),fun⟨r1,r2,cr,r3,r4⟩=>⟨⟨r1,e2,cr,r3,(q2 r4).1⟩,rfl⟩⟩⟩
 .rename_i k v id hid;split at hc<;>first|(cases hc;done)|skip
  rename_i k' v' y ho;split at hc<;>cases hc;rename_i y1 hy;obtain⟨rfl,rfl,rfl⟩:=aai hy;cases(aN hr).2;exact⟨rfl,pU.refl _,fun h=>h,⟨c,hcj,fun e=>by rw[hid]at e;cases e⟩,fun M _ hs=>⟨c,hs _ _ hcj,.inr ⟨id,_,hid,ho,(by simp),(fun _=>trivial),fun hro=>⟨hro,rfl⟩⟩⟩⟩
theorem aak:∀{js:List JO}{j:Nat}{m m':List Bd}{l bH rest':List V}{hh:H2},(∀k,js[k]?=os[j+k]?)->Uf h js j m=some (l,m')->SV b js j (l++bH)=some (hh,rest')->rest'=bH/\pU m m'/\(Cs m->Cs m')/\
  (∀k jo,js[k]?=some jo->∃c,Hy m' (j+k)=some c/\(c.id=none->∃t,jo=.ar t/\H4 t=true))/\hh.map (·.1)=(aG js.length).map (fun k=>b+(j+k))/\∀M,MOk M os->pU m' M->∀id x,iV hh id=some x->∃k o,k<js.length/\id=b+(j+k)/\x=some o/\ObR b os M h (j+k) o:=by
 intro js;induction js with
 |nil=>intro j m m' l bH rest' hh hjs hc hr;cases hc;cases hr;exact⟨rfl,pU.refl _,fun h=>h,(fun k jo hk=>by simp at hk),rfl,fun M _ _ id x hx=>by cases hx⟩
 |cons jo js ih=>
  intro j m m' l bH rest' hh hjs hc hr;simp only[Uf]at hc;split at hc<;>first|(cases hc;done)|skip
  rename_i l1 m1 h1;split at hc<;>cases hc;rename_i l2 h2;simp only[SV]at hr;rw[bm]at hr;split at hr<;>first|(cases hr;done)|skip
  rename_i o1 r1 g1;split at hr<;>cases hr;rename_i hh2 g2;obtain⟨rfl,p1,p2,⟨c,p3,p4⟩,p5⟩:=ada (os:=os) (by have:=hjs 0;simpa using this.symm) h1 g1;obtain⟨rfl,q1,q2,q3,q4,q5⟩:=ih (j:=j+1) (fun k=>by have:=hjs (k+1);simp only[List.getElem?_cons_succ]at this;rw[this];congr 1;omega) h2 g2;refine⟨rfl,p1.trans q1,fun h=>q2 (p2 h),fun k jo' hk=>?_,?_,fun M hM hs id x hx=>?_⟩
  .cases k with
   |zero=>
    obtain rfl:jo=jo':=by simpa using hk
    exact⟨c,q1 _ _ p3,p4⟩
   |succ k=>have:=q3 k jo' (by simpa using hk);rwa[show j+1+k=j+(k+1)by omega]at this
  .rw [bN,q4,List.length_cons,List.range_succ_eq_map,bN,List.map_map];congr 1;apply List.map_congr_left;intro k _;simp only[Function.comp_def];omega
  .rw [mJ]at hx;split at hx
   .rename_i e;cases hx;exact⟨0,o1,by simp,by omega,rfl,p5 M hM (q1.trans hs)⟩
   .obtain ⟨k,o,k1,k2,k3,k4⟩:=q5 M hM hs id x hx;refine⟨k+1,o,by simp;omega,by omega,k3,?_⟩;rwa[show j+1+k=j+(k+1)by omega]at k4
end
section
variable{S K:Nat->Prop}{w0 w:World}{φ φ1:iq}{gv:List Value}{nt:Nat}{a:Act}{s0 s s1:S2}{j:J}{ds:List Nat}{l:List V}{H H1:Hf}
theorem Inv.afw(hI:Inv S K w0 φ H w)(src:Nat->Option Nat)(hobj:∀i o,H1 i=some o->∃l,φ1 i=some l/\RO S w φ1 l o/\(ob w l o=[]\/∃i' o',src i=some i'/\H i'=some o'/\φ i'=some l/\ob w l o=ob w l o'))
  (hinj:∀i1 i2 o1 o2 i',H1 i1=some o1->H1 i2=some o2->src i1=some i'->src i2=some i'->i1=i2):Inv S K w0 φ1 H1 w:=by
 refine⟨hI.IQ,hI.sk,hI.yu,hI.R5,fun i o ho=>?_,fun i1 i2 o1 o2 l1 l2 h1 h2 e1 e2 hne x hx hy=>?_⟩
 .obtain ⟨l,a1,a2,a3⟩:=hobj i o ho;refine⟨l,a1,a2,fun b hb=>?_⟩;rcases a3 with a3|⟨i',o',_,q2,q3,q4⟩
  .rw [a3]at hb;cases hb
  .obtain ⟨l2,r1,_,r3⟩:=hI.o9 i' o' q2;simp_all
 .obtain ⟨l,a1,a2,a3⟩:=hobj i1 o1 h1;obtain rfl:=af (e1.symm.trans a1);obtain⟨l,b1,b2,b3⟩:=hobj i2 o2 h2;obtain rfl:=af (e2.symm.trans b1);rcases a3 with a3|⟨i',o',p1,p2,p3,p4⟩
  .rw [a3]at hx;cases hx
  rcases b3 with b3|⟨i2',o2',q1,q2,q3,q4⟩
  .rw [b3]at hy;cases hy
  rw[p4]at hx;rw[q4]at hy;exact hI.jz i' i2' o' o2' l1 l2 p2 q2 p3 q3 (fun e=>hne (hinj i1 i2 o1 o2 i' h1 h2 p1 (e▸q1))) x hx hy
theorem acI{l:List Nat}{x:V}{t:Nat}:iV (l.map fun t=>(t,x)) t=if t∈l then some x else none:=by
 induction l with
 |nil=>rfl
 |cons a l ih=>
  simp[mJ,ih];by_cases e:a=t
  .simp [e]
  .have:¬t=a:=fun h=>e h.symm;simp[e,this]
structure agX(j:J)(s0 s1:S2):Prop where
 le:s0.next<=s1.next
 wo:∃W,s1.wo=W++s0.wo/\∀id,id∉W->fO s1.heap id=fO s0.heap id
 kl:∀id,id<s0.next->id∉j.kl->fO s1.heap id=fO s0.heap id
theorem PM{bH rest':List V}(hR:Ax S K w0 φ gv nt s a w)(h0:SD s0.next s0.heap (iV s0.jl))(hg0:∀c∈kO s0.gh,fG s0.next s0.heap c)(hle:s0.next<=s.next)(hW:∀id,id<s0.next->id∉s.wo->id∉j.kl->fO s.heap id=fO s0.heap id)
  (hE:∀t v,t∉ds->iV s0.jl t=some v->RW S w φ v (a.tmps.getD t undef)) (hc:Mo j s0 s=some l) (hr:XX j ds s0 (l++bH)=some (s1,rest')):
  rest'=bH/\(∃φ1,(∀i,i<s0.next->φ1 i=φ i)/\Ax S K w0 φ1 gv nt s1 a w/\∀i o lo b,fO s1.heap i=some o->φ1 i=some lo->b∈ob w lo o->∃i' o',fO s.heap i'=some o'/\φ i'=some lo/\b∈ob w lo o')/\agX j s0 s1/\∀i∈j.kl,i<s0.next->fO s1.heap i=none:=by
 obtain⟨b,hb⟩:∃b,b=s0.next:=⟨_,rfl⟩
 unfold Mo at hc;split at hc<;>first|(cases hc;done)|skip
 rename_i l1 m1 h1;split at hc<;>first|(cases hc;done)|skip
 rename_i l2 m2 h2;split at hc<;>first|(cases hc;done)|skip
 rename_i l3 M h3;obtain⟨e,h4⟩:=aN hc;cases h4;simp only[ax,cw]at e;obtain⟨e1,e2⟩:=e;unfold XX at hr;rw[<-hb]at hr;split at hr<;>first|(cases hr;done)|skip
 rename_i ee r1 g1;split at hr<;>first|(cases hr;done)|skip
 rename_i gg r2 g2;split at hr<;>cases hr;rename_i hh g3;rw[bm,bm]at g1;obtain⟨rfl,p1,p2,p3⟩:=aaj (os:=j.os) h1 g1;obtain⟨rfl,q1,q2,q3⟩:=adb (os:=j.os) (b:=b) (hb:=s0.heap) h2 g2 (by rw[hb];exact hg0);obtain⟨rfl,r1,r2,r4,r5,r6⟩:=aak (os:=j.os) (b:=b) (j:=0) (fun k=>by rw[dJ]) h3 g3;have hinj:Cs M:=r2 (q2 (p2 fun j1 j2 b1 b2 id h=>by cases h));have hMlt:∀i c,Hy M i=some c->i<j.os.length/\∀id,c.id=some id->b<=id\/id∈j.kl:=fun i c hi=>by obtain⟨k1,k2⟩:=Ul hi;have:=e2 c k1;simp only[ax,fM]at this;refine⟨by omega,fun id hid=>?_⟩;have h:=this.2;rw[hid]at h;simp only[cE,Nat.ble_eq,ko,decide_eq_true_eq]at h;rw[hb];exact h
 have hM:MOk M j.os:=fun i c hi=>by refine⟨(hMlt i c hi).1,fun hn=>?_⟩;have hlt:=(hMlt i c hi).1;obtain⟨c',k1,k2⟩:=r4 i j.os[i] (bf hlt);rw[dJ,hi]at k1;cases k1;obtain⟨t,k3,k4⟩:=k2 hn;exact⟨t,by rw[bf hlt,k3],k4⟩
 have p3:=p3 M hM (q1.trans r1);have q3:=q3 M hM r1;have r6:=r6 M hM (pU.refl _);obtain⟨φ1,hφ1⟩:∃φ1,φ1=Ik b M j.os φ:=⟨_,rfl⟩
 have hold:∀i,i<b->φ1 i=φ i:=fun i hi=>by rw[hφ1];exact Yi hi
 have hheap:∀id o,fO (hh++(j.kl.map (fun i=>(i,none))++s0.heap)) id=some o->(∃k,k<j.os.length/\id=b+k/\ObR b j.os M s.heap k o)\/(id<b/\id∉j.kl/\fO s0.heap id=some o):=by
  intro id o ho;rw[oz]at ho;simp only[up]at ho;split at ho
  .rename_i x hx;obtain⟨k,o',k1,k2,k3,k4⟩:=r6 id x hx;rw[k3]at ho;cases ho;rw[dJ]at k2 k4;exact .inl ⟨k,k1,k2,k4⟩
  .rw [oz]at ho;simp only[up,ra]at ho;by_cases hk:id∈j.kl
   .simp [hk]at ho
   .simp only[if_neg hk]at ho;exact .inr ⟨by rw[hb];exact h0.DZ.lt id o ho,hk,ho⟩
 have hnone:∀id,id<b->iV hh id=none:=fun id hid=>by refine uX fun hm=>?_;rw[r5]at hm;obtain⟨k,_,hk⟩:=aR.1 hm;omega
 have hsame:∀id,id<b->id∉j.kl->fO s.heap id=fO s0.heap id:=fun id h1 h2=>by
  by_cases hw:id∈s.wo
  .have:=e1 id hw;simp only[cE,Nat.ble_eq,ko,decide_eq_true_eq]at this;rcases this with h|h
   .omega
   .exact absurd h h2
  .exact hW id (by omega) hw h2
 have hobj:∀id o,fO (hh++(j.kl.map (fun i=>(i,none))++s0.heap)) id=some o->∃l,φ1 id=some l/\RO S w φ1 l o/\(ob w l o=[]\/∃i' o',(if id<b then some id else(Hy M (id-b)).bind (·.id))=some i'/\fO s.heap i'=some o'/\φ i'=some l/\ob w l o=ob w l o'):=by
  intro id o ho
  .rcases hheap id o ho with⟨k,k1,rfl,c,k2,k3⟩|⟨k1,k2,k3⟩
   .rcases k3 with⟨k3,t,k4,k5,rfl⟩|⟨id',o',k3,k4,_,_,k6⟩
    .refine ⟨_,by rw[hφ1];exact O0 k2 k3 k4,?_,.inl rfl⟩;simp only[H4,ax,fM]at k5;exact⟨rfl,rfl,k5.1,k5.2,fun r e=>by cases e⟩
    .obtain ⟨lo,a1,a2,_⟩:=hR.rx.inv.o9 id' o' k4;obtain⟨g4,g5⟩:=k6 a2;refine⟨lo,by rw[hφ1,S8 k2 k3];exact a1,by rw[hφ1];exact g4,.inr ⟨id',o',?_,k4,a1,g5⟩⟩;have e1:¬b+k<b:=by omega
     simp only[if_neg e1,Nat.add_sub_cancel_left,k2,aa,k3]
   .have k4:fO s.heap id=some o:=(hsame id k1 k2).trans k3;obtain⟨lo,a1,a2,_⟩:=hR.rx.inv.o9 id o k4;refine⟨lo,(hold id k1).trans a1,?_,.inr ⟨id,o,by simp[k1],k4,a1,rfl⟩⟩;cases o with
    |bx t c=>obtain⟨c1,c2,cr,c3,c4⟩:=a2;exact⟨c1,c2,cr,c3,c4.WL (n:=b) (h:=s0.heap) hold (by rw[hb];exact h0.DZ.bx id t c k3)⟩
    |rw t q ln=>
     obtain⟨c1,c2,c3,c4,c5⟩:=a2;refine⟨c1,c2,c3,c4,fun r e=>?_⟩;obtain⟨cr,d1,d2,d3,d4,d5,d6⟩:=c5 r e;refine⟨cr,d1,d2,d3,d4,d5,fun i x hi=>?_⟩;obtain⟨v,v1,v2⟩:=d6 i x hi;refine⟨v,v1,?_⟩;cases ln with
     |none=>exact v2
     |some p=>
      obtain⟨m,id2⟩:=p;simp only at v2|-;split
      .rename_i em;rw[if_pos em]at v2;have hid2:id2<b:=by have:=h0.DZ.ln id;rw[k3]at this;rw[hb];exact this
       obtain⟨⟨l',u1,u2⟩,l'',u3,u4⟩:=v2;exact⟨⟨l',(hold id2 hid2).trans u1,u2⟩,l'',(hold id2 hid2).trans u3,u4⟩
      .rename_i em;rw[if_neg em]at v2;exact v2
    |_=>exact a2
 have hI:=by
  refine hR.rx.inv.afw (fun i=>if i<b then some i else(Hy M (i-b)).bind (·.id)) hobj fun i1 i2 o1 o2 i' ho1 ho2 s1 s2=>?_
  .have val:∀{i:Nat}{o:O},fO (hh++(j.kl.map (fun i=>(i,none))++s0.heap)) i=some o->(if i<b then some i else(Hy M (i-b)).bind (·.id))=some i'->(i<b/\i∉j.kl/\i=i')\/∃c,b<=i/\Hy M (i-b)=some c/\c.id=some i':=by
    intro i o ho hs;split at hs
    .rename_i hlt;cases hs;rcases hheap _ o ho with⟨k,_,e,_⟩|⟨_,k2,_⟩
     .omega
     .exact .inl ⟨hlt,k2,rfl⟩
    .rename_i hlt;obtain⟨c,c1,c2⟩:=Option.bind_eq_some_iff.1 hs;exact .inr ⟨c,by omega,c1,c2⟩
   rcases val ho1 s1 with⟨a1,a2,a3⟩|⟨c,a1,a2,a3⟩<;>rcases val ho2 s2 with⟨b1,b2,b3⟩|⟨d,b1,b2,b3⟩
   .omega
   .rcases (hMlt _ d b2).2 i' b3 with h|h
    .omega
    .exact absurd (a3▸h) a2
   .rcases (hMlt _ c a2).2 i' a3 with h|h
    .omega
    .exact absurd (b3▸h) b2
   .have:=hinj _ _ c d i' a2 b2 a3 b3;omega
 have hu:mA b s0.heap (hh++j.kl.map (fun i=>(i,none))):=by
  refine mA.append (fun p hp o' e=>.inl ?_) fun p hp o' e=>by obtain⟨i,_,rfl⟩:=aR.1 hp;cases e
  have:p.1∈hh.map (·.1):=aR.2 ⟨p,hp,rfl⟩;rw[r5]at this;obtain⟨k,_,hk⟩:=aR.1 this;omega
 have gj:D_ b s0.heap (hh++(j.kl.map (fun i=>(i,none))++s0.heap)):=by rw[<-bm];exact hu.gj
 have hokv:∀{v:V},fG b s0.heap v->fG (b+j.os.length) (hh++(j.kl.map (fun i=>(i,none))++s0.heap)) v:=fun hv=>eA (by omega) gj hv
 have hfnd:∀t v,iV (ee++(ds.map (fun t=>(t,V.gn))++s0.jl)) t=some v->(∃v',iV s.jl t=some v'/\VTo b j.os M v' v)\/v=.gn\/(t∉ds/\iV s0.jl t=some v):=by
  intro t v hv;rw[zm]at hv;cases he:iV ee t with
  |some x=>rw[he]at hv;cases hv;obtain⟨v',k1,k2⟩:=p3 t _ he;exact .inl ⟨v',k1,k2⟩
  |none=>
   rw[he]at hv;simp only[zm,acI]at hv;by_cases hd:t∈ds
   .simp [hd]at hv;exact .inr (.inl hv.symm)
   .simp [hd]at hv;exact .inr (.inr ⟨hd,hv⟩)
 have hlow:∀{v:V}{x:Value},fG b s0.heap v->RW S w φ v x->RW S w φ1 v x:=fun ho hr=>hr.WL hold ho;have hto:∀{v v':V}{x:Value},VTo b j.os M v' v->RW S w φ v' x->RW S w φ1 v x:=fun ht hr=>by rw[hφ1];exact ht.2 hr
 have hsok:DX (b+j.os.length) (hh++(j.kl.map (fun i=>(i,none))++s0.heap)):=by
  refine⟨fun id=>?_,fun id o ho=>?_,fun id t c ho=>?_⟩
  .cases ho:fO (hh++(j.kl.map (fun i=>(i,none))++s0.heap)) id with
   |none=>trivial
   |some o=>
    rcases hheap id o ho with⟨k,k1,rfl,c,k2,k3⟩|⟨k1,k2,k3⟩
    .rcases k3 with⟨_,t,_,_,rfl⟩|⟨id',o',_,k4,_,k6,_⟩
     .trivial
     .exact k6 _
    .have:=h0.DZ.ln id;rw[k3]at this;exact this.mono (by omega)
  .rcases hheap id o ho with⟨k,k1,rfl,_⟩|⟨k1,_⟩<;>omega
  .rcases hheap id _ ho with⟨k,k1,rfl,c',k2,k3⟩|⟨k1,k2,k3⟩
   .rcases k3 with⟨_,t',_,_,e⟩|⟨id',o',_,_,k5,_⟩
    .cases e
    .exact k5 t c rfl _
   .exact hokv (by rw[hb];exact h0.DZ.bx id t c k3)
 simp only[bm];refine⟨trivial,⟨φ1,fun i hi=>hold i (by omega),⟨⟨?_,fun t v hv=>?_,hR.rx.size,hR.rx.defers,fun i c1 v hi hv=>?_⟩,fun i hi=>?_,fun id lo o h1 h2=>?_,⟨?_,fun t v hv=>?_⟩,fun c1 hc1=>?_⟩,fun i o lo x h1 h2 hx=>?_⟩,?_,fun i hi hlt=>?_⟩
 .exact hI
 .rcases hfnd t v hv with⟨v',k1,k2⟩|rfl|⟨k1,k2⟩
  .exact hto k2 (hR.rx.jl t v' k1)
  .trivial
  .exact hlow (by rw[hb];exact h0.jl t v k2) (hE t v k1 k2)
 .obtain ⟨c,k1,k2⟩:=q3 i c1 hi;have hr:=hR.rx.gh i c v k1 hv;rcases k2 with⟨k2,rfl⟩|k2
  .exact hlow (by rw[hb];exact hg0 c k2) hr
  .exact hto k2 hr
 .have hi:b+j.os.length<=i:=hi;rw[hφ1];unfold Ik;rw[if_neg (by omega)];cases hm:Hy M (i-b)with|none=>rfl|some c=>have:=(hMlt _ c hm).1;omega
 .obtain ⟨l2,a1,a2,_⟩:=hI.o9 id o h2;obtain rfl:=af (h1.symm.trans a1);exact a2.HR
 .exact hsok
 .rcases hfnd t v hv with⟨v',k1,k2⟩|rfl|⟨k1,k2⟩
  .exact k2.1 _
  .trivial
  .exact hokv (by rw[hb];exact h0.jl t v k2)
 .obtain ⟨i,hi⟩:=List.getElem?_of_mem hc1;obtain⟨c,k1,k2⟩:=q3 i c1 hi;rcases k2 with⟨k2,rfl⟩|k2
  .exact hokv (by rw[hb];exact hg0 c k2)
  .exact k2.1 _
 .obtain ⟨l2,a1,_,a3⟩:=hobj i o h1;obtain rfl:=af (h2.symm.trans a1);rcases a3 with a3|⟨i',o',_,q2,q3,q4⟩
  .rw [a3]at hx;cases hx
  .exact ⟨i',o',q2,q3,q4▸hx⟩
 .refine ⟨by show s0.next<=b+j.os.length;omega,⟨hh.map (·.1)++j.kl,by simp,fun id hid=>?_⟩,fun id h1 h2=>?_⟩
  .simp only[aK,not_or]at hid;show fO (hh++(j.kl.map (fun i=>(i,none))++s0.heap)) id=_;rw[oz];simp only[up,uX hid.1];rw[oz];simp only[up,ra,if_neg hid.2]
  .rw [oz];simp only[up,hnone id (by omega)];rw[oz];simp only[up,ra,if_neg h2]
 .show fO (hh++(j.kl.map (fun i=>(i,none))++s0.heap)) i=_;rw[oz];simp only[up,hnone i (by omega)];rw[oz];simp only[up,ra,if_pos hi]
end
section
variable{S K:Nat->Prop}{w0 w:World}{φ φ1:iq}{gv:List Value}{nt:Nat}{a:Act}{s0 s s1:S2}{j:J}{ds:List Nat}{l:List V}{H H1:Hf}
theorem Ax.XL(hI:Inv S K w0 φ (fO s.heap) w):A6 φ s.heap:=fun id l o h1 h2=>by obtain⟨l2,a1,a2,_⟩:=hI.o9 id o h2;obtain rfl:=af (h1.symm.trans a1);exact a2.HR
theorem ac0{t id ver lo v:Nat}{u ut:Ty}{x:Sl (El u)}{q:Sl (El ut)}(hR:Ax S K w0 φ gv nt s a w)(ht:iV s.jl t=some (.sb id ver lo u x))(ho:fO s.heap id=some (.ar ut q v))(hd:oq u=true)(hv:v=ver):
  ∃φ',(∀i,i<s.next->φ' i=φ i)/\Ax S K w0 φ' gv nt ⟨(t,.so s.next)::s.jl,(s.next,some (.ar u x 0))::(id,none)::s.heap,s.next+1,s.next::id::s.wo,s.gh⟩ a w/\Fr s ⟨(t,.so s.next)::s.jl,(s.next,some (.ar u x 0))::(id,none)::s.heap,s.next+1,s.next::id::s.wo,s.gh⟩:=by
 subst hv;have hI:=hR.rx.inv;have hrw:=hR.rx.jl t _ ht;have hc:=R1.iB hrw;have hok:=hR.ok.jl t _ ht;have hsb:sbX s.heap u id v x=some ([.x (.sl u) x],[id]):=by simp_all[fF,sbX,beq_self_eq_true,cond_true]
 obtain⟨fp,f1,f2⟩:=Sv hI hsb hc (fun i _=>rfl) hok;obtain⟨l2,o1,o2,o3⟩:=hI.o9 id _ ho
 have key:∃lo',RO S w .z lo' (.ar u x 0)/\E6 lo' 0 lo'.n [a.tmps.getD t undef]/\∀b∈ob w lo' (.ar u x 0),b∈fp:=by
  obtain⟨sv,e,hcase⟩:=f1;have e:=(List.cons.inj e).1;cases e;rcases hcase with⟨e1,e2,rfl⟩|⟨lo',c1,c2,rfl⟩
  .have e1':=e1;subst e1';obtain⟨l3,k1,k2,_⟩:=hc;obtain rfl:=af (k1.symm.trans o1);have eu:ut=u:=o2.1.symm.trans k2;subst eu;exact⟨⟨0,0,0,0,ut,none⟩,⟨rfl,rfl,o2.2.2.1,o2.2.2.2.1,fun r e=>by cases e⟩,e2,by simp[ob]⟩
  grind
 obtain⟨lo',k1,k2,k3⟩:=key;have hnx:=hR.zk s.next (aw _)
 have hkill:Inv S K w0 φ (up (fO s.heap) [(id,none)]) w:=hI.G7 fun i o h=>by
  rw[cx]at h;split at h
  .cases h
  .exact h
 have hren:=pY (φ:=φ) lo' hnx
 have hI2:=by
  refine hkill.lay hren (gQ _ _ _) k1.z fun b hb=>?_;obtain⟨i,hi,o,lo2,p1,p2,p3⟩:=f2.2 b (k3 b hb);obtain rfl:=List.mem_singleton.1 hi;rw[ho]at p1;cases p1;obtain rfl:=af (o1.symm.trans p2);obtain⟨c1,c2,c3⟩:=o3 b p3;refine⟨c1,c2,c3,fun j' a' m' _ q1 q2 q3=>?_⟩;rw[cx]at q1;split at q1
  .cases q1
  .rename_i hne;exact hI.jz i j' _ a' l2 m' ho q1 o1 q2 hne b p3 q3
 have eH:fO ((s.next,some (O.ar u x 0))::(id,none)::s.heap)=up (up (fO s.heap) [(id,none)]) [(s.next,some (.ar u x 0))]:=by rw[<-mj,<-oz];rfl
 have hu:mA s.next s.heap [(s.next,some (O.ar u x 0)),(id,none)]:=mA.cons (fun _ _=>.inl (aw _)) (mA.cons (fun _ e=>by cases e) mA.nil);have gj:=hu.gj;refine⟨ext φ s.next lo',fun i hi=>by simp only[ext];rw[if_neg (by omega)],⟨⟨by simp_all,fun t' v' hv'=>?_,hR.rx.size,hR.rx.defers,fun i c v h1 h2=>(hR.rx.gh i c v h1 h2).mono (iW.refl _ _) hren⟩,fun i hi=>?_,?_,⟨?_,fun t' v' hv'=>?_⟩,fun c hc=>eA (cA _) gj (hR.ZC c hc)⟩,⟨cA _,[s.next,id],rfl,fun i hi=>?_⟩⟩
 .simp only[mJ]at hv';split at hv'
  .rename_i e;subst e;cases hv';exact R1.rw (R1.CH (v:=.so s.next) ⟨lo',gQ _ _ _,k2⟩ rfl)
  .exact (hR.rx.jl t' v' hv').mono (iW.refl _ _) hren
 .have hi:s.next+1<=i:=hi;simp only[ext];rw[if_neg (by omega)];exact hR.zk i (by omega)
 .refine Ax.XL (w0:=w0) (K:=K) (w:=w) (S:=S) ?_;simp_all
 .exact hR.ok.DZ.iT (cA _) hu (fun p hp=>by
   simp only[aO,bF,or_false]at hp;rcases hp with rfl|rfl
   .exact .inl ⟨bh _,trivial⟩
   .exact .inr rfl) (fun p hp t c e=>by
   simp only[aO,bF,or_false]at hp;rcases hp with rfl|rfl<;>cases e)
 .simp only[mJ]at hv';split at hv'
  .cases hv';exact bh s.next
  .exact eA (cA _) gj (hR.ok.jl t' v' hv')
 simp_all[aO,bF,or_false,not_or,fO,mJ,Ne.symm]
theorem acY:∀{vs:List (Nat×JV)}{s:S2}{φ:iq},Ax S K w0 φ gv nt s a w->∃φ',(∀i,i<s.next->φ' i=φ i)/\Ax S K w0 φ' gv nt (Fb vs s) a w/\Fr s (Fb vs s):=by
 intro vs;induction vs with
 |nil=>intro s φ hR;exact⟨φ,fun _ _=>rfl,hR,Fr.refl _⟩
 |cons p vs ih=>
  obtain⟨t,jv⟩:=p;intro s φ hR;cases jv with
  |so jj=>
   simp[Fb];split
   .rename_i id ver lo u x ht;split
    .rename_i ut q v ho;cases e:(oq u&&v==ver)with|false=>exact ih hR|true=>simp at e;obtain⟨φ1,h1,h2,h3⟩:=ac0 hR ht ho e.1 e.2;obtain⟨φ2,h4,h5,h6⟩:=ih h2;exact⟨φ2,fun i hi=>(h4 i (by show i<s.next+1;omega)).trans (h1 i hi),h5,h3.trans h6⟩
    .exact ih hR
   .exact ih hR
  |_=>exact ih hR
theorem ado{h:H2}{n:Nat}{H:Hf}(hI:Inv S K w0 φ H w)(hbx:∀id t c,fO h id=some (.bx t c)->fG n h c):∀{ps:List (Nat×Ty×Sh)}{l:List V}{ids:List Nat},Sx h ps=some (l,ids)->(∀i∈ids,H i=fO h i)->ids.Nodup->(∀p∈ps,p.1<n)->
  ∃lent fp,NU S w (ps.map fun x=>.pb x.2.1 x.2.2) l lent fp/\BG w φ H ids fp/\Ep S w φ (ps.map fun x=>.op x.1 x.2.1 []) lent/\∀p∈ps,p.1∈ids:=by
 intro ps;induction ps with
 |nil=>intro l ids ha _ _ _;cases ha;exact⟨[],[],⟨rfl,rfl⟩,BG.nil,trivial,by simp⟩
 |cons p ps ih=>
  obtain⟨id,t,c⟩:=p;intro l ids ha hH hn hlt;simp only[Sx]at ha;split at ha<;>first|(cases ha;done)|skip
  rename_i l1 i1 l2 i2 h1 h2;cases ha;obtain⟨n1,n2,_⟩:=List.nodup_append.1 hn;obtain⟨lent,fp,q1,q2,q3,q4⟩:=ih h2 (fun i hi=>hH i (by simp[hi])) n2 fun p hp=>hlt p (by simp[hp])
  have hmem:id∈i1/\∃cc,fO h id=some (.bx t cc):=by
   have h1':(match fO h id with|some (.bx w v)=>bif decide (w=t)&&decide (t=t)then(match zA h c false v with|some (l,i)=>some ([pkV l],id::i)|none=>none)else none|_=>none)=some (l1,i1):=h1
   grind
  obtain⟨hm,cc,ho⟩:=hmem;obtain⟨lo,a1,⟨a2,_⟩,_⟩:=hI.o9 id _ ((hH id (by simp[hm])).trans ho);have hrw:RW S w φ (.op id t []) (.pointer (some ⟨lo.cQ,0,none⟩)):=R1.rw (R1.CH ⟨lo,a1,a2,by cases t<;>trivial,by cases t<;>rfl⟩ rfl);obtain⟨f1,g1,g2⟩:=I5 hI hbx h1 hrw (fun i hi=>hH i (by simp[hi])) (hlt (id,t,c) (by simp)) n1;refine⟨_::lent,f1++fp,⟨l1,l2,f1,fp,rfl,rfl,g1,q1⟩,BG.append hI hn g2 q2,⟨hrw,q3⟩,fun p hp=>?_⟩
  grind
theorem Ax.kx{s:S2}{ids:List Nat}(hR:Ax S K w0 φ gv nt s a w):Ax S K w0 φ gv nt (kx ids s) a w:=by
 rw[kI];have hu:mA s.next s.heap (ids.map fun j=>(j,none)):=fun p hp o' e=>by grind
 have hfo:∀i o,fO (ids.map (fun j=>(j,none))++s.heap) i=some o->fO s.heap i=some o:=fun i o h=>by
  rw[oz]at h
  grind [up,ra]
 refine⟨⟨hR.rx.inv.G7 hfo,hR.rx.jl,hR.rx.size,hR.rx.defers,hR.rx.gh⟩,hR.zk,fun id l o h1 h2=>hR.HR id l o h1 (hfo id o h2),⟨?_,fun t v hv=>eA (aw _) hu.gj (hR.ok.jl t v hv)⟩,fun c hc=>eA (aw _) hu.gj (hR.ZC c hc)⟩;exact hR.ok.DZ.iT (aw _) hu (fun p hp=>by grind) fun p hp t c e=>by grind
theorem Nn(hR:Ax S K w0 φ gv nt s a w)(h0:SD s0.next s0.heap (iV s0.jl))(hg0:∀c∈kO s0.gh,fG s0.next s0.heap c)(hle:s0.next<=s.next)(hW:∀id,id<s0.next->id∉s.wo->id∉j.kl->fO s.heap id=fO s0.heap id)
  (hE:∀t v,t∉ds->iV s0.jl t=some v->RW S w φ v (a.tmps.getD t undef)) (hc:Du j s0 s=some l) (hr:CF j ds s0 l=some s1):(∃φ1,(∀i,i<s0.next->φ1 i=φ i)/\Ax S K w0 φ1 gv nt s1 a w)/\agX j s0 s1:=by
 obtain⟨φ',h1,h2,h3⟩:=acY (vs:=j.vs) hR;obtain⟨W,e1,e2⟩:=h3.wo;have hW2:∀id,id<s0.next->id∉(Fb j.vs s).wo->id∉j.kl->fO (Fb j.vs s).heap id=fO s0.heap id:=fun id a b c=>by simp_all
 have hE2:∀t v,t∉ds->iV s0.jl t=some v->RW S w φ' v (a.tmps.getD t undef):=fun t v a b=>(hE t v a b).WL (n:=s0.next) (h:=s0.heap) (fun i hi=>h1 i (by omega)) (h0.jl t v b);have hle2:=bg hle h3.le;unfold CF at hr;split at hr<;>first|(cases hr;done)|skip
 rename_i s2 bH hr2
 change (match j.ps with
  |[]=>Mo j s0 (Fb j.vs s)
  |p::r=>match Sx (Fb j.vs s).heap (p::r)with
   |some (l,ids)=>bif ET ids&&ids.all (fun i=>Nat.ble s0.next i||j.kl.contains i)&&(p::r).all (fun x=>Nat.blt x.1 s0.next)then
     (match Mo j s0 (kx ids (Fb j.vs s))with|some m=>some (m++l)|none=>none)else none
   |none=>none)=some l at hc
 split at hc
 .rename_i hps;rw[hps]at hr;cases hr;rw[<-List.append_nil l]at hr2
  grind [PM,trans]
 rename_i p r hps;rw[hps]at hr;obtain⟨s',es'⟩:∃s',s'=Fb j.vs s:=⟨_,rfl⟩
 rw[<-es']at hc h2 hW2 hle2 h3;split at hc<;>first|(cases hc;done)|skip
 rename_i lp ids hP;obtain⟨e,hc⟩:=aN hc;simp only[ax]at e;obtain⟨⟨c1,c2⟩,c3⟩:=e;have c1:=G1 c1;split at hc<;>cases hc;rename_i m hm;have c3:∀x∈p::r,x.1<s0.next:=fun x hx=>by simpa[fM]using cw.1 c3 x hx
 have hK:=h2.kx (ids:=ids);have ek:kx ids s'=⟨s'.jl,ids.map (fun j=>(j,none))++s'.heap,s'.next,ids++s'.wo,s'.gh⟩:=kI;obtain⟨rfl,⟨φ1,g1,g2,g4⟩,g3,g5⟩:=PM hK h0 hg0 (by rw[ek];exact hle2) (fun id a b c=>by rw[ek]at b|-;simp only[aK,not_or]at b;show fO (ids.map (fun j=>(j,none))++s'.heap) id=_;simp_all[oz,up,ra,if_neg]) hE2 hm hr2;obtain⟨lent,fp,f1,f2,f3,f4⟩:=ado h2.rx.inv h2.ok.DZ.bx hP (fun i _=>rfl) c1 fun x hx=>bY (c3 x hx) hle2;obtain⟨s3,hs3,hB⟩:=KI hr;cases hs3;have hq:((p::r).map fun x:Nat×Ty×Sh=>(V.op x.1 x.2.1 [],[x.1])).flatMap (·.2)=(p::r).map (·.1):=by generalize p::r=ps;induction ps with|nil=>rfl|cons x ps ih=>simp[ih]
 have hq1:((p::r).map fun x:Nat×Ty×Sh=>(V.op x.1 x.2.1 [],[x.1])).map (·.1)=(p::r).map fun x=>V.op x.1 x.2.1 []:=by simp
 have hsub:∀{ps:List (Nat×Ty×Sh)}{l:List V}{ids:List Nat},Sx s'.heap ps=some (l,ids)->List.Sublist (ps.map (·.1)) ids:=by
  intro ps;induction ps with
  |nil=>simp_all
  |cons x ps ih=>
   obtain⟨id,t,c⟩:=x;intro l ids ha;simp only[Sx]at ha;split at ha<;>first|(cases ha;done)|skip
   rename_i l1 i1 l2 i2 k1 k2;cases ha;have k1:(match fO s'.heap id with|some (.bx w v)=>bif decide (w=t)&&decide (t=t)then(match zA s'.heap c false v with|some (l,i)=>some ([pkV l],id::i)|none=>none)else none|_=>none)=some (l1,i1):=k1;split at k1<;>first|(cases k1;done)|skip
   have k1:=(aN k1).2;split at k1<;>cases k1;simp_all
 have hlow:∀i,i<s0.next->φ1 i=φ' i:=g1
 have hfree:Cr S K w φ1 (fO s2.heap) fp:=⟨f2.1,fun b hb=>by
  obtain⟨i,hi,o,lo,p1,p2,p3⟩:=f2.2 b hb;obtain⟨l2,o1,_,o3⟩:=h2.rx.inv.o9 i o p1;obtain rfl:=af (p2.symm.trans o1);obtain⟨b1,b2,b3⟩:=o3 b p3;refine⟨b1,b2,b3,fun j' a' m' q1 q2 q3=>?_⟩;obtain⟨i',o',r1,r2,r3⟩:=g4 j' a' m' b q1 q2 q3;rw[ek]at r1;have r1:fO (ids.map (fun j=>(j,none))++s'.heap) i'=some o':=r1;rw[oz]at r1;simp only[up,ra]at r1;split at r1
  .simp_all
  .rename_i hx;have hni:i'∉ids:=fun hm=>by simp[hm]at hx
   exact h2.rx.inv.jz i i' o o' lo m' p1 r1 p2 r2 (fun e=>hni (e▸hi)) b p3 r3⟩
 obtain⟨u,φ2,hBk,hkey⟩:=hB.2.2 (S:=S) (K:=K) (w0:=w0) (w:=w) (φ:=φ1) (H:=fO s2.heap) (lent:=lent) (fp:=fp) f1 (by
  rw[hq1]
  have:∀{ps:List (Nat×Ty×Sh)}{lent:List Value},(∀x∈ps,x.1<s0.next)->Ep S w φ' (ps.map fun x=>.op x.1 x.2.1 []) lent->Ep S w φ1 (ps.map fun x=>.op x.1 x.2.1 []) lent:=by
   intro ps;induction ps with
   |nil=>intro lent _ h;cases lent<;>first|trivial|exact h.elim
   |cons x ps ih=>intro lent hx h;cases lent with|nil=>exact h.elim|cons y lent=>refine⟨?_,ih (fun x' hx'=>hx x' (by simp[hx'])) h.2⟩;obtain⟨c,⟨l,k1,k2⟩,k3⟩:=h.1;exact⟨c,⟨l,(hlow _ (hx x (by simp))).trans k1,k2⟩,k3⟩
  exact this c3 f3) (fun e he=>by
  obtain⟨x,hx,rfl⟩:=aR.1 he;have hx2:x.1<s2.next:=bY (c3 x hx) g3.le;exact⟨fun i hi=>by simp_all,hx2,[],rfl⟩) (by rw[hq];exact(hsub hP).nodup c1) g2.rx.inv (fun i hi=>by
  rw[hq]at hi;obtain⟨x,hx,rfl⟩:=aR.1 hi;refine g5 _ ?_ (c3 x hx);have:=cw.1 c2 _ (f4 x hx);have hlt:=c3 x hx;simp only[cE,Nat.ble_eq,ko,decide_eq_true_eq]at this;exact this.resolve_left (by omega)) (fun j a _=>g2.zk j a) hfree g2.ok.DZ
 .have hto:Ax S K w0 φ2 gv nt s1 a w:=by
   have eh:fO s1.heap=up (fO s2.heap) u:=by rw[hBk.heap,oz]
   have e1:=hBk.eq;have een:s1.jl=s2.jl:=by rw[e1]
   have egh:s1.gh=s2.gh:=by rw[e1]
   have hI:Inv S K w0 φ2 (fO s1.heap) w:=by rw[eh];exact hBk.inv
   obtain⟨u',hT⟩:=hB.2.1 g2.ok.DZ;refine⟨⟨hI,fun t v hv=>?_,g2.rx.size,g2.rx.defers,fun i c v q1 q2=>?_⟩,fun i hi=>?_,Ax.XL hI,⟨hT.DZ g2.ok.DZ,fun t v hv=>?_⟩,fun c hc=>?_⟩
   .rw [een]at hv;exact(g2.rx.jl t v hv).mono (iW.refl _ _) hBk.K_
   .rw [egh]at q1;exact(g2.rx.gh i c v q1 q2).mono (iW.refl _ _) hBk.K_
   .cases e2:φ2 i with|none=>rfl|some lo=>have:=hBk.new i lo e2 (g2.zk i (bg hBk.le hi));omega
   .rw [een]at hv;exact eA hBk.le hBk.gj (g2.ok.jl t v hv)
   .rw [egh]at hc;exact eA hBk.le hBk.gj (g2.ZC c hc)
  refine⟨⟨φ2,fun i hi=>?_,hto⟩,⟨bg g3.le hBk.le,?_,fun id hid hk=>?_⟩⟩
  .have hlt:=g3.le;rw[<-h1 i (by omega),<-hlow i hi];cases e2:φ1 i with
   |some lo=>exact hBk.K_ i lo e2
   |none=>cases e3:φ2 i with|none=>rfl|some lo=>have:=hBk.new i lo e3 e2;omega
  .obtain ⟨W2,w1,w2⟩:=g3.wo;refine⟨u.map (·.1)++W2,by rw[hBk.eq,w1,bm],fun id hid=>?_⟩;simp only[aK,not_or]at hid;rw[hBk.heap,oz];simp only[up,uX hid.1];exact w2 id hid.2
  .rw [hBk.heap,oz]
   have:iV u id=none:=by
    cases e2:iV u id with
    |none=>rfl
    |some y=>
     exfalso;rcases hkey _ (nE.1 y e2)with h|h
     .rw [hq]at h;obtain⟨x,hx,rfl⟩:=aR.1 h;have:=cw.1 c2 _ (f4 x hx);simp only[cE,Nat.ble_eq,ko,decide_eq_true_eq]at this;exact hk (this.resolve_left (by omega))
     .have:=g3.le;simp only at h;omega
   simp only[up,this];exact g3.kl id hid hk
end
section
variable{P:Program}{S K:Nat->Prop}{w0 w:World}{φ:iq}{gv:List Value}{nt:Nat}{a:Act}{bI:II}{tb:Lv}{lp:Lp}{β:Type}
theorem Fq{c:Code}{Q:Exit->Act->World->Prop}(J:Nat->Act->World->Prop)(n:Nat)(h₀:J n a w)
  (round:∀n a w,J n a w->c.wp P (Exit.then (fun a w=>∃m,m<n/\J m a w) Q) a w):(Code.loop c).wp P Q a w:=by
 intro b k cs
 have key:∀n a w,J n a w->∃e a' w',Q e a' w'/\Arrives P (lone (b.at a (.code c::.inLoop c::k)) cs w) b k cs e a' w':=by
  intro n;induction n using Nat.strongRecOn with
  |_ n ih=>intro a w hJ;obtain⟨e,a₁,w₁,hq,harr⟩:=round n a w hJ b _ cs;cases e with|normal=>obtain⟨m,hlt,hq⟩:=hq;obtain⟨e₂,a₂,w₂,hq₂,harr₂⟩:=ih m hlt a₁ w₁ hq;exact⟨e₂,a₂,w₂,hq₂,.of_steps (Steps.trans harr (.one step_inLoop)) harr₂⟩|exit id=>exact⟨_,a₁,w₁,hq,.pass rfl (fun _ _=>.inl (by simp)) harr⟩|goto l=>exact⟨_,a₁,w₁,hq,.pass rfl (fun _ _=>.inl (by simp)) harr⟩|ret=>exact⟨_,a₁,w₁,hq,.pass rfl (fun _ _=>.inl (by simp)) harr⟩|panic ch=>exact⟨_,a₁,w₁,hq,.pass rfl (fun _ _=>.inl (by simp)) harr⟩|outgrown=>exact⟨_,a₁,w₁,hq,.pass rfl (fun _ _=>.inl (by simp)) harr⟩
 obtain⟨e,a',w',hq,harr⟩:=key n a w h₀;exact⟨e,a',w',hq,.of_steps (.one step_loop) harr⟩
theorem TM{ds:List Nat}{s s':S2}{o:ik}{k:ik->S2->Option β}{r:β}:∀{e:Ex}{x:Qz e},PO s o s' e=some x->O_ ds s k e x=some r->∃j l s1,(o,j)∈e/\Du j s s'=some l/\CF j ds s l=some s1/\k o s1=some r:=by
 have one:∀{o':ik}{j:J}{p:D9 (vE j)},(match Du j s s' with|some l=>CR (vE j) l|none=>none)=some p->(match CF j ds s (BI (vE j) p)with|some s=>k o' s|none=>none)=some r->o=o'->∃l s1,Du j s s'=some l/\CF j ds s l=some s1/\k o s1=some r:=by
  grind [zS]
 have key:∀(e:Ex)(o':ik)(j:J)(x:Qz.WD j e),acx s o s' o' j e=some x->afF ds s k o' j e x=some r->∃j2 l s1,(o,j2)∈(o',j)::e/\Du j2 s s'=some l/\CF j2 ds s l=some s1/\k o s1=some r:=by
  intro e;induction e with
  |nil=>intro o' j x h1 h2;obtain⟨e1,h3⟩:=aN (h1);obtain⟨l,s1,q1,q2,q3⟩:=one h3 h2 (of_decide_eq_true e1);simp_all
  |cons p e ih=>
   obtain⟨o2,j2⟩:=p;intro o' j x h1 h2;simp only[Qz.WD,acx]at h1;cases e1:decide (o=o')with
   |true=>
    rw[e1]at h1;split at h1<;>first|(cases h1;done)|skip
    rename_i l hl;split at h1<;>cases h1;rename_i p hp;obtain⟨l,s1,q1,q2,q3⟩:=one (p:=p) (by rw[hl];exact hp) h2 (of_decide_eq_true e1);simp_all
   |false=>
    rw[e1]at h1;simp only[cond_false]at h1;split at h1<;>cases h1;rename_i y hy;obtain⟨j3,l,s1,q0,q1,q2,q3⟩:=ih o2 j2 y hy h2
    grind
 intro e x h1 h2;cases e with|nil=>exact nomatch x|cons p e=>exact key e p.1 p.2 x h1 h2
theorem Ax.wo{s:S2}{W:List Nat}(h:Ax S K w0 φ gv nt s a w):Ax S K w0 φ gv nt {s with wo:=W} a w:=⟨⟨h.rx.inv,h.rx.jl,h.rx.size,h.rx.defers,h.rx.gh⟩,h.zk,h.HR,⟨h.ok.DZ,h.ok.jl⟩,h.ZC⟩
theorem D8.trans{S':Nat->Prop}{w':World}{φ':iq}{a1:Act}{d1 d2 ds:List Nat}{s s1:S2}{k:ik->S2->Option β}{r:β}{e:Exit}{a':Act}{w'':World}(hs:iW S w S' w')(hk:oA d1 s.next φ φ' a a1)(hf:Fr s s1)(hd:∀t,t∈d1\/t∈d2->t∈ds)(hp:D8 S' K w0 w' φ' a1 gv nt d2 s1 k r e a' w''):D8 S K w0 w φ a gv nt ds s k r e a' w'':=by obtain⟨o,s',h1,h2,h3,S'',φ'',h4,h5,h6⟩:=hp;exact⟨o,s',h1,h2,hf.trans h3,S'',φ'',hs.trans h4,(hk.trans h5 hf.le).sub (by simp_all),h6⟩
theorem D8.sub{d1 ds:List Nat}{s:S2}{k:ik->S2->Option β}{r:β}{e:Exit}{a':Act}{w':World}(hd:∀t∈d1,t∈ds)(hp:D8 S K w0 w φ a gv nt d1 s k r e a' w'):D8 S K w0 w φ a gv nt ds s k r e a' w':=by obtain⟨o,s',h1,h2,h3,S',φ',h4,h5,h6⟩:=hp;exact⟨o,s',h1,h2,h3,S',φ',h4,h5.sub hd,h6⟩
theorem J6{s:S2}{S':Nat->Prop}{w':World}{φ':iq}{a':Act}{ds:List Nat}(hR:Ax S K w0 φ gv nt s a w)(hs:iW S w S' w')(hk:oA ds s.next φ φ' a a'):∀t v,t∉ds->iV s.jl t=some v->RW S' w' φ' v (a'.tmps.getD t undef):=fun t v ht hv=>by rw[hk.tmp t ht];exact((hR.rx.jl t v hv).mono hs (Ren.refl φ)).WL hk.plc (hR.ok.jl t v hv)
theorem G9{j:J}{ds:List Nat}{l:List V}{s s' s1:S2}{S':Nat->Prop}{w':World}{φ':iq}{a':Act}{k:ik->S2->Option β}{r:β}{o:ik}(hR:Ax S K w0 φ gv nt s a w)(hR':Ax S' K w0 φ' gv nt s' a' w')(hs:iW S w S' w')(hk:oA ds s.next φ φ' a a')(hle:s.next<=s'.next)
  (hW:∀id,id<s.next->id∉s'.wo->id∉j.kl->fO s'.heap id=fO s.heap id) (hc:Du j s s'=some l) (hr:CF j ds s l=some s1) (hk1:k o s1=some r):D8 S K w0 w φ a gv nt ds s k r (Vi o) a' w':=by
 obtain⟨⟨φ1,h1,h2⟩,h3⟩:=Nn hR' hR.ok hR.ZC hle hW (J6 hR hs hk) hc hr;exact⟨o,s1,hk1,rfl,⟨h3.le,h3.wo⟩,S',φ1,hs,⟨hk.tmp,fun i hi=>(h1 i hi).trans (hk.plc i hi)⟩,h2⟩
theorem X9(hT:vi P tb)(hnt:nt<1000000000)(hm:P.follows .mixedOrders=true){ops:Array Oper}{draw:Bool}{id:Nat}{m:List Nat}{dr:Option (List (Nat×Nat))}{s:S2}{k:S2->Option β}{r:β}(hd:(draw=false/\dr=none)\/(draw=true/\H3 m ops.toList 0=true/\HT m (ops.toList.map (df P bI nt ops)) 0=true/\ops.size<=1000/\dr=some (Cj m (ops.toList.map (df P bI nt ops)) 0)))
  (hR:Ax S K w0 φ gv nt s a w) (h:Gi tb (ops.toList.map (AN P bI nt ops)) dr s k=some r):
  Code.wp P (.region id ops draw) (fun e a' w'=>e=.normal/\∃s',k s'=some r/\Fr s s'/\∃S' φ',iW S w S' w'/\oA (ops.toList.filterMap (·.dst)) s.next φ φ' a a'/\Ax S' K w0 φ' gv nt s' a' w') a w:=by
 rcases hd with⟨rfl,rfl⟩|⟨rfl,h1,h2,h3,rfl⟩
 .exact wp_region (abB hT hnt (e0:=[]) hR h)
 .exact wp_region_any hm (abC hT hnt h1 h2 h3 hR h)
theorem Kv{ops:Array Oper}:(ops.toList.map (AN P bI nt ops)).filterMap (·.o.dst)=ops.toList.filterMap (·.dst):=by rw[List.filterMap_map];rfl
theorem ac3(hT:vi P tb)(hnt:nt<1000000000)(hm:P.follows .mixedOrders=true){an:List (Nat×An)}:∀(code:Code)(n:Nat){S:Nat->Prop}{φ:iq}{s:S2}{a:Act}{w:World}{β:Type}{k:ik->S2->Option β}{r:β},
  Em lp tb (rq P bI nt an code n).1 s k=some r->Ax S K w0 φ gv nt s a w->code.wp P (D8 S K w0 w φ a gv nt (rF (rq P bI nt an code n).1) s k r) a w:=by
 have done:∀{S:Nat->Prop}{φ:iq}{s:S2}{a:Act}{w:World}{β:Type}{k:ik->S2->Option β}{r:β}{o:ik}{ds:List Nat},k o s=some r->Ax S K w0 φ gv nt s a w->D8 S K w0 w φ a gv nt ds s k r (Vi o) a w:=fun{S φ s a w β k r o ds}h hR=>⟨o,s,h,rfl,Fr.refl _,S,φ,iW.refl _ _,oA.refl _ _ _ _,hR⟩;intro code;induction code with
 |skip=>intro n S φ s a w β k r h hR;exact wp_skip (done (o:=.normal) h hR)
 |region id ops draw=>
  intro n S φ s a w β k r h hR
  have go:∀{dr:Option (List (Nat×Nat))}{jn:Option J}{m:List Nat},((draw=false/\dr=none)\/(draw=true/\H3 m ops.toList 0=true/\HT m (ops.toList.map (df P bI nt ops)) 0=true/\ops.size<=1000/\dr=some (Cj m (ops.toList.map (df P bI nt ops)) 0)))->
    Em lp tb (.reg (ops.toList.map (AN P bI nt ops)) dr jn) s k=some r->Code.wp P (.region id ops draw) (D8 S K w0 w φ a gv nt (ops.toList.filterMap (·.dst)) s k r) a w:=by
   intro dr jn m hd h;cases jn with
   |none=>refine wp_mono (X9 hT hnt hm hd hR (show Gi tb (ops.toList.map (AN P bI nt ops)) dr s (fun s=>k .normal s)=some r from h)) fun e a' w'⟨h1,s',h2,h3,S',φ',h4,h5,h6⟩=>?_;exact⟨.normal,s',h2,h1,h3,S',φ',h4,h5,h6⟩
   |some j=>
    obtain⟨p,hp,h2⟩:=zF (h);split at h2<;>first|(cases h2;done)|skip
    rename_i s1 hs1;rw[Kv]at hs1;refine wp_mono (X9 hT hnt hm hd (hR.wo (W:=[])) hp) fun e a' w'⟨h1,s',h3,h4,S',φ',h5,h6,h7⟩=>?_;split at h3<;>first|(cases h3;done)|skip
    rename_i l hl;rw[zS h3]at hs1;obtain⟨W,e1,e2⟩:=h4.wo;rw[h1];exact G9 (o:=.normal) hR h7 h5 h6 h4.le (fun id _ hid _=>e2 id (by rw[e1]at hid;simpa using hid)) hl hs1 h2
  simp only[rq]at h|-;cases draw with
  |false=>simp only[Bool.false_eq_true,if_false]at h|-;have:=go (m:=[]) (.inl ⟨rfl,rfl⟩) h;simpa only[rF,Kv]using this
  |true=>
   simp only[if_true]at h|-;split at h
   .rename_i hc;rw[if_pos hc];simp only[ax,decide_eq_true_eq]at hc;have:=go (m:=aaD ops.toList []) (.inr ⟨rfl,hc.1.1,hc.1.2,by simpa using hc.2,rfl⟩) h;simpa only[rF,Kv]using this
   .cases h
 |seq x y ihx ihy=>
  intro n S φ s a w β k r h hR;simp only[rq]at h|-;refine wp_seq ?_;obtain⟨X,hX⟩:∃X,X=rq P bI nt an x (n+1):=⟨_,rfl⟩
  obtain⟨Y,hY⟩:∃Y,Y=rq P bI nt an y X.2:=⟨_,rfl⟩
  rw[<-hX,<-hY]at h|-
  have CI:∀{o:ik}{s':S2}{S':Nat->Prop}{φ':iq}{a':Act}{w':World},(match o with|.normal=>Em lp tb Y.1 s' k|o=>k o s')=some r->Fr s s'->iW S w S' w'->oA (rF X.1) s.next φ φ' a a'->Ax S' K w0 φ' gv nt s' a' w'->
    Exit.then (Code.wp P y (D8 S K w0 w φ a gv nt (rF X.1++rF Y.1) s k r)) (D8 S K w0 w φ a gv nt (rF X.1++rF Y.1) s k r) (Vi o) a' w':=by
   intro o s' S' φ' a' w' h1 h2 h3 h4 h5;cases o with|normal=>have:=ihy X.2 (by rw[<-hY];exact h1) h5;rw[<-hY]at this;exact wp_mono this fun e a'' w'' hp=>hp.trans h3 h4 h2 fun t ht=>by simpa using ht|exit id=>exact⟨.exit id,s',h1,rfl,h2,S',φ',h3,h4.sub fun t ht=>by simp[ht],h5⟩|ret=>exact⟨.ret,s',h1,rfl,h2,S',φ',h3,h4.sub fun t ht=>by simp[ht],h5⟩
  have main:∀ex:Ex,Em lp tb (.seq X.1 Y.1 ex) s k=some r->Code.wp P x (Exit.then (Code.wp P y (D8 S K w0 w φ a gv nt (rF X.1++rF Y.1) s k r)) (D8 S K w0 w φ a gv nt (rF X.1++rF Y.1) s k r)) a w:=by
   intro ex h;cases ex with
   |nil=>have:=ihx (n+1) (by rw[<-hX];exact(show Em lp tb X.1 s (fun o s=>match o with|.normal=>Em lp tb Y.1 s k|o=>k o s)=some r from h)) hR;rw[<-hX]at this;refine wp_mono this fun e a' w'⟨o,s',h1,h2,h3,S',φ',h4,h5,h6⟩=>?_;rw[h2];exact CI h1 h3 h4 h5 h6
   |cons ej es=>
    obtain⟨z,hz,h2⟩:=zF (h);have:=ihx (n+1) (by rw[<-hX];exact hz) (hR.wo (W:=[]));rw[<-hX]at this;refine wp_mono this fun e a' w'⟨o,s',h3,h4,h5,S',φ',h6,h7,h8⟩=>?_;obtain⟨j,l,s1,q0,q1,q2,q3⟩:=TM h3 h2;obtain⟨W,e1,e2⟩:=h5.wo;obtain⟨o2,s2,p1,p2,p3,S2,φ2,p4,p5,p6⟩:=G9 (o:=o) (k:=fun o s=>match o with|.normal=>Em lp tb Y.1 s k|o=>k o s) hR h8 h6 h7 h5.le (fun id _ hid _=>e2 id (by rw[e1]at hid;simpa using hid)) q1 q2 q3
    grind
  exact main _ h
 |cond c x y ihx ihy=>
  intro n S φ s a w β k r h hR;simp only[rq]at h|-;obtain⟨X,hX⟩:∃X,X=rq P bI nt an x n:=⟨_,rfl⟩
  obtain⟨Y,hY⟩:∃Y,Y=rq P bI nt an y X.2:=⟨_,rfl⟩
  rw[<-hX,<-hY]at h|-;have CI:∀{v:V}{t:Bool},Vq s.jl s.heap c=some v->tg v=some (.bool t)->(bif t then Em lp tb X.1 s k else Em lp tb Y.1 s k)=some r->Code.wp P (.cond c x y) (D8 S K w0 w φ a gv nt (rF X.1++rF Y.1) s k r) a w:=by intro v t h1 h2 h3;obtain⟨q1,_⟩:=M9 (n:=s.next) (E:=iV s.jl) (fun t v h=>.inr h) hR.ok.jl h1;have hv:=xV h2 (q1.rw hR.rx.jl hR.rx.inv.R5);refine wp_cond hv ?_;cases t with|true=>have:=ihx n (by rw[<-hX];exact h3) hR;rw[<-hX]at this;exact wp_mono this fun _ _ _ hp=>hp.sub fun t ht=>by simp[ht]|false=>have:=ihy X.2 (by rw[<-hY];exact h3) hR;rw[<-hY]at this;exact wp_mono this fun _ _ _ hp=>hp.sub fun t ht=>by simp[ht]
  change (match Vq s.jl s.heap c with
   |some (.kb t)=>bif t then Em lp tb X.1 s k else Em lp tb Y.1 s k
   |some (.x .b t)=>bif t then Em lp tb X.1 s k else Em lp tb Y.1 s k
   |_=>none)=some r at h
  split at h<;>first|(cases h;done)|skip
  .rename_i t h1;exact CI h1 rfl h
  .rename_i t h1;exact CI h1 rfl h
 |block id x ih=>
  intro n S φ s a w β k r h hR;simp only[rq]at h|-;obtain⟨X,hX⟩:∃X,X=rq P bI nt an x n:=⟨_,rfl⟩
  rw[<-hX]at h|-;have:=ih n (by rw[<-hX];exact(show Em lp tb X.1 s (fun o s=>match o with|.exit i=>k (bif i==id then .normal else .exit i) s|o=>k o s)=some r from h)) hR;rw[<-hX]at this;refine wp_block (wp_mono this fun e a' w'⟨o,s',h1,h2,h3,hp⟩=>?_);rw[h2];cases o with
  |normal=>exact⟨.normal,s',h1,rfl,h3,hp⟩
  |ret=>exact⟨.ret,s',h1,rfl,h3,hp⟩
  |exit id'=>
   simp only[Vi,Exit.inBlock];simp only at h1;by_cases hid:id'=id
   .rw [if_pos hid];rw[show(id'==id)=true by simpa using hid]at h1;exact⟨.normal,s',h1,rfl,h3,hp⟩
   .rw [if_neg hid];rw[show(id'==id)=false by simpa using hid]at h1;exact⟨.exit id',s',h1,rfl,h3,hp⟩
 |loop x ih=>
  intro n S φ s a w β k r h hR;simp only[rq]at h|-;obtain⟨X,hX⟩:∃X,X=rq P bI nt an x (n+1):=⟨_,rfl⟩
  rw[<-hX]at h|-;split at h<;>first|(cases h;done)|skip
  rotate_left
  .rename_i u _;refine Fq (fun m a1 w1=>∃s1 S1 φ1,ae9 (fun s k=>Em lp tb X.1 s k) m s1 k=some r/\Fr s s1/\iW S w S1 w1/\oA (rF X.1) s.next φ φ1 a a1/\Ax S1 K w0 φ1 gv nt s1 a1 w1) (u+1) ⟨s,S,φ,h,Fr.refl _,iW.refl _ _,oA.refl _ _ _ _,hR⟩ ?_;intro m a1 w1 hJ;obtain⟨s1,S1,φ1,hr,hf,hs,hk,hR1⟩:=hJ;cases m with
   |zero=>cases hr
   |succ m=>have:=ih (n+1) (by rw[<-hX];exact hr) hR1;rw[<-hX]at this;refine wp_mono this fun e' a' w' hpost=>?_;obtain⟨o,s',h1,h2,h3,S',φ',h4,h5,h6⟩:=hpost;have hkk:oA (rF X.1) s.next φ φ' a a':=(hk.trans h5 hf.le).sub (by simp);rw[h2];cases o with|normal=>exact⟨m,bh _,s',S',φ',h1,hf.trans h3,hs.trans h4,hkk,h6⟩|exit id=>exact⟨.exit id,s',h1,rfl,hf.trans h3,S',φ',hs.trans h4,hkk,h6⟩|ret=>exact⟨.ret,s',h1,rfl,hf.trans h3,S',φ',hs.trans h4,hkk,h6⟩
  rename_i j e _ hj;obtain⟨hkl,h2⟩:=aN (h);clear h;split at h2<;>first|(cases h2;done)|skip
  rename_i l0 hl0;split at h2<;>first|(cases h2;done)|skip
  rename_i p0 hp0;obtain⟨z,hz,hout⟩:=zF h2;obtain⟨N,hN⟩:=lp.ok hz
  refine Fq (fun m a1 w1=>∃p S1 φ1,tz (fun p=>match CF j (rF X.1) s (BI (vE j) p)with
      |some s1=>Em lp tb X.1 {s1 with wo:=[]} fun o s'=>(match o with
       |.normal=>(match Du j s s' with|some l=>(match CR (vE j) l with|some q=>some (Sum.inl q)|none=>none)|none=>none)
       |o=>(match PO s o s' e with|some x=>some (Sum.inr x)|none=>none))
      |none=>none) m p=some z/\iW S w S1 w1/\oA (rF X.1) s.next φ φ1 a a1/\∀s1,CF j (rF X.1) s (BI (vE j) p)=some s1->Ax S1 K w0 φ1 gv nt s1 a1 w1/\agX j s s1) N ?_ ?_
  .cases hr1:CF j (rF X.1) s (BI (vE j) p0)with|none=>exact⟨p0,S,φ,hN,iW.refl _ _,oA.refl _ _ _ _,fun s1 e=>by rw[hr1]at e;cases e⟩|some s1=>have e1:=zS hp0;rw[e1]at hr1;obtain⟨⟨φ1,h1,h2⟩,h3⟩:=Nn (hR.wo (W:=[])) hR.ok hR.ZC (aw _) (fun _ _ _ _=>rfl) (J6 hR (iW.refl _ _) (oA.refl _ _ _ _)) hl0 hr1;exact⟨p0,S,φ1,hN,iW.refl _ _,⟨fun _ _=>rfl,h1⟩,fun s2 e=>by simp_all⟩
  .intro m a1 w1 hJ;obtain⟨p,S1,φ1,hr,hs,hk,hrel⟩:=hJ;cases m with
   |zero=>cases hr
   |succ m=>
    simp only[tz]at hr;cases hr1:CF j (rF X.1) s (BI (vE j) p)with
    |none=>rw[hr1]at hr;cases hr
    |some s1=>
     obtain⟨hR1,hJE⟩:=hrel s1 hr1;rw[hr1]at hr;simp only at hr
     obtain⟨fp,hfp⟩:∃fp,(Em lp tb X.1 {s1 with wo:=[]} fun o s'=>(match o with
       |.normal=>(match Du j s s' with|some l=>(match CR (vE j) l with|some q=>some (Sum.inl q)|none=>none)|none=>none)
       |o=>(match PO s o s' e with|some x=>some (Sum.inr x)|none=>none)))=some fp:=by
      grind
     rw[hfp]at hr;have:=ih (n+1) (by rw[<-hX];exact hfp) (hR1.wo (W:=[]));rw[<-hX]at this;refine wp_mono this fun e' a' w' hpost=>?_;obtain⟨o,s',h1,h2,h3,S',φ',h4,h5,h6⟩:=hpost;have hle:s.next<=s'.next:=bg hJE.le h3.le;have hkk:oA (rF X.1) s.next φ φ' a a':=(hk.trans h5 hJE.le).sub (by simp);have hss:=hs.trans h4;obtain⟨W,w1',w2'⟩:=h3.wo;have hW:∀id,id<s.next->id∉s'.wo->id∉j.kl->fO s'.heap id=fO s.heap id:=fun id q1 q2 q3=>(w2' id (by rw[w1']at q2;simpa using q2)).trans (hJE.kl id q1 q3)
     have out:(match PO s o s' e with|some x=>some (Sum.inr x:D9 (vE j)⊕Qz e)|none=>none)=some fp->D8 S K w0 w φ a gv nt (rF X.1) s k r (Vi o) a' w':=by
      intro h1;split at h1<;>cases h1;rename_i x hx;cases hr;obtain⟨jx,l,s2,q0,q1,q2,q3⟩:=TM hx hout
      grind [G9,cw]
     rw[h2];cases o with
     |exit id=>exact out h1
     |ret=>exact out h1
     |normal=>
      simp only at h1;split at h1<;>first|(cases h1;done)|skip
      rename_i l hl;split at h1<;>cases h1;rename_i q hq;simp only at hr;refine⟨m,bh _,?_⟩;cases hr2:CF j (rF X.1) s (BI (vE j) q)with|none=>grind|some s2=>have e1:=zS hq;rw[e1]at hr2;obtain⟨⟨φ2,g1,g2⟩,g3⟩:=Nn h6 hR.ok hR.ZC hle hW (J6 hR hss hkk) hl hr2;exact⟨q,S',φ2,hr,hss,⟨hkk.tmp,fun i hi=>(g1 i hi).trans (hkk.plc i hi)⟩,fun s3 e=>by rw[e1,hr2]at e;cases e;exact⟨g2,g3⟩⟩
 |exit id=>intro n S φ s a w β k r h hR;exact wp_exit (done (o:=.exit id) h hR)
 |ret=>intro n S φ s a w β k r h hR;exact wp_ret (done (o:=.ret) h hR)
 |scope x ih=>intro n S φ s a w β k r h hR;refine wp_scope_straight (wp_mono (ih n h hR) fun e a' w'⟨o,s',h1,h2,h3⟩=>?_);rw[h2];cases o<;>exact⟨_,s',h1,rfl,h3⟩
 |label l=>intro n S φ s a w β k r h hR;exact wp_label (done (o:=.normal) h hR)
 |_=>intro n S φ s a w β k r h hR;simp only[rq]at h;cases h
end
end Go.Ev
