/- A region in any order: what the check says, what a set of operations makes. Conditions: none. -/
import Derived.Test.YtoekkpmeeclpeaaGreatUq
import Derived.Scope
open Array renaming getElem?_eq_getElem->bt,getElem?_eq_some_iff->bi,getElem?_toList->dj
open Bool renaming and_eq_true->aw,or_eq_true->dE
open List renaming all_eq_true->cm,append_assoc->aQ,contains_eq_mem->mT,getElem?_eq_getElem->bf,getElem?_eq_some_iff->aV,getElem?_set_self->lB,map_cons->a_,mem_append->aF,mem_cons->aI,mem_cons_of_mem->bd,mem_map->aL,mem_of_getElem?->bj,not_mem_nil->aW,range->aK
open Nat renaming add_assoc->eV,add_sub_cancel'->nG,blt_eq->eA,le_refl->aq,le_succ->aO,le_trans->bg,lt_or_ge->er,lt_succ_self->aM,zero_add->cT,zero_le->cp
open Option renaming bind_some->ad
open Option.some renaming inj->ac,injEq->fh
namespace Go.Ev
theorem EA{acc:List Nat}{j:Nat}:∀{es:List Edge},(sU acc es).testBit j=true->∃e∈es,Region.binds .any e=true/\(e.on=j\/(acc.getD e.on 0).testBit j=true):=by
 intro es;induction es with
 |nil=>intro h;simp[sU]at h
 |cons e r ih=>
  intro h;simp[sU]at h
  grind
theorem J2{m:List Nat}:∀{l:List Oper}{i:Nat},Bu m l i=true->∀(k:Nat)(o:Oper),l[k]?=some o->
  (∀j,fK m j (i+k)=true->∃e∈o.after,Region.binds .any e=true/\(e.on=j\/fK m j e.on=true))/\∀e∈o.after,Region.binds .any e=true->e.on<i+k:=by
 intro l;induction l with
 |nil=>intro i _ k o hk;simp at hk
 |cons o0 r ih=>
  intro i h k o hk;simp only[Bu,aw]at h;obtain⟨⟨h1,h2⟩,h3⟩:=h;cases k with
  |zero=>
   obtain rfl:o0=o:=by simpa using hk
   refine⟨fun j hj=>?_,fun e he hb=>?_⟩
   .unfold fK at hj;rw[Nat.add_zero,(by simpa using h1:m.getD i 0=_)]at hj;obtain⟨e,he,h'⟩:=EA hj;exact⟨e,by simpa using he,h'⟩
   grind
  |succ k=>
   have:=ih h3 k o (by simpa using hk)
   grind
theorem Ec{m:List Nat}{i:Nat}{a:Cc}:∀{l:List Cc}{j:Nat},zp m i a l j=true->∀(k:Nat)(b:Cc),l[k]?=some b->fK m i (j+k)=true\/DM a b=false:=by
 intro l;induction l with
 |nil=>intro j _ k b hk;simp at hk
 |cons b0 r ih=>intro j h k b hk;simp[zp]at h;cases k with|zero=>simp_all|succ k=>have:=ih h.2 k b (by simpa using hk);rwa[show j+1+k=j+(k+1)by omega]at this
theorem JG{m:List Nat}:∀{l:List Cc}{i:Nat},Bs m l i=true->∀(k k':Nat)(a b:Cc),l[k]?=some a->l[k']?=some b->k<k'->fK m (i+k) (i+k')=true\/DM a b=false:=by
 intro l;induction l with
 |nil=>intro i _ k k' a b hk;simp at hk
 |cons a0 r ih=>
  intro i h k k' a b hk hk' hlt;simp[Bs]at h;cases k' with
  |zero=>omega
  |succ k'=>
   cases k with
   |zero=>
    obtain rfl:a0=a:=by simpa using hk
    have:=Ec h.1 k' b (by simpa using hk');rwa[show i+1+k'=i+(k'+1)by omega]at this
   |succ k=>have:=ih h.2 k k' a b (by simpa using hk) (by simpa using hk') (by omega);rwa[show i+1+k=i+(k+1)by omega,show i+1+k'=i+(k'+1)by omega]at this
theorem IN{m:List Nat}{i:Nat}{a:Cc}:∀{l:List Cc}{j:Nat},∀(k:Nat)(b:Cc),l[k]?=some b->fK m i (j+k)=true\/B1 b.k=0\/B1 b.k+B1 a.k<=2\/(i,if G0 a.k b.k then 1000+(j+k)else j+k)∈A4 m i a l j:=by
 intro l;induction l with
 |nil=>intro j k b hk;simp at hk
 |cons b0 r ih=>
  intro j k b hk;cases k with
  |zero=>
   simp[A4]
   grind
  |succ k=>
   have:=ih (j:=j+1) k b (by simpa using hk)
   grind [A4,bd]
theorem IP{m:List Nat}:∀{l:List Cc}{i:Nat},∀(k k':Nat)(a b:Cc),l[k]?=some a->l[k']?=some b->k<k'->
  fK m (i+k) (i+k')=true\/B1 a.k=0\/B1 b.k=0\/B1 b.k+B1 a.k<=2\/(i+k,if G0 a.k b.k then 1000+(i+k')else i+k')∈vQ m l i:=by
 intro l;induction l with
 |nil=>intro i k k' a b hk;simp at hk
 |cons a0 r ih=>
  intro i k k' a b hk hk' hlt;cases k' with
  |zero=>omega
  |succ k'=>
   cases k with
   |zero=>
    obtain rfl:a0=a:=by simpa using hk
    have:=IN (m:=m) (i:=i) (a:=a0) (j:=i+1) k' b (by simpa using hk');rw[show i+1+k'=i+(k'+1)by omega]at this;rcases this with h|h|h|h
    .exact .inl h
    .exact .inr (.inr (.inl h))
    .exact .inr (.inr (.inr (.inl h)))
    .by_cases e:B1 a0.k=0
     .exact .inr (.inl e)
     simp_all[vQ]
   |succ k=>
    have:=ih (i:=i+1) k k' a b (by simpa using hk) (by simpa using hk') (by omega)
    grind [vQ,List.mem_append_right]
section
variable(dst:Nat->Option Nat)(ef:Nat->Ef)(D:Nat->Bool)(e0:kN)(h0:Hf)
def tE:Nat->kN
 |0,t=>e0 t
 |k+1,t=>if D k=true/\dst k=some t then some (N6 (ef k))else tE k t
def lL:Nat->Hf
 |0,i=>h0 i
 |k+1,i=>if D k=true then(match gB (yM (ef k)) i with|some o=>o|none=>lL k i)else lL k i
end
def zd(ef:Nat->Ef)(k id:Nat):Prop:=id∈(yM (ef k)).map (·.1)
theorem qN{α:Type}{u:List (Nat×α)}{id:Nat}(h:id∉u.map (·.1)):gB u id=none:=by induction u with|nil=>rfl|cons p r ih=>grind [gB]
theorem Q4{α:Type}{u:List (Nat×α)}{id:Nat}(h:id∈u.map (·.1)):∃x,gB u id=some x:=by
 induction u with
 |nil=>simp at h
 |cons p r ih=>
  obtain⟨i,x⟩:=p;by_cases e:i=id
  .exact ⟨x,by simp[gB,e]⟩
  grind [absurd,gB]
section
variable{dst:Nat->Option Nat}{ef:Nat->Ef}{D D':Nat->Bool}{E:Nat->kN}{Hp:Nat->Hf}
theorem L8{n i t:Nat}(hstep:∀k,k<n->∀t,E (k+1) t=if dst k=some t then some (N6 (ef k))else E k t)(hi:i<=n)
  (h1:∀k,k<i->dst k=some t->D k=true) (h2:∀k,i<=k->k<n->dst k=some t->D k=false):tE dst ef D (E 0) n t=E i t:=by
 have a:∀k,k<=i->tE dst ef D (E 0) k t=E k t:=by
  intro k;induction k with
  |zero=>intro _;rfl
  |succ k ih=>
   rw[tE]
   grind
 have b:∀d,i+d<=n->tE dst ef D (E 0) (i+d) t=E i t:=by
  intro d;induction d with
  |zero=>intro _;exact a i (aq _)
  |succ d ih=>
   intro hd;rw[<-eV,tE]
   grind
 have:=b (n-i) (by omega);rwa[nG hi]at this
theorem Iw{n i id:Nat}(hstep:∀k,k<n->∀id,Hp (k+1) id=match gB (yM (ef k)) id with|some o=>o|none=>Hp k id)(hi:i<=n)
  (h1:∀k,k<i->zd ef k id->D k=true) (h2:∀k,i<=k->k<n->zd ef k id->D k=false):lL ef D (Hp 0) n id=Hp i id:=by
 have a:∀k,k<=i->lL ef D (Hp 0) k id=Hp k id:=by
  intro k;induction k with
  |zero=>intro _;rfl
  |succ k ih=>
   intro hk;rw[lL,hstep k (by omega),ih (by omega)];by_cases ht:zd ef k id
   .rw [if_pos (h1 k (by omega) ht)]
   .rw [qN ht];simp
 have b:∀d,i+d<=n->lL ef D (Hp 0) (i+d) id=Hp i id:=by
  intro d;induction d with
  |zero=>intro _;exact a i (aq _)
  |succ d ih=>
   intro hd;rw[<-eV,lL,ih (by omega)];by_cases ht:zd ef (i+d) id
   .rw [if_neg (by grind)]
   .rw [qN ht];simp
 have:=b (n-i) (by omega);rwa[nG hi]at this
theorem Rc{e0:kN}{n i t:Nat}(hi:i<n)(hD:∀k,k≠i->D' k=D k)(hDi:D' i=true)(hDi0:D i=false)
  (h:dst i=some t->∀k,i<k->k<n->D k=true->dst k≠some t):
  tE dst ef D' e0 n t=if dst i=some t then some (N6 (ef i))else tE dst ef D e0 n t:=by
 have a:∀k,k<=i->tE dst ef D' e0 k t=tE dst ef D e0 k t:=by intro k;induction k with|zero=>intro _;rfl|succ k ih=>intro hk;rw[tE,tE,hD k (by omega),ih (by omega)]
 have b:∀d,i+1+d<=n->tE dst ef D' e0 (i+1+d) t=if dst i=some t then some (N6 (ef i))else tE dst ef D e0 (i+1+d) t:=by
  intro d;induction d with
  |zero=>simp_all[tE]
  |succ d ih=>
   rw[<-eV,tE,tE]
   grind
 have:=b (n-(i+1)) (by omega);rwa[nG (by omega)]at this
theorem NX{h0:Hf}{n i id:Nat}(hi:i<n)(hD:∀k,k≠i->D' k=D k)(hDi:D' i=true)(hDi0:D i=false)
  (h:zd ef i id->∀k,i<k->k<n->D k=true->¬zd ef k id):
  lL ef D' h0 n id=match gB (yM (ef i)) id with|some o=>o|none=>lL ef D h0 n id:=by
 have a:∀k,k<=i->lL ef D' h0 k id=lL ef D h0 k id:=by intro k;induction k with|zero=>intro _;rfl|succ k ih=>intro hk;rw[lL,lL,hD k (by omega),ih (by omega)]
 have b:∀d,i+1+d<=n->lL ef D' h0 (i+1+d) id=match gB (yM (ef i)) id with|some o=>o|none=>lL ef D h0 (i+1+d) id:=by
  intro d;induction d with
  |zero=>simp_all[lL]
  |succ d ih=>
   intro hd;rw[<-eV,lL,lL,hD _ (by omega),ih (by omega)];by_cases ht:zd ef i id
   .by_cases hc:D (i+1+d)=true
    .rw [qN (h ht _ (by omega) (by omega) hc)];simp
    .rw [if_neg hc,if_neg hc]
   .rw [qN ht]
 have:=b (n-(i+1)) (by omega);rwa[nG (by omega)]at this
end
def tW(ops:Array Oper)(k:Nat):Option Nat:=(ops[k]?).bind (·.dst)
section
variable{P:Program}{S K:Nat->Prop}{w0 w:World}{φ:fM}{gv:List Value}{nt:Nat}{a:Act}{aR:Cu}{ops:Array Oper}{m:List Nat}{E:Nat->kN}{Hp:Nat->H2}{N:Nat->Nat}{ef:Nat->Ef}{gh:V}
def V3(P:Program)(aR:Cu)(nt:Nat)(ops:Array Oper)(E:Nat->kN)(Hp:Nat->H2)(N:Nat->Nat)(ef:Nat->Ef)(i j:Nat):Prop:=∃id,(∀x∈Gf (ef i),x=id)/\(∀φ,uE φ (Hp i)->uE φ (yM (ef j)++Hp i))/\∀o v u l n',ops[i]?=some o->ef i=some (v,u,l,n')->id∈l->∃vs,Ji (E i) (b9 P aR nt ops o).args vs/\Sf P o (b9 P aR nt ops o).args vs (yM (ef j)++Hp i) (N i) n' v u l
structure EH(P:Program)(aR:Cu)(nt:Nat)(ops:Array Oper)(m:List Nat)(E:Nat->kN)(Hp:Nat->H2)(N:Nat->Nat)(ef:Nat->Ef):Prop where
 gM:∀(k:Nat)(o:Oper),ops[k]?=some o->qd P nt o (b9 P aR nt ops o) (E k) (Hp k) (N k) (N (k+1)) (ef k) (E (k+1)) (Hp (k+1))
 ok:∀k,k<=ops.size->KU (N k) (Hp k) (E k)
 Vu:∀(k:Nat)(o:Oper),ops[k]?=some o->(∀j,fK m j k=true->∃e∈o.after,Region.binds .any e=true/\(e.on=j\/fK m j e.on=true))/\∀e∈o.after,Region.binds .any e=true->e.on<k
 con:∀(i j:Nat)(a b:Oper),ops[i]?=some a->ops[j]?=some b->i<j->fK m i j=true\/DM (b9 P aR nt ops a) (b9 P aR nt ops b)=false
 apt:∀(i j:Nat),i<j->j<ops.size->fK m i j=true\/((∀id,zd ef i id->id∉Gf (ef j)/\¬zd ef j id)/\((∀id,zd ef j id->id∉Gf (ef i))\/V3 P aR nt ops E Hp N ef i j))
theorem qd.heap{o:Oper}{co:Cc}{E E':kN}{h h':H2}{n m:Nat}{f:Ef}(hs:qd P nt o co E h n m f E' h')(id:Nat):fO h' id=match gB (yM f) id with|some o=>o|none=>fO h id:=by rw[hs.2.2.1,p9];rfl
theorem Tb{b:Nat}{s0 s':S2}{E0:kN}{q':Rg}{tr:OF}(hT:yh P aR nt ops (some b) ops.toList 0 s0 E0 E Hp N ef s' q' tr)(hord:Bu m ops.toList 0=true)(hsch:Bs m (ops.toList.map (b9 P aR nt ops)) 0=true)
  (hdyn:abA (ops.toList.map (ur P aR nt ops)) tr (vQ m (ops.toList.map (b9 P aR nt ops)) 0)=true) (hsmall:ops.size<=1000):EH P aR nt ops m E Hp N ef:=by
 have st:=fun k o(hk:ops[k]?=some o)=>hT.st k o (by rw[dj];exact hk);have lmap:∀{k:Nat}{o:Oper},ops[k]?=some o->(ops.toList.map (b9 P aR nt ops))[k]?=some (b9 P aR nt ops o):=fun hk=>by rw[List.getElem?_map,dj,hk];rfl
 refine⟨fun k o hk=>(st k o hk).1,fun k hk=>hT.ok k (by simpa using hk),fun k o hk=>?_,fun i j a b ha hb hij=>?_,fun i j hij hj=>?_⟩
 .have:=J2 hord k o (by rw[dj];exact hk);rwa[cT]at this
 .have:=JG hsch i j _ _ (lmap ha) (lmap hb) hij;rwa[cT,cT]at this
 .obtain ⟨a,ha⟩:∃a,ops[i]?=some a:=⟨_,bt (by omega)⟩
  obtain⟨b,hb⟩:∃b,ops[j]?=some b:=⟨_,bt hj⟩
  obtain⟨sa,li,ti,hli⟩:=st i a ha;obtain⟨sb,lj,tj,hlj⟩:=st j b hb
  have lowU:∀{k:Nat}{o:Oper},qd P nt o (b9 P aR nt ops o) (E k) (Hp k) (N k) (N (k+1)) (ef k) (E (k+1)) (Hp (k+1))->B1 (b9 P aR nt ops o).k<=1->∀id,¬zd ef k id:=fun hs hc id ht=>by
   rcases hs.2.2.2.1 with h|⟨h,_⟩
   .omega
   .unfold zd at ht;rw[h]at ht;simp at ht
  have lowR:∀{k:Nat}{o:Oper},qd P nt o (b9 P aR nt ops o) (E k) (Hp k) (N k) (N (k+1)) (ef k) (E (k+1)) (Hp (k+1))->B1 (b9 P aR nt ops o).k=0->∀id,id∉Gf (ef k):=fun hs hc id ht=>by
   rcases hs.2.2.2.1 with h|⟨_,h⟩
   .omega
   .rw [h hc]at ht;simp at ht
  rcases IP (m:=m) (i:=0) i j _ _ (lmap ha) (lmap hb) hij with h|h|h|h|h
  .left;rwa[cT,cT]at h
  .exact .inr ⟨fun id ht=>absurd ht (lowU sa (by omega) id),.inl fun id _ hr=>lowR sa h id hr⟩
  .exact .inr ⟨fun id _=>⟨lowR sb h id,lowU sb (by omega) id⟩,.inl fun id ht=>absurd ht (lowU sb (by omega) id)⟩
  .by_cases h0:B1 (b9 P aR nt ops a).k=0
   .exact .inr ⟨fun id ht=>absurd ht (lowU sa (by omega) id),.inl fun id _ hr=>lowR sa h0 id hr⟩
   .by_cases h1:B1 (b9 P aR nt ops b).k=0
    .exact .inr ⟨fun id _=>⟨lowR sb h1 id,lowU sb (by omega) id⟩,.inl fun id ht=>absurd ht (lowU sb (by omega) id)⟩
    .exact .inr ⟨fun id ht=>absurd ht (lowU sa (by omega) id),.inl fun id ht=>absurd ht (lowU sb (by omega) id)⟩
  .rw [cT,cT]at h;have hapart:xm (li,(yM (ef i)).map (·.1)) (lj,(yM (ef j)).map (·.1))=true->(∀id,zd ef i id->id∉Gf (ef j)/\¬zd ef j id)/\((∀id,zd ef j id->id∉Gf (ef i))\/V3 P aR nt ops E Hp N ef i j):=by intro this;simp only[xm,aw,cm,Bool.not_eq_true',mT,decide_eq_false_iff_not]at this;exact⟨fun id ht=>⟨fun hr=>(this.1 id ht).1 (hlj id hr),(this.1 id ht).2⟩,.inl fun id ht hr=>this.2 id ht (hli id hr)⟩
   have hd:=cm.1 hdyn _ h;by_cases hso:G0 (b9 P aR nt ops a).k (b9 P aR nt ops b).k=true
   .rw [if_pos hso]at hd;have e1:Nat.ble 1000 (1000+j)=true:=by simp
    simp only[e1,cond_true,show 1000+j-1000=j by omega,ti,tj,dE]at hd;rcases hd with hd|hd
    .exact .inr (hapart hd)
    .right;unfold Vp at hd;split at hd
     .rename_i oi id hoi hti;rw[ti]at hti;simp only[fh,Prod.mk.injEq]at hti;obtain⟨rfl,hU⟩:=hti;simp only[aw]at hd;obtain⟨_,hd⟩:=hd
      have hlkF:QO (b9 P aR nt ops a).k=true/\Fg (b9 P aR nt ops b).k=true:=by
       unfold G0 at hso;split at hso
       .rename_i h1 h2;rw[h1,h2];exact⟨rfl,rfl⟩
       .cases hso
      refine⟨fun x hx=>by unfold zd at hx;rw[hU]at hx;simp at hx,?_⟩;by_cases htj:zd ef j id
      .right
       have hsame:∀k,i<=k->k<=j->fO (Hp k) id=fO (Hp i) id:=by
        intro k hk;induction k with
        |zero=>intro _;rw[show i=0 by omega]
        |succ k ih=>
         intro hkj;by_cases e:i=k+1
         .rw [e]
         .rw [<-ih (by omega) (by omega)];obtain⟨c,hc⟩:∃c,ops[k]?=some c:=⟨_,bt (by omega)⟩
          obtain⟨sk,lk,tk,_⟩:=st k c hc;rw[sk.heap id]
          have hn:id∉(yM (ef k)).map (·.1):=by
           by_cases e2:k=i
           .subst e2;rw[hU];simp
           .have hm:(lk,(yM (ef k)).map (·.1))∈(tr.take j).drop (i+1):=by refine bj (i:=k-(i+1)) ?_;rw[List.getElem?_drop,show i+1+(k-(i+1))=k by omega,List.getElem?_take,if_pos (by omega)];exact tk
            have:=cm.1 hd _ hm;simpa using this
          rw[qN hn]
       have hjs:=sb.2.2.2.2;unfold zd at htj;cases hfj:ef j with
       |none=>rw[hfj]at htj;simp[yM]at htj
       |some pj=>
        obtain⟨vj,uj,lj',nj⟩:=pj;rw[hfj]at hjs htj;obtain⟨_,_,_,_,_,_,_,hent⟩:=hjs;obtain⟨id2,kT,vT,mp,q,g1,g2⟩:=hent hlkF.2;have g2':uj=_:=g2;subst g2';obtain rfl:id=id2:=by simpa[yM]using htj
        rw[hsame j (by omega) (aq _)]at g1;refine⟨id,fun x hx=>by simpa using hli x hx,fun φ hs i' l o h1 h2=>?_,fun o v u l n' ho hf hid=>?_⟩
        .rw [hfj]at h2;change fO ((id,_)::Hp i) i'=some o at h2;by_cases e:id=i'
         .subst e;simp[fO,gB]at h2;subst h2;trivial
         .have:fO ((id,some (O.mp kT vT (lG mp (pV vT) q).1))::Hp i) i'=fO (Hp i) i':=by simp[fO,jN,e]
          rw[this]at h2;exact hs i' l o h1 h2
        .rw [ha]at ho;cases ho;have his:=sa.2.2.2.2;rw[hf]at his;obtain⟨_,_,_,vs,k1,_,k3,_⟩:=his;rw[hfj];exact⟨vs,k1,k3 hlkF.1 id hid kT vT mp q g1⟩
      .exact .inl fun x hx hr=>htj (by
        have:x=id:=by simpa using hli x hr
        rw[<-this];exact hx)
     .cases hd
   .rw [if_neg hso]at hd;have e1:Nat.ble 1000 j=false:=by rw[<-Bool.not_eq_true,Nat.ble_eq];omega
    simp only[e1,cond_false,ti,tj]at hd;exact .inr (hapart hd)
def D3(ops:Array Oper)(D:Nat->Bool):Prop:=∀(k:Nat)(o:Oper),ops[k]?=some o->D k=true->∀e∈o.after,Region.binds .any e=true->D e.on=true
theorem EH.yO(hp:EH P aR nt ops m E Hp N ef){D:Nat->Bool}(hc:D3 ops D){i:Nat}:∀(M j:Nat),j<M->j<ops.size->D j=true->fK m i j=true->D i=true:=by
 intro M;induction M with
 |zero=>omega
 |succ M ih=>
  intro j hj hjn hD hb;have ho:=bt hjn;obtain⟨h1,h2⟩:=hp.Vu j _ ho;obtain⟨e,he,hbd,h⟩:=h1 i hb;have hDe:=hc j _ ho hD e he hbd;rcases h with h|h
  .rw [<-h];exact hDe
  .have:=h2 e he hbd;exact ih e.on (by omega) (by omega) hDe h
theorem EH.ZL(hp:EH P aR nt ops m E Hp N ef){D:Nat->Bool}(hc:D3 ops D){i j:Nat}{o:Oper}(hi:ops[i]?=some o)(hall:∀e∈o.after,Region.binds .any e=true->D e.on=true)
  (hb:fK m j i=true):D j=true:=by
 obtain⟨h1,h2⟩:=hp.Vu i _ hi;obtain⟨e,he,hbd,h⟩:=h1 j hb;have hDe:=hall e he hbd;rcases h with h|h
 .rw [<-h];exact hDe
 .have:=h2 e he hbd;have hlt:=(bi.1 hi).1;exact hp.yO hc _ e.on (by omega) (by omega) hDe h
theorem LW{d:Option Nat}{l:List Nat}{t:Nat}(hd:d=some t)(h:t∈l):NW d l=true:=by subst hd;simpa[NW]using h
theorem EH.ZD(hp:EH P aR nt ops m E Hp N ef){D:Nat->Bool}(hc:D3 ops D){i:Nat}{o:Oper}(hi:ops[i]?=some o)(hD:D i=false)
  (hall:∀e∈o.after,Region.binds .any e=true->D e.on=true):
  (∀t∈F_ (b9 P aR nt ops o),tE (tW ops) ef D (E 0) ops.size t=E i t)/\
  (∀v u l n',ef i=some (v,u,l,n')->∃G vs,Ji (E i) (b9 P aR nt ops o).args vs/\Sf P o (b9 P aR nt ops o).args vs G (N i) n' v u l/\(∀φ,uE φ (Hp i)->uE φ G)/\∀id∈l,lL ef D (fO (Hp 0)) ops.size id=fO G id)/\
  (∀t,o.dst=some t->∀k,i<k->k<ops.size->D k=true->tW ops k≠some t)/\(∀id,zd ef i id->∀k,i<k->k<ops.size->D k=true->¬zd ef k id):=by
 have hlt:i<ops.size:=(bi.1 hi).1;have get:∀k,k<ops.size->∃b,ops[k]?=some b:=fun k hk=>⟨_,bt hk⟩;have lat:∀k,i<k->k<ops.size->fK m i k=true->D k=false:=by intro k _ hk hb;cases hDk:D k with|false=>rfl|true=>rw[hp.yO hc (k+1) k (by omega) hk hDk hb]at hD;cases hD
 have henv:∀k,k<ops.size->∀t,E (k+1) t=if tW ops k=some t then some (N6 (ef k))else E k t:=fun k hk t=>by obtain⟨b,hb⟩:=get k hk;rw[(hp.gM k b hb).2.1];simp only[nQ,tW,hb,ad];rfl
 have hhp:∀k,k<ops.size->∀id,fO (Hp (k+1)) id=match gB (yM (ef k)) id with|some o=>o|none=>fO (Hp k) id:=fun k hk id=>by obtain⟨b,hb⟩:=get k hk;exact(hp.gM k b hb).heap id
 refine⟨fun t ht=>?_,fun v u l n' hf=>?_,fun t ht k hik hk hDk hdk=>?_,fun id ht k hik hk hDk htk=>?_⟩
 .refine L8 henv (Nat.le_of_lt hlt) (fun k hk hd=>?_) (fun k hik hk hd=>?_)
  .obtain ⟨b,hb⟩:=get k (by omega);have hbd:(b9 P aR nt ops b).dst=some t:=by show b.dst=some t;simpa[tW,hb]using hd
   rcases hp.con k i b o hb hi hk with h|h
   .exact hp.ZL hc hi hall h
   .simp [DM,LW hbd ht]at h
  .rcases er i k with h1|h1
   .obtain ⟨b,hb⟩:=get k (by omega);have hbd:(b9 P aR nt ops b).dst=some t:=by show b.dst=some t;simpa[tW,hb]using hd
    rcases hp.con i k o b hi hb h1 with h|h
    .exact lat k h1 hk h
    .simp [DM,LW hbd ht]at h
   .obtain rfl:k=i:=by omega
    exact hD
 .have his:=(hp.gM i o hi).2.2.2.2;rw[hf]at his;obtain⟨_,_,_,vs,k1,k2,_⟩:=his;have hR:Gf (ef i)=l:=by rw[hf];rfl
  by_cases hsoft:∃k,i<k/\k<ops.size/\D k=true/\∃id∈Gf (ef i),zd ef k id
  .obtain ⟨k,⟨hik,hk,hDk,id0,hid0,ht0⟩,hmax⟩:∃k,(i<k/\k<ops.size/\D k=true/\∃id∈Gf (ef i),zd ef k id)/\∀k',k<k'->¬(i<k'/\k'<ops.size/\D k'=true/\∃id∈Gf (ef i),zd ef k' id):=by
    have:∀(M:Nat)(k:Nat),ops.size-k<=M->(i<k/\k<ops.size/\D k=true/\∃id∈Gf (ef i),zd ef k id)->
      ∃k,(i<k/\k<ops.size/\D k=true/\∃id∈Gf (ef i),zd ef k id)/\∀k',k<k'->¬(i<k'/\k'<ops.size/\D k'=true/\∃id∈Gf (ef i),zd ef k' id):=by
     intro M;induction M with
     |zero=>intro k h1 h2;omega
     |succ M ihM=>
      intro k h1 h2;by_cases hm:∃k',k<k'/\(i<k'/\k'<ops.size/\D k'=true/\∃id∈Gf (ef i),zd ef k' id)
      .obtain ⟨k',h3,h4⟩:=hm;exact ihM k' (by omega) h4
      .exact ⟨k,h2,fun k' h3 h4=>hm ⟨k',h3,h4⟩⟩
    obtain⟨k,h⟩:=hsoft;exact this _ k (aq _) h
   rcases hp.apt i k hik hk with h|⟨_,h|⟨id,h1,h2,h3⟩⟩
   .rw [lat k hik hk h]at hDk;cases hDk
   .exact absurd hid0 (h id0 ht0)
   .obtain rfl:=h1 id0 hid0;obtain⟨vs',q1,q2⟩:=h3 o v u l n' hi hf (hR▸hid0);refine⟨yM (ef k)++Hp i,vs',q1,q2,h2,fun id' hid'=>?_⟩;obtain rfl:=h1 id' (hR▸hid');obtain⟨x,hx⟩:=Q4 ht0
    have hlast:∀n',k<n'->n'<=ops.size->lL ef D (fO (Hp 0)) n' id'=x:=by
     intro n' hkn;induction n' with
     |zero=>omega
     |succ n' ihn=>
      intro hn';simp only[lL];by_cases e:n'=k
      .subst e;rw[if_pos hDk,hx]
      .have hno:¬(D n'=true/\zd ef n' id'):=fun hh=>hmax n' (by omega) ⟨by omega,by omega,hh.1,id',hid0,hh.2⟩;have:=ihn (by omega) (by omega);cases hDn:D n' with|false=>simpa[hDn]using this|true=>have hnt:¬zd ef n' id':=fun h=>hno ⟨hDn,h⟩;rw[qN hnt];simpa[hDn]using this
    rw[hlast ops.size hk (aq _),p9];simp only[up,hx]
  .refine ⟨Hp i,vs,k1,k2.Oo,fun φ h=>h,fun id hid=>?_⟩;rw[<-hR]at hid;refine Iw (Hp:=fun k=>fO (Hp k)) hhp (Nat.le_of_lt hlt) (fun k hk hd=>?_) (fun k hik hk hd=>?_)
   .rcases hp.apt k i hk hlt with h|h
    .exact hp.ZL hc hi hall h
    .exact absurd hid (h.1 id hd).1
   .rcases er i k with h1|h1
    .cases hDk:D k with|false=>rfl|true=>exact absurd ⟨k,h1,hk,hDk,id,hid,hd⟩ hsoft
    .obtain rfl:k=i:=by omega
     exact hD
 .obtain ⟨b,hb⟩:=get k hk;have hbd:(b9 P aR nt ops b).dst=some t:=by show b.dst=some t;simpa[tW,hb]using hdk
  rcases hp.con i k o b hi hb hik with h|h
  .rw [lat k hik hk h]at hDk;cases hDk
  .have hod:(b9 P aR nt ops o).dst=some t:=ht;simp[DM,hod,hbd,NW]at h
 .rcases hp.apt i k hik hk with h|h
  .rw [lat k hik hk h]at hDk;cases hDk
  .exact absurd htk (h.1 id ht).2
end
section
variable{P:Program}{S K:Nat->Prop}{w0 w:World}{φ:fM}{gv:List Value}{nt:Nat}{a:Act}{aR:Cu}{ops:Array Oper}{m:List Nat}{E:Nat->kN}{Hp:Nat->H2}{N:Nat->Nat}{ef:Nat->Ef}{gh:V}
def Ob(D:Nat->Bool):Nat->Nat
 |0=>0
 |k+1=>Ob D k+if D k=true then 0 else 1
theorem UH{D D':Nat->Bool}{i:Nat}(hD:∀k,k≠i->D' k=D k)(h1:D' i=true)(h0:D i=false):∀n,i<n->Ob D' n+1=Ob D n:=by
 have a:∀k,k<=i->Ob D' k=Ob D k:=by intro k;induction k with|zero=>intro _;rfl|succ k ih=>intro hk;simp[Ob];rw[ih (by omega),hD k (by omega)]
 intro n;induction n with
 |zero=>omega
 |succ n ih=>
  simp[Ob]
  grind
theorem Rw{D:Nat->Bool}:∀{n:Nat},Ob D n=0->∀k,k<n->D k=true:=by intro n;induction n with|zero=>omega|succ n ih=>grind [Ob]
theorem UG(n:Nat):Ob (fun _=>false) n=n:=by induction n with|zero=>rfl|succ n ih=>simp[Ob,ih]
theorem tS{f:Nat->Nat}{n:Nat}(h:∀k,k<n->f k<=f (k+1)):∀{i j:Nat},i<=j->j<=n->f i<=f j:=by
 intro i j hij;induction j with
 |zero=>intro _;rw[show i=0 by omega];exact aq _
 |succ j ih=>
  intro hj;by_cases e:i=j+1
  .rw [e];exact aq _
  .exact bg (ih (by omega) (by omega)) (h j (by omega))
theorem EH.BO(hp:EH P aR nt ops m E Hp N ef){i:Nat}{o:Oper}(ho:ops[i]?=some o){φ':fM}{H H':Hf}{S':Nat->Prop}{w':World}(hsh:∀j,j<=ops.size->uE φ (Hp j))(hr:Ren φ φ')(hnew:∀id l,φ' id=some l->φ id=none->N i<=id/\id<N (i+1))(hI:Inv S' K w0 φ' H' w')
  (hH:H'=up H (yM (ef i))):∀j,j<=ops.size->uE φ' (Hp j):=by
 have hlt:i<ops.size:=(bi.1 ho).1;have hN:∀k,k<ops.size->N k<=N (k+1):=fun k hk=>(hp.gM k _ (bt hk)).1;intro j hj id l o' h1 h2;cases e:φ id with
 |some l0=>obtain rfl:=ac ((hr id l0 e).symm.trans h1);exact hsh j hj id l0 o' e h2
 |none=>
  obtain⟨b1,b2⟩:=hnew id l h1 e;have none_le:∀k,k<=i->fO (Hp k) id=none:=fun k hk=>by cases e2:fO (Hp k) id with|none=>rfl|some x=>have:=(hp.ok k (by omega)).Az.lt id x e2;have:=tS hN hk (by omega);omega
  have h0:∀o,fO (Hp (i+1)) id=some o->Ev.BO l o:=by
   intro x hx;rw[(hp.gM i o ho).heap id,none_le i (aq _)]at hx;cases e2:gB (yM (ef i)) id with
   |none=>rw[e2]at hx;cases hx
   |some y=>
    rw[e2]at hx;have hx:y=some x:=hx;have:H' id=some x:=by rw[hH];simp only[up,e2,hx]
    obtain⟨l2,a1,a2,_⟩:=hI.lS id x this;obtain rfl:=ac (h1.symm.trans a1);exact a2.BO
  have all:∀d,i+1+d<=ops.size->∀o,fO (Hp (i+1+d)) id=some o->Ev.BO l o:=by intro d;induction d with|zero=>intro _;exact h0|succ d ih=>intro hd;have st:=hp.gM (i+1+d) _ (bt (by omega));have hm:=tS hN (show i+1<=i+1+d by omega) (by omega);exact zk st.fe (by omega) (ih (by omega))
  rcases er i j with h|h
  .have:=all (j-(i+1)) (by omega) o';rw[show i+1+(j-(i+1))=j by omega]at this;exact this h2
  .rw [none_le j h]at h2;cases h2
theorem Rj(hnt:nt<1000000000)(hp:EH P aR nt ops m E Hp N ef){Q:Exit->Act->World->Prop}{S0:Nat->Prop}{ws:World}{a0:Act}{φ0:fM}
  (hQ:∀S' φ' a' w',gC S0 ws S' w'->GE S' K w0 φ' gv nt (E ops.size) (fO (Hp ops.size)) gh a' w'->(∀j,N ops.size<=j->φ' j=none)->uE φ' (Hp ops.size)->EI ops.toList (N 0) φ0 φ' a0 a'->Q .normal a' w'):
  ∀(fuel:Nat)(listed:Array Bool)(S:Nat->Prop)(φ:fM)(a:Act)(w:World)(ec:kN)(hc:Hf),
  listed.size=ops.size->Ob (fun k=>listed.getD k false) ops.size<=fuel->D3 ops (fun k=>listed.getD k false)->
  (∀t,ec t=tE (tW ops) ef (fun k=>listed.getD k false) (E 0) ops.size t)->(∀id,hc id=lL ef (fun k=>listed.getD k false) (fO (Hp 0)) ops.size id)->
  GE S K w0 φ gv nt ec hc gh a w->(∀j l,φ j=some l->j<N 0\/∃i,i<ops.size/\listed.getD i false=true/\N i<=j/\j<N (i+1))->(∀j,j<=ops.size->uE φ (Hp j))->gC S0 ws S w->EI ops.toList (N 0) φ0 φ a0 a->wpAny P .any ops Q fuel listed a w:=by
 have hN:∀k,k<ops.size->N k<=N (k+1):=fun k hk=>(hp.gM k _ (bt hk)).1;have henvS:∀k,k<ops.size->∀t,E (k+1) t=if tW ops k=some t then some (N6 (ef k))else E k t:=fun k hk t=>by rw[(hp.gM k _ (bt hk)).2.1];simp only[nQ,tW,bt hk,ad];rfl
 have hhpS:∀k,k<ops.size->∀id,fO (Hp (k+1)) id=match gB (yM (ef k)) id with|some o=>o|none=>fO (Hp k) id:=fun k hk id=>(hp.gM k _ (bt hk)).heap id
 have wu:∀{listed:Array Bool}{S:Nat->Prop}{φ:fM}{a:Act}{w:World}{ec:kN}{hc:Hf},(∀k,k<ops.size->listed.getD k false=true)->(∀t,ec t=tE (tW ops) ef (fun k=>listed.getD k false) (E 0) ops.size t)->(∀id,hc id=lL ef (fun k=>listed.getD k false) (fO (Hp 0)) ops.size id)->
   GE S K w0 φ gv nt ec hc gh a w->(∀j l,φ j=some l->j<N 0\/∃i,i<ops.size/\listed.getD i false=true/\N i<=j/\j<N (i+1))->(∀j,j<=ops.size->uE φ (Hp j))->gC S0 ws S w->EI ops.toList (N 0) φ0 φ a0 a->Q .normal a w:=by
  intro listed S φ a w ec hc hall henv hheap hR hK hsh fe hkp;have e1:ec=E ops.size:=by funext t;rw[henv];exact L8 henvS (aq _) (fun k hk _=>hall k hk) (fun k h1 h2 _=>by omega)
  have e2:hc=fO (Hp ops.size):=by funext id;rw[hheap];exact Iw (Hp:=fun k=>fO (Hp k)) hhpS (aq _) (fun k hk _=>hall k hk) (fun k h1 h2 _=>by omega)
  subst e1;subst e2;refine hQ S φ a w fe hR (fun j hj=>?_) (hsh _ (aq _)) hkp;cases e:φ j with
  |none=>rfl
  |some l=>
   rcases hK j l e with h|⟨i,hi,_,_,h⟩
   .have:=tS hN (cp ops.size) (aq _);omega
   .have:=tS hN (show i+1<=ops.size by omega) (aq _);omega
 intro fuel;induction fuel with
 |zero=>
  intro listed S φ a w ec hc hsz hcnt hcl henv hheap hR hK hsh fe hkp;have hall:=Rw (Nat.le_zero.1 hcnt);refine⟨?_,wu hall henv hheap hR hK hsh fe hkp⟩;rw[List.eq_nil_iff_forall_not_mem];intro i hi;obtain⟨h0,o,ho,_⟩:=mem_ready.1 hi;have hlt:i<ops.size:=(bi.1 ho).1;have h2:=hall i hlt;have hlt2:i<listed.size:=by omega
  simp[Array.getD,hlt2]at h0 h2;rw[h0]at h2;simp at h2
 |succ fuel ih=>
  intro listed S φ a w ec hc hsz hcnt hcl henv hheap hR hK hsh fe hkp;refine⟨fun hnil=>wu ?_ henv hheap hR hK hsh fe hkp,fun i hi=>?_⟩
  .intro k;induction k using Nat.strongRecOn with
   |_ k ihk=>
    intro hk;cases hd:listed.getD k false with
    |true=>rfl
    |false=>
     exfalso;have ho:ops[k]?=some ops[k]:=bt hk
     have:k∈Region.ready .any ops listed:=by
      rw[mem_ready];refine⟨?_,_,ho,fun e he hbk=>?_⟩
      .grind
      .have:=(hp.Vu k _ ho).2 e he hbk;exact ihk e.on this (by omega)
     rw[hnil]at this;simp at this
  .obtain ⟨h0,o,ho,hall⟩:=mem_ready.1 hi;have hlt:i<ops.size:=(bi.1 ho).1;have hlt2:i<listed.size:=by omega
   have hD:listed.getD i false=false:=by grind
   have hstep:=hp.gM i o ho;obtain⟨s1,s2,s3,s4⟩:=hp.ZD (D:=fun k=>listed.getD k false) hcl ho hD hall;have hD':∀k,k≠i->(listed.setIfInBounds i true).getD k false=listed.getD k false:=fun k hk=>getD_set_ne false (fun e=>hk e.symm);have hDi:(listed.setIfInBounds i true).getD i false=true:=by simp[hlt2]
   have hcnt':Ob (fun k=>(listed.setIfInBounds i true).getD k false) ops.size<=fuel:=by have:=UH (D:=fun k=>listed.getD k false) (D':=fun k=>(listed.setIfInBounds i true).getD k false) hD' hDi hD ops.size hlt;omega
   have hcl':D3 ops (fun k=>(listed.setIfInBounds i true).getD k false):=by
    intro k o' ho' hk e he hb;by_cases e1:k=i
    .subst e1;obtain rfl:o=o':=ac (ho.symm.trans ho');exact getD_set_true (hall e he hb)
    .have hk':listed.getD k false=true:=by rw[<-hD' k e1];exact hk
     exact getD_set_true (hcl k o' ho' hk' e he hb)
   have hdstD:tW ops i=o.dst:=by simp[tW,ho]
   have hfree:∀j,N i<=j->j<N (i+1)->φ j=none:=by
    intro j h1 h2;cases e:φ j with
    |none=>rfl
    |some l=>
     exfalso;rcases hK j l e with h|⟨k,hk,h3,h4,h5⟩
     .have:=tS hN (cp i) (by omega);omega
     .have hne:k≠i:=by rintro rfl;rw[h3]at hD;cases hD
      rcases er k i with h6|h6
      .have:=tS hN (show k+1<=i by omega) (by omega);omega
      .have:=tS hN (show i+1<=k by omega) (by omega);omega
   refine G7 hnt hstep hR (fun t ht=>by rw[henv t];exact s1 t ht) ho (fun v u l n' hf=>?_) hfree fun S' φ' a' w' h1 h2 h3 h4 h9=>?_
   .obtain ⟨G,vs,q1,q2,q3,q4⟩:=s2 v u l n' hf;exact⟨G,vs,q1,q2,q3 φ (hsh i (by omega)),fun id hid=>by rw[hheap id];exact q4 id hid⟩
   .refine ih _ S' φ' a' w' (nQ ec o.dst (N6 (ef i))) (up hc (yM (ef i))) (by simp[hsz]) hcnt' hcl' (fun t=>?_) (fun id=>?_) h4 (fun j l hj=>?_) (hp.BO ho hsh h2 h3 h4.inv rfl) (fe.trans h1) (hkp.gM (bj (by rw[dj];exact ho)) h2 h3 (tS hN (cp i) (by omega)) h9)
    .rw [Rc (D:=fun k=>listed.getD k false) hlt hD' hDi hD (fun hd=>s3 t (by rw[hdstD]at hd;exact hd)),hdstD];simp only[nQ,henv t]
    .rw [NX (D:=fun k=>listed.getD k false) hlt hD' hDi hD (fun ht=>s4 id ht)];simp only[up,hheap id];cases gB (yM (ef i)) id<;>rfl
    .cases e:φ j with
     |none=>have:=h3 j l hj e;exact .inr ⟨i,hlt,hDi,this.1,this.2⟩
     |some l0=>
      rcases hK j l0 e with h|⟨k,hk,q1,q2⟩
      .exact .inl h
      .exact .inr ⟨k,hk,getD_set_true q1,q2⟩
end
def Ni:og->Exit
 |.normal=>.normal
 |.exit id=>.exit id
 |.ret=>.ret
structure Fr(s s':S2):Prop where
 le:s.next<=s'.next
 wo:∃W,s'.wo=W++s.wo/\∀id,id∉W->fO s'.heap id=fO s.heap id
theorem Fr.refl(s:S2):Fr s s:=⟨aq _,[],rfl,fun _ _=>rfl⟩
theorem Fr.trans{a b c:S2}(h1:Fr a b)(h2:Fr b c):Fr a c:=by obtain⟨W1,e1,k1⟩:=h1.wo;obtain⟨W2,e2,k2⟩:=h2.wo;refine⟨bg h1.le h2.le,W2++W1,by rw[e2,e1];simp,fun id hid=>?_⟩;simp only[aF,not_or]at hid;rw[k2 id hid.1,k1 id hid.2]
structure kV(ds:List Nat)(n:Nat)(φ0 φ:fM)(a0 a:Act):Prop where
 tmp:∀t,t∉ds->a.tmps.getD t undef=a0.tmps.getD t undef
 S_:∀i,i<n->φ i=φ0 i
theorem kV.refl(ds:List Nat)(n:Nat)(φ:fM)(a:Act):kV ds n φ φ a a:=⟨fun _ _=>rfl,fun _ _=>rfl⟩
theorem kV.trans{d1 d2:List Nat}{n m:Nat}{φ0 φ1 φ2:fM}{a0 a1 a2:Act}(h1:kV d1 n φ0 φ1 a0 a1)(h2:kV d2 m φ1 φ2 a1 a2)(hn:n<=m):kV (d1++d2) n φ0 φ2 a0 a2:=by refine⟨fun t ht=>?_,fun i hi=>(h2.S_ i (by omega)).trans (h1.S_ i hi)⟩;simp only[aF,not_or]at ht;exact(h2.tmp t ht.2).trans (h1.tmp t ht.1)
theorem kV.sub{d1 d2:List Nat}{n:Nat}{φ0 φ1:fM}{a0 a1:Act}(h:kV d1 n φ0 φ1 a0 a1)(hs:∀t∈d1,t∈d2):kV d2 n φ0 φ1 a0 a1:=⟨fun t ht=>h.tmp t fun h1=>ht (hs t h1),h.S_⟩
theorem EI.n{os:List Oper}{n m:Nat}{φ0 φ:fM}{a0 a:Act}(h:EI os n φ0 φ a0 a)(hm:m<=n):kV (os.filterMap (·.dst)) m φ0 φ a0 a:=⟨fun t ht=>h.tmp t fun o ho e=>ht (List.mem_filterMap.2 ⟨o,ho,e⟩),fun i hi=>h.S_ i (by omega)⟩
def xU(S K:Nat->Prop)(w0 w:World)(φ:fM)(a:Act)(gv:List Value)(nt:Nat)(ds:List Nat)(s:S2){β:Type}(k:og->S2->Option β)(r:β)(e:Exit)(a':Act)(w':World):Prop:=∃o s',k o s'=some r/\e=Ni o/\Fr s s'/\∃S' φ',gC S w S' w'/\kV ds s.next φ φ' a a'/\vZ S' K w0 φ' gv nt s' a' w'
section
variable{P:Program}{S K:Nat->Prop}{w0 w:World}{φ:fM}{gv:List Value}{nt:Nat}{a:Act}{aR:Cu}{ops:Array Oper}{tb:EE}{s s':S2}{β:Type}{r:β}
theorem Inv.U9{H:Hf}(hI:Inv S K w0 φ H w){id id2 m ver:Nat}{u:Ty}{r:List (Sl (El u))}{x:Sl (El u)}(ho:H id=some (.rw u (.mk r) (some (m,id2))))(h2:H id2=some (.ar u x ver))(hne:id≠id2):
  Inv S K w0 φ (up H [(id,some (.rw u (.mk (r.set m x)) none)),(id2,none)]) w:=by
 obtain⟨l2,b1,b2,_⟩:=hI.lS id2 _ h2
 have hI2:=hI.ju (o':=.rw u (.mk (r.set m x)) (some (m,id2))) ho (fun l hr=>by
  obtain⟨h1,h2,h3,h4,h5⟩:=hr;refine⟨h1,by rw[h2];simp[kx],h3,h4,fun r' e=>?_⟩;cases e;obtain⟨bz,k1,k2,k3,k4,k5,k6⟩:=h5 r rfl;refine⟨bz,k1,k2,by simpa using k3,by simpa using k4,by simpa using k5,fun i y hi=>?_⟩;by_cases e:m=i
  .subst e;have hm:m<r.length:=by have:=(aV.1 hi).1;simpa using this
   obtain⟨v,v1,v2⟩:=k6 m _ (bf hm);rw[lB hm]at hi;cases hi;simp only[if_true]at v2;refine⟨v,v1,?_⟩;simp only[if_true];exact⟨⟨l2,b1,b2.2.1⟩,v2.2⟩
  .rw [List.getElem?_set_ne e]at hi;obtain⟨v,v1,v2⟩:=k6 i y hi;simp only[if_neg e]at v2;exact⟨v,v1,by simp only[if_neg e];exact v2⟩) (fun l=>by simp[ob])
 by_cases hm:m<r.length
 .have:=hI2.R6 (id:=id) (id2:=id2) (m:=m) (r:=r.set m x) (x:=x) (ver:=ver) (by rw[bC,if_pos rfl]) (by rw[bC,if_neg hne];exact h2) (by rw[lB hm]) hne
  have e:up (up H [(id,some (.rw u (.mk (r.set m x)) (some (m,id2))))]) [(id,some (.rw u (.mk (r.set m x)) none)),(id2,none)]=up H [(id,some (.rw u (.mk (r.set m x)) none)),(id2,none)]:=by
   funext j;simp only[bC,Au];by_cases e:id=j
   .simp [e]
   .simp [e]
  rw[e]at this;exact this
 .have hset:r.set m x=r:=List.set_eq_of_length_le (by omega);rw[hset]at hI2|-
  have hI3:=hI.ju (o':=.rw u (.mk r) none) ho (fun l hr=>by
   obtain⟨h1,h2,h3,h4,h5⟩:=hr;refine⟨h1,h2,h3,h4,fun r' e=>?_⟩;cases e;obtain⟨bz,k1,k2,k3,k4,k5,k6⟩:=h5 r rfl;have hrow:∀i,i<r.length->qk w l none i=qk w l (some (m,id2)) i:=fun i hi=>by rw[jD,ol l (by omega)]
   refine⟨bz,k1,k2,k3,k4,fun i j b hi hj hb=>?_,fun i y hi=>?_⟩
   .rw [hrow i hi]at hb;rw[hrow j hj];exact k5 i j b hi hj hb
   .obtain ⟨v,v1,v2⟩:=k6 i y hi;have hne2:m≠i:=by have:=(aV.1 hi).1;omega
    simp only[if_neg hne2]at v2;exact⟨v,v1,v2⟩) (fun l=>by
   simp only[ob,CS];congr 1
   exact Dy fun i hi=>by
    have hi:i<r.length:=by simpa using hi
    rw[jD,ol l (by omega)])
  refine hI3.BZ fun i o h=>?_;simp only[bC,Au]at h|-;by_cases e:id=i
  .simpa [e]using h
  .rw [if_neg e]at h|-;split at h
   .cases h
   .exact h
theorem qG.rel{u:ri}(hT:qG s s' u)(hR:vZ S K w0 φ gv nt s a w)(hn:s'.next=s.next)(hI:Inv S K w0 φ (up (fO s.heap) u) w):vZ S K w0 φ gv nt s' a w/\Fr s s':=by
 have fe:=hT.fe;have e1:s'.gX=s.gX:=by rw[hT.eq]
 have e2:s'.gh=s.gh:=by rw[hT.eq]
 refine⟨⟨⟨by rw[hT.heap,p9];exact hI,by rw[e1];exact hR.rx.gX,hR.rx.size,hR.rx.defers,by rw[e2];exact hR.rx.gh⟩,by rw[hn];exact hR.we,?_,⟨hT.Az hR.ok.Az,fun t v hv=>dQ hT.le fe (hR.ok.gX t v (by rw[<-e1];exact hv))⟩,fun c hc=>dQ hT.le fe (hR.Ub c (by rw[<-e2];exact hc))⟩,
  ⟨hT.le,u.map (·.1),by rw[hT.eq],fun id hid=>?_⟩⟩
 .refine uE.mono hR.BO fe fun i l hi=>?_;rcases er i s.next with h|h
  .exact h
  .rw [hR.we i h]at hi;cases hi
 .rw [hT.heap,p9];simp only[up,qN hid]
theorem U_{id:Nat}(hR:vZ S K w0 φ gv nt s a w)(h:XW s id=some s'):vZ S K w0 φ gv nt s' a w/\Fr s s':=by
 unfold XW at h;split at h
 .rename_i t v m id2 ho;split at h<;>first|(cases h;done)|skip
  rename_i u x ver h2;split at h<;>cases h;rename_i r hr;obtain⟨rfl,rfl⟩:=tf hr;have hne:id≠id2:=fun e=>by subst e;rw[ho]at h2;cases h2
  have hid:=hR.ok.Az.lt _ _ ho
  have hT:qG s (g_ (g_ s id2 none) id (some (.rw u (v.to (v.l.set m x)) none))) [(id,some (.rw u (v.to (v.l.set m x)) none)),(id2,none)]:=by
   refine⟨aq _,rfl,jS.cons (fun o' e=>.inr (.inr ⟨_,ho,?_⟩)) (jS.cons (fun o' e=>by cases e) jS.nil),fun p hp=>?_,fun p hp t c e=>?_⟩
   .cases e;refine⟨rfl,?_⟩;cases v with|nil=>rfl|mk r=>simp[kx,Sl.to,Sl.l]
   .simp only[aI,aW,or_false]at hp;rcases hp with rfl|rfl
    .exact .inl ⟨hid,trivial⟩
    .exact .inr rfl
   .simp only[aI,aW,or_false]at hp;rcases hp with rfl|rfl<;>cases e
  refine hT.rel hR rfl ?_;cases v with
  |mk r=>exact hR.rx.inv.U9 ho h2 hne
  |nil=>
   have hI3:=hR.rx.inv.ju (o':=.rw u Sl.nil none) ho (fun l hr=>⟨hr.1,hr.2.1,hr.2.2.1,hr.2.2.2.1,fun r' e=>by cases e⟩) (fun l=>rfl);refine hI3.BZ fun i o h=>?_;simp only[bC,Au]at h|-;by_cases e:id=i
   .simpa [e,Sl.to]using h
   .rw [if_neg e]at h|-;split at h
    .cases h
    .exact h
 .cases h;exact⟨hR,Fr.refl _⟩
theorem Fv:∀{l:List Nat}{s:S2},vZ S K w0 φ gv nt s a w->GB l s=some s'->vZ S K w0 φ gv nt s' a w/\Fr s s':=by
 intro l;induction l with
 |nil=>intro s hR h;cases h;exact⟨hR,Fr.refl _⟩
 |cons id l ih=>
  intro s hR h;simp only[GB]at h;split at h<;>first|(cases h;done)|skip
  rename_i s1 h1;obtain⟨r1,f1⟩:=U_ hR h1;obtain⟨r2,f2⟩:=ih r1 h;exact⟨r2,f1.trans f2⟩
theorem Fs{E:Nat->kN}{Hp:Nat->H2}{N:Nat->Nat}{ef:Nat->Ef}{n:Nat}(st:∀k,k<n->xX (N k) (Hp k) (Hp (k+1))/\N k<=N (k+1)):∀k,k<=n->xX (N 0) (Hp 0) (Hp k)/\N 0<=N k:=by intro k;induction k with|zero=>intro _;exact⟨xX.refl _ _,aq _⟩|succ k ih=>intro hk;obtain⟨h1,h2⟩:=ih (by omega);obtain⟨h3,h4⟩:=st k (by omega);exact⟨h1.trans h2 h3,bg h2 h4⟩
theorem Ll{dr:Option Nat}{E:Nat->kN}{Hp:Nat->H2}{N:Nat->Nat}{ef:Nat->Ef}{q':Rg}{tr:OF}{os:List Oper}(hT:yh P aR nt ops dr os 0 s (gB s.gX) E Hp N ef s' q' tr)(h0:s.next<=N 0)(hok:KU s.next s.heap (gB s.gX))(hgok:∀c∈iA s.gh,dZ s.next s.heap c)
  (hR:GE S K w0 φ gv nt (E os.length) (fO (Hp os.length)) s.gh a w) (hfr:∀j,N os.length<=j->φ j=none) (hsh:uE φ (Hp os.length)):vZ S K w0 φ gv nt {s' with next:=N os.length} a w/\Fr s {s' with next:=N os.length}:=by
 have hch:=Fs (E:=E) (ef:=ef) (n:=os.length) (fun k hk=>by have:=(hT.st k _ (bf hk)).1;exact⟨this.fe,this.1⟩) os.length (aq _)
 have fe:xX s.next s.heap (Hp os.length):=by
  have h1:xX s.next s.heap (Hp 0):=by rw[hT.h0];exact xX.refl _ _
  exact h1.trans h0 hch.1
 have hev:∀t v,gB s'.gX t=some v->v=.gn\/E os.length t=some v:=hT.rg.ev;have htok:=hT.ok os.length (aq _);refine⟨⟨⟨by show Inv S K w0 φ (fO s'.heap) w;rw[hT.hp];exact hR.inv,fun t v hv=>?_,hR.size,hR.defers,by show∀(i:Nat)(c:V)(v:Value),(iA s'.gh)[i]?=some c->_;rw[hT.gh];exact hR.gh⟩,hfr,by show uE φ s'.heap;rw[hT.hp];exact hsh,⟨by show xI _ s'.heap;rw[hT.hp];exact htok.Az,fun t v hv=>?_⟩,fun c hc=>?_⟩,⟨bg h0 hch.2,?_⟩⟩
 .rcases hev t v hv with rfl|h
  .trivial
  .exact hR.gX t v h
 .rcases hev t v hv with rfl|h
  .trivial
  .have:=htok.gX t v h;show dZ _ s'.heap v;rw[hT.hp];exact this
 .show dZ _ s'.heap c;rw[hT.hp];exact dQ (bg h0 hch.2) fe (hgok c (by rw[<-hT.gh];exact hc))
 .obtain ⟨U,u1,u2⟩:=hT.wo;exact⟨U.map (·.1),u2,fun id hid=>by show fO s'.heap id=_;rw[u1,p9];simp only[up,qN hid]⟩
theorem S4(hT:qc P tb)(hnt:nt<1000000000){k:S2->Option β}{e0:List (Nat×V)}(hR:vZ S K w0 φ gv nt s a w)(h:zX tb (ops.toList.map (ur P aR nt ops)) none s k=some r):
  wpOps P ops (fun e a' w'=>e=.normal/\∃s',k s'=some r/\Fr s s'/\∃S' φ',gC S w S' w'/\kV (ops.toList.filterMap (·.dst)) s.next φ φ' a a'/\vZ S' K w0 φ' gv nt s' a' w') (aK ops.size) a w:=by
 unfold zX at h;obtain⟨E,Hp,N,ef,s',q',tr',h1,hTr⟩:=E5 hT ops.toList 0 s ⟨[],[]⟩ (gB s.gX) [] h ⟨fun t v hv=>.inr hv,(fun g c hc=>by cases hc),(fun t g b v hc=>by cases hc)⟩ hR.ok (fun b e=>by cases e);obtain⟨n1,n2⟩:=hTr.nn rfl;obtain⟨s3,h3,h4⟩:=tn h1;refine WG (gv:=gv) (K:=K) (w0:=w0) hnt hTr (gh:=s.gh) (S0:=S) (ws:=w) (a0:=a) (φ0:=φ) ?_ (aK ops.size) 0 S φ a w (fun i j hj=>?_) (by simp) ?_ ?_ ?_ (gC.refl _ _) ⟨fun _ _=>rfl,fun _ _=>rfl⟩ (aq _)
 .intro S' φ' a' w' g1 g2 g3 g4 g5;obtain⟨r1,f1⟩:=Ll hTr (by rw[n1];exact aq _) hR.ok hR.Ub g2 g3 g4;have e1:({s' with next:=N ops.toList.length}:S2)=s':=by rw[n2]
  rw[e1]at r1 f1;obtain⟨r2,f2⟩:=Fv r1 h3;exact⟨rfl,s3,h4,f1.trans f2,S',φ',g1,g5.n (by first|(rw[n1];exact aq _)|(rw[hN0];exact aq _)),r2⟩
 .obtain ⟨hlt,rfl⟩:i<ops.size/\i=j:=by obtain⟨q1,q2⟩:=aV.1 hj;simp at q1 q2;exact⟨q1,q2⟩
  simp
 .rw [hTr.e0,hTr.h0];exact hR.rx
 .rw [n1];exact hR.we
 .rw [hTr.h0];exact hR.BO
theorem S5(hT:qc P tb)(hnt:nt<1000000000){k:S2->Option β}{m:List Nat}(hord:Bu m ops.toList 0=true)(hsch:Bs m (ops.toList.map (b9 P aR nt ops)) 0=true)(hsmall:ops.size<=1000)(hR:vZ S K w0 φ gv nt s a w)
  (h:zX tb (ops.toList.map (ur P aR nt ops)) (some (vQ m (ops.toList.map (b9 P aR nt ops)) 0)) s k=some r):
  wpAny P .any ops (fun e a' w'=>e=.normal/\∃s',k s'=some r/\Fr s s'/\∃S' φ',gC S w S' w'/\kV (ops.toList.filterMap (·.dst)) s.next φ φ' a a'/\vZ S' K w0 φ' gv nt s' a' w') ops.size (Array.replicate ops.size false) a {w with drawn:=w.drawn+1}:=by
 unfold zX at h;obtain⟨E,Hp,N,ef,s',q',tr',h1,hTr⟩:=E5 hT ops.toList 0 s ⟨[],[]⟩ (gB s.gX) [] h ⟨fun t v hv=>.inr hv,(fun g c hc=>by cases hc),(fun t g b v hc=>by cases hc)⟩ hR.ok (fun b e=>by cases e;simp);obtain⟨e1,h2⟩:=aC h1;obtain⟨s3,h3,h4⟩:=tn h2;have hn:=fun j hj=>(hTr.nd _ rfl).2 j hj;have hp:=Tb hTr hord hsch (by simpa using e1) hsmall;have hN0:N 0=s.next:=by have:=hn 0 (cp _);simpa using this
 have hNn:N ops.toList.length=s.next+BR*(ops.toList.map (ur P aR nt ops)).length:=by have:=hn _ (aq _);rw[this];simp
 have hd:∀k,(Array.replicate ops.size false).getD k false=false:=by intro k;simp[Array.getElem?_replicate];split<;>rfl
 have fe:gC S w S {w with drawn:=w.drawn+1}:=gC.xO S w _;refine Rj (gv:=gv) (K:=K) (w0:=w0) hnt hp (gh:=s.gh) (S0:=S) (ws:=w) (a0:=a) (φ0:=φ) ?_ ops.size _ S φ a _ (gB s.gX) (fO s.heap) (by simp) ?_ ?_ ?_ ?_ ⟨hR.rx.inv.xO _ (aO _),hR.rx.gX.mono fe (Ren.refl _),hR.rx.size,hR.rx.defers,fun i c v h1 h2=>(hR.rx.gh i c v h1 h2).mono fe (Ren.refl _)⟩ ?_ ?_ fe ⟨fun _ _=>rfl,fun _ _=>rfl⟩
 .intro S' φ' a' w' g1 g2 g3 g4 g5;have hl:ops.size=ops.toList.length:=by simp
  rw[hl]at g2 g3 g4;obtain⟨r1,f1⟩:=Ll hTr (by rw[hN0];exact aq _) hR.ok hR.Ub g2 g3 g4;rw[hNn]at r1 f1;obtain⟨r2,f2⟩:=Fv r1 h3;exact⟨rfl,s3,h4,f1.trans f2,S',φ',g1,g5.n (by first|(rw[n1];exact aq _)|(rw[hN0];exact aq _)),r2⟩
 .simp only[hd,UG];exact aq _
 .intro k o _ hk;simp only[hd]at hk;cases hk
 .intro t;simp only[hd];rw[hTr.e0];have:∀k,tE (tW ops) ef (fun _=>false) (gB s.gX) k t=gB s.gX t:=by intro k;induction k with|zero=>rfl|succ k ih=>simp[tE,ih]
  exact(this _).symm
 .intro id;simp only[hd];rw[hTr.h0];have:∀k,lL ef (fun _=>false) (fO s.heap) k id=fO s.heap id:=by intro k;induction k with|zero=>rfl|succ k ih=>simp[lL,ih]
  exact(this _).symm
 .intro j l hj;left;rw[hN0];rcases er j s.next with h|h
  .exact h
  .rw [hR.we j h]at hj;cases hj
 .intro j hj;have hch:=Fs (E:=E) (ef:=ef) (n:=ops.size) (fun k hk=>by have:=hp.gM k _ (bt hk);exact⟨this.fe,this.1⟩) j hj;have h0:uE φ (Hp 0):=by rw[hTr.h0];exact hR.BO
  refine uE.mono h0 hch.1 fun i l hi=>?_;rw[hN0];rcases er i s.next with h|h
  .exact h
  .rw [hR.we i h]at hi;cases hi
end
theorem Mq{m:List Bd}{j:Nat}{b:Bd}(h:BI m j=some b):b∈m/\b.j=j:=by
 induction m with
 |nil=>cases h
 |cons c m ih=>
  simp only[BI]at h;by_cases e:c.j=j
  .rw [show(c.j==j)=true by simpa using e]at h;cases h;exact⟨by simp,e⟩
  .rw [show(c.j==j)=false by simpa using e]at h;obtain⟨h1,h2⟩:=ih h;exact⟨by simp[h1],h2⟩
def ma(m m':List Bd):Prop:=∀j b,BI m j=some b->BI m' j=some b
theorem ma.refl(m:List Bd):ma m m:=fun _ _ h=>h
theorem ma.trans{a b c:List Bd}(h:ma a b)(h2:ma b c):ma a c:=fun j x e=>h2 j x (h j x e)
def v7(m:List Bd):Prop:=∀j1 j2 b1 b2 id,BI m j1=some b1->BI m j2=some b2->b1.id=some id->b2.id=some id->j1=j2
theorem RJ{m m':List Bd}{b:Bd}(h:vd m b=some m'):ma m m'/\(v7 m->v7 m')/\∃c,BI m' b.j=some c/\c.id=b.id:=by
 unfold vd at h;split at h
 .rename_i hn;obtain⟨e,h2⟩:=aC h;cases h2
  have hb:∀j,BI (b::m) j=if b.j=j then some b else BI m j:=fun j=>by
   simp only[BI];by_cases e:b.j=j
   .simp [e]
   .rw [show(b.j==j)=false by simpa using e];simp[e]
  refine⟨fun j c hj=>?_,fun hi j1 j2 b1 b2 id h1 h2 e1 e2=>?_,b,by rw[hb,if_pos rfl],rfl⟩
  .rw [hb];by_cases e:b.j=j
   .rw [e]at hn;rw[hn]at hj;cases hj
   .rw [if_neg e];exact hj
  .have other:∀{c:Bd}{j:Nat},BI m j=some c->c.id=some id->b.id=some id->False:=by intro c j hc hci hbi;rw[hbi]at e;have:=cm.1 e c (Mq hc).1;rw[hci]at this;simp at this
   rw[hb]at h1 h2;split at h1<;>split at h2
   .omega
   .cases h1;exact(other h2 e2 e1).elim
   .cases h2;exact(other h1 e1 e2).elim
   .exact hi j1 j2 b1 b2 id h1 h2 e1 e2
 .rename_i c hc;split at h<;>first|(cases h;done)|skip
  .rename_i i i' e1 e2;obtain⟨e,h2⟩:=aC h;cases h2;exact⟨ma.refl _,id,c,hc,by rw[e1,e2,eq_of_beq e]⟩
theorem PX:∀{p:rI}{l:List Nat},Lu p=some l->p=l.map .fd:=by
 intro p;induction p with
 |nil=>intro l h;cases h;rfl
 |cons q p ih=>intro l h;cases q with|fd i=>simp only[Lu]at h;split at h<;>cases h;rename_i l' h1;rw[ih h1];rfl|ix n=>cases h
def BS(b:Nat)(M:List Bd)(os:List JO)(φ:fM):fM:=fun i=>if i<b then φ i else match BI M (i-b)with|some ⟨_,some id⟩=>φ id|some ⟨_,none⟩=>(match os[i-b]?with|some (.ar t)=>some ⟨0,0,0,0,t,none⟩|_=>none)|none=>none
def Sn(M:List Bd)(os:List JO):Prop:=∀j c,BI M j=some c->j<os.length/\(c.id=none->∃t,os[j]?=some (.ar t)/\Bv t=true)
section
variable{S K:Nat->Prop}{w0 w:World}{φ φ':fM}{b:Nat}{M:List Bd}{os:List JO}{h:H2}{n:Nat}
theorem PU{i:Nat}(hi:i<b):BS b M os φ i=φ i:=by simp[BS,hi]
theorem Lt{j id:Nat}{c:Bd}(hj:BI M j=some c)(hc:c.id=some id):BS b M os φ (b+j)=φ id:=by obtain⟨cj,ci⟩:=c;simp only at hc;subst hc;simp[BS,hj];intro h;omega
theorem Hu{j:Nat}{c:Bd}{t:Ty}(hj:BI M j=some c)(hc:c.id=none)(ho:os[j]?=some (.ar t)):BS b M os φ (b+j)=some ⟨0,0,0,0,t,none⟩:=by obtain⟨cj,ci⟩:=c;simp only at hc;subst hc;simp[BS,hj,ho];intro h;omega
theorem RC.OC(hφ:∀i,i<n->φ' i=φ i):∀{v:V}{c:List Value},dZ n h v->RC S w φ v c->RC S w φ' v c:=by intro v;induction v with|so id=>rintro c ho ⟨l,h1,h2⟩;exact⟨l,(hφ id ho).trans h1,h2⟩|sr id=>rintro c ho ⟨l,h1,h2⟩;exact⟨l,(hφ id ho).trans h1,h2⟩|sb id ver lo t r=>rintro c ho ⟨l,h1,h2⟩;exact⟨l,(hφ id ho.1).trans h1,h2⟩|op id t p=>rintro c ho ⟨l,h1,h2⟩;exact⟨l,(hφ id ho).trans h1,h2⟩|ep id n t p=>rintro c ho ⟨l,m,h1,h2⟩;exact⟨l,m,(hφ id ho.1).trans h1,h2⟩|om id=>rintro c ho ⟨l,h1,h2⟩;exact⟨l,(hφ id ho).trans h1,h2⟩|vs id t=>rintro c ho ⟨l,h1,h2⟩;exact⟨l,(hφ id ho).trans h1,h2⟩|fn z f l ih=>rintro c ho ⟨d,h1,h2⟩;exact⟨d,h1,ih ho h2⟩|rc l ih=>intro c ho hr;exact ih ho hr|co a r iha ihr=>rintro c ho ⟨d,e,h1,h2,h3⟩;exact⟨d,e,h1,iha ho.1 h2,ihr ho.2 h3⟩|_=>intro c _ hr;exact hr
theorem RW.OC(hφ:∀i,i<n->φ' i=φ i){v:V}{x:Value}(ho:dZ n h v)(hr:RW S w φ v x):RW S w φ' v x:=by
 have k1:∀{v:V}{x:Value},dZ n h v->R1 S w φ v x->R1 S w φ' v x:=fun ho⟨c,h1,h2⟩=>⟨c,h1.OC hφ ho,h2⟩;have k2:∀{l:V}{xs:List Value},dZ n h l->RW.V6 S w φ l xs->RW.V6 S w φ' l xs:=by intro l;induction l with|co a r _ ihr=>rintro xs ho ⟨x,ys,h1,h2,h3⟩;exact⟨x,ys,h1,k1 ho.1 h2,ihr ho.2 h3⟩|ni=>intro xs _ h;exact h|_=>intro xs _ h;exact h.elim
 cases v with|tp l=>obtain⟨xs,h1,h2⟩:=hr;exact⟨xs,h1,k2 ho h2⟩|no=>exact hr|gn=>exact hr|_=>exact k1 ho hr
def wA(b:Nat)(os:List JO)(v v1:V)(m m':List Bd):Prop:=ma m m'/\(v7 m->v7 m')/\∀M,Sn M os->ma m' M->(∀h,dZ (b+os.length) h v1)/\∀{S:Nat->Prop}{w:World}{φ:fM}{c:List Value},RC S w φ v c->RC S w (BS b M os φ) v1 c/\xF v1=xF v
theorem wA.ju{v v1:V}{m:List Bd}(h1:∀n h,dZ n h v1)(h2:∀{S:Nat->Prop}{w:World}{φ φ':fM}{c:List Value},RC S w φ v c->RC S w φ' v1 c/\xF v1=xF v):wA b os v v1 m m:=⟨ma.refl _,fun h=>h,fun M _ _=>⟨h1 _,fun h=>h2 h⟩⟩
theorem wA.bind{v v1:V}{m m':List Bd}{j:Nat}{o:Option Nat}(hb:vd m ⟨j,o⟩=some m')(h1:∀{n:Nat}{h:H2},b+j<n->dZ n h v1)(h2:∀{S:Nat->Prop}{w:World}{φ φ':fM}{c:List Value},(∀id,o=some id->φ' (b+j)=φ id)->(o=none->∃t,φ' (b+j)=some ⟨0,0,0,0,t,none⟩)->RC S w φ v c->RC S w φ' v1 c/\xF v1=xF v):wA b os v v1 m m':=by obtain⟨q1,q2,c,q3,q4⟩:=RJ hb;refine⟨q1,q2,fun M hM hs=>?_⟩;have q5:=hs _ _ q3;obtain⟨k1,k2⟩:=hM _ _ q5;simp only at k1;refine⟨fun h=>h1 (by omega),fun hr=>h2 (fun id e=>Lt q5 (q4.trans e)) (fun e=>?_) hr⟩;obtain⟨t,ht,_⟩:=k2 (q4.trans e);exact⟨t,Hu q5 (q4.trans e) ht⟩
theorem Gs:∀{a:JV}{b0:Bool}{v v1 d:V}{m m':List Bd}{l bh rest':List V},Ad a b0 v m=some (l,m')->rm b a b0 (l++bh) d=some (v1,rest')->rest'=bh/\wA b os v v1 m m':=by
 intro a;induction a with
 |x t=>
  intro b0 v v1 d m m' l bh rest' hc hr;cases b0<;>first|(cases hc;done)|skip
  change (match tF t v with|some y=>some ([V.x t y],m)|none=>none)=_ at hc;split at hc<;>cases hc;rename_i y hy;cases(aC hr).2;exact⟨rfl,wA.ju (fun _ _=>trivial) fun hv=>⟨xg hy hv,(Gm hy hv).symm⟩⟩
 |pt t=>
  intro b0 v v1 d m m' l bh rest' hc hr;cases b0<;>cases v<;>first|(cases hc;done)|skip
  rename_i u v;change (match dR u t v with|some y=>some ([V.x t y],m)|none=>none)=_ at hc;split at hc<;>cases hc;rename_i y hy;obtain⟨rfl,rfl⟩:=iu hy;cases(aC hr).2;exact⟨rfl,wA.ju (fun _ _=>trivial) fun hv=>⟨hv,rfl⟩⟩
 |so j=>
  intro b0 v v1 d m m' l bh rest' hc hr;have nilc:∀{v:V},(match vd m ⟨j,none⟩with|some m=>some (([]:List V),m)|none=>none)=some (l,m')->xF v=false->(∀{S:Nat->Prop}{w:World}{φ:fM}{c:List Value},RC S w φ v c->c=[.slice none 0 0])->b0=false->rest'=bh/\wA b os v v1 m m':=by intro v hcc hag hv e0;subst e0;split at hcc<;>cases hcc;rename_i hb;cases hr;refine⟨rfl,wA.bind hb (fun h=>h) fun _ h2 hr=>?_⟩;obtain⟨t,ht⟩:=h2 rfl;exact⟨⟨_,ht,hv hr⟩,hag.symm⟩
  cases b0<;>cases v<;>first|(cases hc;done)|skip
  .rename_i u v;cases u<;>first|(cases hc;done)|skip
   obtain⟨e,h2⟩:=aC hc;refine nilc h2 rfl (fun{S w φ c}hr=>?_) rfl;cases v with|nil=>exact hr|mk q=>cases e
  .rename_i k;cases k<;>first|(cases hc;done)|skip
   exact nilc hc rfl (fun hr=>hr) rfl
  .rename_i id;change (match vd m ⟨j,some id⟩with|some m=>some (([]:List V),m)|none=>none)=_ at hc;split at hc<;>cases hc;rename_i hb;cases hr;exact⟨rfl,wA.bind hb (fun h=>h) fun h1 _⟨l,k1,k2⟩=>⟨⟨l,(h1 id rfl).trans k1,k2⟩,rfl⟩⟩
 |sr j=>
  intro b0 v v1 d m m' l bh rest' hc hr;cases b0<;>cases v<;>first|(cases hc;done)|skip
  rename_i id;change (match vd m ⟨j,some id⟩with|some m=>some (([]:List V),m)|none=>none)=_ at hc;split at hc<;>cases hc;rename_i hb;cases hr;exact⟨rfl,wA.bind hb (fun h=>h) fun h1 _⟨l,k1,k2⟩=>⟨⟨l,(h1 id rfl).trans k1,k2⟩,rfl⟩⟩
 |om j=>
  intro b0 v v1 d m m' l bh rest' hc hr;cases b0<;>cases v<;>first|(cases hc;done)|skip
  rename_i id;change (match vd m ⟨j,some id⟩with|some m=>some (([]:List V),m)|none=>none)=_ at hc;split at hc<;>cases hc;rename_i hb;cases hr;exact⟨rfl,wA.bind hb (fun h=>h) fun h1 _⟨l,k1,k2⟩=>⟨⟨l,(h1 id rfl).trans k1,k2⟩,rfl⟩⟩
 |op j t p=>
  intro b0 v v1 d m m' l bh rest' hc hr;cases b0<;>cases v<;>first|(cases hc;done)|skip
  rename_i id u q;obtain⟨e,h2⟩:=aC hc;simp only[aw,decide_eq_true_eq]at e;obtain⟨rfl,e2⟩:=e;obtain rfl:=PX e2;split at h2<;>cases h2;rename_i hb;cases hr;exact⟨rfl,wA.bind hb (fun h=>h) fun h1 _⟨l,k1,k2⟩=>⟨⟨l,(h1 id rfl).trans k1,k2⟩,rfl⟩⟩
 |nl k=>
  intro b0 v v1 d m m' l bh rest' hc hr;cases b0<;>cases v<;>first|(cases hc;done)|skip
  obtain⟨e,h2⟩:=aC hc;obtain rfl:=eq_of_beq e;cases h2;cases hr;exact⟨rfl,wA.ju (fun _ _=>trivial) fun hv=>⟨hv,rfl⟩⟩
 |fn z f a ih=>
  intro b0 v v1 d m m' l bh rest' hc hr;cases b0<;>cases v<;>first|(cases hc;done)|skip
  rename_i z' f' v;obtain⟨e,h2⟩:=aC hc;simp only[aw,beq_iff_eq]at e;obtain⟨rfl,rfl⟩:=e;change (match rm b a true (l++bh) .ni with|some (w,l)=>some (V.fn z f w,l)|none=>none)=_ at hr;split at hr<;>cases hr;rename_i w1 h3;obtain⟨rfl,q1,q2,q3⟩:=ih h2 h3;refine⟨rfl,q1,q2,fun M hM hs=>?_⟩;obtain⟨k1,k2⟩:=q3 M hM hs;exact⟨k1,fun⟨d,r1,r2⟩=>⟨⟨d,r1,(k2 r2).1⟩,rfl⟩⟩
 |rc a ih=>
  intro b0 v v1 d m m' l bh rest' hc hr;have wu:∀{v':V},Ad a true v' m=some (l,m')->b0=false->xF v=true->(∀{S:Nat->Prop}{w:World}{φ:fM}{c:List Value},RC S w φ v c->RC S w φ v' c)->rest'=bh/\wA b os v v1 m m':=by intro v' h2 e0 hag hv;subst e0;change (match rm b a true (l++bh) .ni with|some (w,l)=>some (V.rc w,l)|none=>none)=_ at hr;split at hr<;>cases hr;rename_i w1 h3;obtain⟨rfl,q1,q2,q3⟩:=ih h2 h3;refine⟨rfl,q1,q2,fun M hM hs=>?_⟩;obtain⟨k1,k2⟩:=q3 M hM hs;exact⟨k1,fun hr=>⟨(k2 (hv hr)).1,hag.symm⟩⟩
  cases b0<;>cases v<;>first|(cases hc;done)|skip
  .rename_i u v;cases u<;>first|(cases hc;done)|skip
   rename_i u;exact wu (v':=O1 u v) hc rfl rfl fun hr=>O0 (t:=u) hr
  .exact wu hc rfl rfl fun hr=>hr
 |ni=>
  intro b0 v v1 d m m' l bh rest' hc hr;cases b0<;>cases v<;>first|(cases hc;done)|skip
  cases hc;cases hr;exact⟨rfl,wA.ju (fun _ _=>trivial) fun hv=>⟨hv,rfl⟩⟩
 |co a c iha ihc=>
  intro b0 v v1 d m m' l bh rest' hc hr;cases b0<;>cases v<;>first|(cases hc;done)|skip
  rename_i x y;change (match Ad a false x m with|some (l,m)=>(match Ad c true y m with|some (l',m)=>some (l++l',m)|none=>none)|none=>none)=_ at hc;split at hc<;>first|(cases hc;done)|skip
  rename_i l1 m1 h1;split at hc<;>cases hc;rename_i l2 h2
  have hr2:∃d1 d2 w1 r1 w2,rm b a false (l1++(l2++bh)) d1=some (w1,r1)/\rm b c true r1 d2=some (w2,rest')/\v1=.co w1 w2:=by
   rw[aQ]at hr
   have gen:∀(d1 d2:V),(match rm b a false (l1++(l2++bh)) d1 with|some (v,l)=>(match rm b c true l d2 with|some (w,l)=>some (V.co v w,l)|none=>none)|none=>none)=some (v1,rest')->∃d1 d2 w1 r1 w2,rm b a false (l1++(l2++bh)) d1=some (w1,r1)/\rm b c true r1 d2=some (w2,rest')/\v1=.co w1 w2:=by
    intro d1 d2 hr;split at hr<;>first|(cases hr;done)|skip
    rename_i w1 r1 g1;split at hr<;>cases hr;rename_i w2 g2;exact⟨d1,d2,w1,r1,w2,g1,g2,rfl⟩
   cases d<;>exact gen _ _ hr
  obtain⟨d1,d2,w1,r1,w2,g1,g2,rfl⟩:=hr2;obtain⟨rfl,q1,q2,q3⟩:=iha h1 g1;obtain⟨rfl,p1,p2,p3⟩:=ihc h2 g2;refine⟨rfl,q1.trans p1,fun h=>p2 (q2 h),fun M hM hs=>?_⟩;obtain⟨k1,k2⟩:=q3 M hM (p1.trans hs);obtain⟨k3,k4⟩:=p3 M hM hs;exact⟨fun h=>⟨k1 h,k3 h⟩,fun⟨e,f,e1,e2,e3⟩=>⟨⟨e,f,e1,(k2 e2).1,(k4 e3).1⟩,rfl⟩⟩
 |_=>intro b0 v v1 d m m' l bh rest' hc;cases b0<;>cases v<;>cases hc
end
section
variable{b:Nat}{M:List Bd}{os:List JO}{h:H2}{n:Nat}{s:S2}
theorem Mg{S:Nat->Prop}{w:World}{φ:fM}{a:JV}{v:V}{m m':List Bd}{l:List V}{x:Value}(hc:Ad a false v m=some (l,m'))(hr:RW S w φ v x):R1 S w φ v x:=by
 cases v<;>first|exact hr|skip
 all_goals(exfalso;cases a<;>first|(cases hc;done)|skip)
 all_goals
  rename_i t
  first
   |(change (match tF t (.tp _)with|some y=>some ([V.x t y],m)|none=>none)=_ at hc;split at hc<;>first|(cases hc;done)|(rename_i hy;cases hy;done))
   |(change (match tF t .no with|some y=>some ([V.x t y],m)|none=>none)=_ at hc;split at hc<;>first|(cases hc;done)|(rename_i hy;cases hy;done))
   |(change (match tF t .gn with|some y=>some ([V.x t y],m)|none=>none)=_ at hc;split at hc<;>first|(cases hc;done)|(rename_i hy;cases hy;done))
theorem wA.rw{v v1:V}{m m':List Bd}(hC:wA b os v v1 m m')(hM:Sn M os)(hs:ma m' M){S:Nat->Prop}{w:World}{φ:fM}{x:Value}(hr:R1 S w φ v x):RW S w (BS b M os φ) v1 x:=by obtain⟨_,h2⟩:=hC.2.2 M hM hs;obtain⟨c,k1,k2⟩:=hr;obtain⟨q1,q2⟩:=h2 k1;exact R1.rw ⟨c,q1,by rw[q2];exact k2⟩
def XX(b:Nat)(os:List JO)(M:List Bd)(v v1:V):Prop:=(∀h,dZ (b+os.length) h v1)/\∀{S:Nat->Prop}{w:World}{φ:fM}{x:Value},RW S w φ v x->RW S w (BS b M os φ) v1 x
theorem Rz:∀{vs:List (Nat×JV)}{m m':List Bd}{l bh rest':List V}{e:List (Nat×V)},Mf s vs m=some (l,m')->Lh b vs (l++bh)=some (e,rest')->rest'=bh/\ma m m'/\(v7 m->v7 m')/\
  ∀M,Sn M os->ma m' M->∀t v1,gB e t=some v1->∃v,gB s.gX t=some v/\XX b os M v v1:=by
 intro vs;induction vs with
 |nil=>intro m m' l bh rest' e hc hr;cases hc;cases hr;exact⟨rfl,ma.refl _,fun h=>h,fun M _ _ t v1 ht=>by cases ht⟩
 |cons p vs ih=>
  obtain⟨t,a⟩:=p;intro m m' l bh rest' e hc hr;simp only[Mf]at hc;split at hc<;>first|(cases hc;done)|skip
  rename_i v hv;split at hc<;>first|(cases hc;done)|skip
  rename_i l1 m1 h1;split at hc<;>cases hc;rename_i l2 h2;simp only[Lh]at hr;rw[aQ]at hr;split at hr<;>first|(cases hr;done)|skip
  rename_i v1 r1 g1;split at hr<;>cases hr;rename_i e2 g2;obtain⟨rfl,hC⟩:=Gs (os:=os) h1 g1;obtain⟨rfl,p1,p2,p3⟩:=ih h2 g2
  have hfv:gB s.gX t=some v:=by
   simp only[Nr]at hv;split at hv<;>first|(cases hv;done)|skip
   rename_i hx;rw[hx];rw[(aC hv).2]
  refine⟨rfl,hC.1.trans p1,fun h=>p2 (hC.2.1 h),fun M hM hs t' v' ht=>?_⟩;rw[jN]at ht;split at ht
  .rename_i e;subst e;cases ht;exact⟨v,hfv,(hC.2.2 M hM (p1.trans hs)).1,fun hr=>hC.rw hM (p1.trans hs) (Mg h1 hr)⟩
  .exact p3 M hM hs t' v' ht
theorem G3{x y:V}(h:G4 x y=true):x=y:=by
 unfold G4 at h;split at h<;>first|(cases h;done)|rfl|skip
 all_goals simp_all
theorem Pu:∀{x y:V},G5 x y=true->x=y:=by
 intro x;induction x with
 |ni=>intro y h;cases y<;>first|rfl|cases h
 |co a r _ ihr=>
  intro y h;cases y<;>first|(cases h;done)|skip
  simp only[G5,aw]at h;rw[G3 h.1,ihr h.2]
 |_=>intro y h;cases y<;>cases h
theorem UO{hb:H2}:∀{a:JV}{g0 g g1:V}{m m':List Bd}{l bh rest':List V},IY h a g0 g m=some (l,m')->rm b a true (l++bh) g0=some (g1,rest')->(∀c∈iA g0,dZ b hb c)->rest'=bh/\ma m m'/\(v7 m->v7 m')/\
  ∀M,Sn M os->ma m' M->∀(i:Nat)(c1:V),(iA g1)[i]?=some c1->∃c,(iA g)[i]?=some c/\((c1∈iA g0/\c=c1)\/XX b os M c c1):=by
 intro a;induction a with
 |sm=>intro g0 g g1 m m' l bh rest' hc hr _;obtain⟨e,h2⟩:=aC (show(bif G5 g0 g then some (([]:List V),m)else none)=some (l,m')from hc);cases h2;cases hr;obtain rfl:=Pu e;exact⟨rfl,ma.refl _,fun h=>h,fun M _ _ i c1 hi=>⟨c1,hi,.inl ⟨bj hi,rfl⟩⟩⟩
 |ni=>
  intro g0 g g1 m m' l bh rest' hc hr _;cases g0<;>first|(cases hc;done)|skip
  cases g<;>first|(cases hc;done)|skip
  cases hc;cases hr;exact⟨rfl,ma.refl _,fun h=>h,fun M _ _ i c1 hi=>by simp[iA]at hi⟩
 |co a r iha ihr=>
  intro g0 g g1 m m' l bh rest' hc hr hok;cases g0<;>first|(cases hc;done)|skip
  rename_i x0 y0;cases g<;>first|(cases hc;done)|skip
  rename_i x y
  have hr2:∀{l1 l2:List V},l=l1++l2->∃w1 r1 w2,rm b a false (l1++(l2++bh)) x0=some (w1,r1)/\rm b r true r1 y0=some (w2,rest')/\g1=.co w1 w2:=by
   intro l1 l2 e;rw[e,aQ]at hr;change (match rm b a false (l1++(l2++bh)) x0 with|some (v,l)=>(match rm b r true l y0 with|some (w,l)=>some (V.co v w,l)|none=>none)|none=>none)=_ at hr;split at hr<;>first|(cases hr;done)|skip
   rename_i w1 r1 g1;split at hr<;>cases hr;rename_i w2 g2;exact⟨w1,r1,w2,g1,g2,rfl⟩
  have wu:∀{l1 l2:List V}{m1:List Bd}{w1 w2:V},ma m m1->(v7 m->v7 m1)->IY h r y0 y m1=some (l2,m')->rm b r true (l2++bh) y0=some (w2,rest')->(∀M,Sn M os->ma m1 M->(w1=x0/\x=x0)\/XX b os M x w1)->rest'=bh/\ma m m'/\(v7 m->v7 m')/\
    ∀M,Sn M os->ma m' M->∀(i:Nat)(c1:V),(iA (.co w1 w2))[i]?=some c1->∃c,(iA (.co x y))[i]?=some c/\((c1∈iA (.co x0 y0)/\c=c1)\/XX b os M c c1):=by
   intro l1 l2 m1 w1 w2 h1 h2 h3 h4 h5;obtain⟨rfl,p1,p2,p3⟩:=ihr h3 h4 (fun c hc=>hok c (by simp[iA,hc]));refine⟨rfl,h1.trans p1,fun h=>p2 (h2 h),fun M hM hs i c1 hi=>?_⟩;cases i with
   |zero=>
    obtain rfl:w1=c1:=by simpa[iA]using hi
    refine⟨x,by simp[iA],(h5 M hM (p1.trans hs)).imp (fun⟨e1,e2⟩=>⟨by simp[iA,e1],by rw[e1,e2]⟩) fun h=>h⟩
   |succ i=>obtain⟨c,q1,q2⟩:=p3 M hM hs i c1 (by simpa[iA]using hi);exact⟨c,by simpa[iA]using q1,q2.imp (fun⟨e1,e2⟩=>⟨by simp[iA,e1],e2⟩) fun h=>h⟩
  have gen:∀{a':JV},a'=a->a'≠.sm->a'≠.gn->(bif oN h x then(match Ad a false x m with|some (l,m)=>(match IY h r y0 y m with|some (l',m)=>some (l++l',m)|none=>none)|none=>none)else none)=some (l,m')->rest'=bh/\ma m m'/\(v7 m->v7 m')/\
    ∀M,Sn M os->ma m' M->∀(i:Nat)(c1:V),(iA g1)[i]?=some c1->∃c,(iA (.co x y))[i]?=some c/\((c1∈iA (.co x0 y0)/\c=c1)\/XX b os M c c1):=by
   intro a' _ _ _ hc;have hc:=(aC hc).2;split at hc<;>first|(cases hc;done)|skip
   rename_i l1 m1 h1;split at hc<;>cases hc;rename_i l2 h2;obtain⟨w1,r1,w2,g1,g2,rfl⟩:=hr2 rfl;obtain⟨rfl,hC⟩:=Gs (os:=os) h1 g1;exact wu (l1:=l1) hC.1 hC.2.1 h2 g2 fun M hM hs=>.inr ⟨(hC.2.2 M hM hs).1,fun hr=>hC.rw hM hs (Mg h1 hr)⟩
  cases a with|sm=>obtain⟨e,h2⟩:=aC (show(bif G4 x0 x then IY h r y0 y m else none)=some (l,m')from hc);obtain rfl:=G3 e;obtain⟨w1,r1,w2,g1,g2,rfl⟩:=hr2 (l1:=[]) (l2:=l) rfl;cases g1;exact wu (l1:=[]) (ma.refl _) (fun h=>h) h2 g2 fun M _ _=>.inl ⟨rfl,rfl⟩|gn=>obtain⟨w1,r1,w2,g1,g2,rfl⟩:=hr2 (l1:=[]) (l2:=l) rfl;cases g1;exact wu (l1:=[]) (ma.refl _) (fun h=>h) hc g2 fun M _ _=>.inr ⟨fun _=>trivial,fun _=>trivial⟩|_=>exact gen rfl (by simp) (by simp) hc
 |_=>intro g0 g g1 m m' l bh rest' hc;cases g0<;>cases g<;>cases hc
def ObR(b:Nat)(os:List JO)(M:List Bd)(h:H2)(j:Nat)(o:O):Prop:=∃c,BI M j=some c/\((c.id=none/\∃t,os[j]?=some (.ar t)/\Bv t=true/\o=.ar t Sl.nil 0)\/
 ∃id o',c.id=some id/\fO h id=some o'/\(∀t cc,o=.bx t cc->∀h,dZ (b+os.length) h cc)/\(∀n,AT n (some o))/\∀{S:Nat->Prop}{w:World}{φ:fM}{l:nF},RO S w φ l o'->RO S w (BS b M os φ) l o/\ob w l o=ob w l o')
theorem UN{j:Nat}{jo:JO}{m m':List Bd}{l bh rest':List V}{o:O}(hj:os[j]?=some jo)(hc:XJ h j jo m=some (l,m'))(hr:ZF b jo (l++bh)=some (o,rest')):rest'=bh/\ma m m'/\(v7 m->v7 m')/\
  (∃c,BI m' j=some c/\(c.id=none->∃t,jo=.ar t/\Bv t=true))/\∀M,Sn M os->ma m' M->ObR b os M h j o:=by
 unfold XJ at hc;split at hc<;>first|(cases hc;done)|skip
 rename_i c hcj;split at hc<;>first|(cases hc;done)|skip
 .rename_i t hid;obtain⟨e,h2⟩:=aC hc;cases h2;cases(aC hr).2;exact⟨rfl,ma.refl _,fun h=>h,⟨c,hcj,fun _=>⟨t,rfl,e⟩⟩,fun M _ hs=>⟨c,hs _ _ hcj,.inl ⟨hid,t,hj,e,rfl⟩⟩⟩
 .rename_i t id hid;split at hc<;>first|(cases hc;done)|skip
  rename_i u s0 ver ho;split at hc<;>cases hc;rename_i s1 hs1;obtain⟨rfl,rfl⟩:=tf hs1;cases(aC hr).2;refine⟨rfl,ma.refl _,fun h=>h,⟨c,hcj,fun e=>by rw[hid]at e;cases e⟩,fun M _ hs=>⟨c,hs _ _ hcj,.inr ⟨id,_,hid,ho,(by simp),(fun _=>trivial),fun hro=>⟨⟨hro.1,hro.2.1,hro.2.2.1,hro.2.2.2.1,fun r e=>hro.2.2.2.2 r e⟩,rfl⟩⟩⟩⟩
 .rename_i t id hid;split at hc<;>first|(cases hc;done)|skip
  rename_i u s0 ho;split at hc<;>cases hc;rename_i s1 hs1;obtain⟨rfl,rfl⟩:=Ac hs1;cases(aC hr).2;refine⟨rfl,ma.refl _,fun h=>h,⟨c,hcj,fun e=>by rw[hid]at e;cases e⟩,fun M _ hs=>⟨c,hs _ _ hcj,.inr ⟨id,_,hid,ho,(by simp),(fun _=>trivial),fun hro=>⟨⟨hro.1,hro.2.1,hro.2.2.1,hro.2.2.2.1,fun r e=>?_⟩,rfl⟩⟩⟩⟩;obtain⟨bz,k1,k2,k3,k4,k5,k6⟩:=hro.2.2.2.2 r e;exact⟨bz,k1,k2,k3,k4,k5,k6⟩
 .rename_i t a id hid;split at hc<;>first|(cases hc;done)|skip
  rename_i u v ho;obtain⟨e,h2⟩:=aC hc;obtain rfl:=of_decide_eq_true e;change (match rm b a false (l++bh) .gn with|some (w,l)=>bif dF w false u then some (O.bx u w,l)else none|none=>none)=_ at hr;split at hr<;>first|(cases hr;done)|skip
  rename_i w1 l1 h3;obtain⟨e2,h4⟩:=aC hr;cases h4;obtain⟨rfl,hC⟩:=Gs (os:=os) h2 h3;refine⟨rfl,hC.1,hC.2.1,⟨c,hC.1 _ _ hcj,fun e=>by rw[hid]at e;cases e⟩,fun M hM hs=>?_⟩;obtain⟨q1,q2⟩:=hC.2.2 M hM hs;exact⟨c,hs _ _ (hC.1 _ _ hcj),.inr ⟨id,_,hid,ho,(fun t cc e=>by cases e;exact q1),(fun _=>trivial),fun⟨r1,r2,bz,r3,r4⟩=>⟨⟨r1,e2,bz,r3,(q2 r4).1⟩,rfl⟩⟩⟩
 .rename_i k v id hid;split at hc<;>first|(cases hc;done)|skip
  rename_i k' v' y ho;split at hc<;>cases hc;rename_i y1 hy;obtain⟨rfl,rfl,rfl⟩:=Ry hy;cases(aC hr).2;exact⟨rfl,ma.refl _,fun h=>h,⟨c,hcj,fun e=>by rw[hid]at e;cases e⟩,fun M _ hs=>⟨c,hs _ _ hcj,.inr ⟨id,_,hid,ho,(by simp),(fun _=>trivial),fun hro=>⟨hro,rfl⟩⟩⟩⟩
theorem RA:∀{js:List JO}{j:Nat}{m m':List Bd}{l bh rest':List V}{hh:H2},(∀k,js[k]?=os[j+k]?)->Mh h js j m=some (l,m')->Li b js j (l++bh)=some (hh,rest')->rest'=bh/\ma m m'/\(v7 m->v7 m')/\
  (∀k jo,js[k]?=some jo->∃c,BI m' (j+k)=some c/\(c.id=none->∃t,jo=.ar t/\Bv t=true))/\hh.map (·.1)=(aK js.length).map (fun k=>b+(j+k))/\∀M,Sn M os->ma m' M->∀id x,gB hh id=some x->∃k o,k<js.length/\id=b+(j+k)/\x=some o/\ObR b os M h (j+k) o:=by
 intro js;induction js with
 |nil=>intro j m m' l bh rest' hh hjs hc hr;cases hc;cases hr;exact⟨rfl,ma.refl _,fun h=>h,(fun k jo hk=>by simp at hk),rfl,fun M _ _ id x hx=>by cases hx⟩
 |cons jo js ih=>
  intro j m m' l bh rest' hh hjs hc hr;simp only[Mh]at hc;split at hc<;>first|(cases hc;done)|skip
  rename_i l1 m1 h1;split at hc<;>cases hc;rename_i l2 h2;simp only[Li]at hr;rw[aQ]at hr;split at hr<;>first|(cases hr;done)|skip
  rename_i o1 r1 g1;split at hr<;>cases hr;rename_i hh2 g2;obtain⟨rfl,p1,p2,⟨c,p3,p4⟩,p5⟩:=UN (os:=os) (by have:=hjs 0;simpa using this.symm) h1 g1;obtain⟨rfl,q1,q2,q3,q4,q5⟩:=ih (j:=j+1) (fun k=>by have:=hjs (k+1);simp only[List.getElem?_cons_succ]at this;rw[this];congr 1;omega) h2 g2;refine⟨rfl,p1.trans q1,fun h=>q2 (p2 h),fun k jo' hk=>?_,?_,fun M hM hs id x hx=>?_⟩
  .cases k with
   |zero=>
    obtain rfl:jo=jo':=by simpa using hk
    exact⟨c,q1 _ _ p3,p4⟩
   |succ k=>have:=q3 k jo' (by simpa using hk);rwa[show j+1+k=j+(k+1)by omega]at this
  .rw [a_,q4,List.length_cons,List.range_succ_eq_map,a_,List.map_map];congr 1;apply List.map_congr_left;intro k _;simp only[Function.comp_def];omega
  .rw [jN]at hx;split at hx
   .rename_i e;cases hx;exact⟨0,o1,by simp,by omega,rfl,p5 M hM (q1.trans hs)⟩
   .obtain ⟨k,o,k1,k2,k3,k4⟩:=q5 M hM hs id x hx;refine⟨k+1,o,by simp;omega,by omega,k3,?_⟩;rwa[show j+1+k=j+(k+1)by omega]at k4
end
section
variable{S K:Nat->Prop}{w0 w:World}{φ φ1:fM}{gv:List Value}{nt:Nat}{a:Act}{s0 s s1:S2}{j:J}{ds:List Nat}{l:List V}{H H1:Hf}
theorem Inv.WM(hI:Inv S K w0 φ H w)(src:Nat->Option Nat)(hobj:∀i o,H1 i=some o->∃l,φ1 i=some l/\RO S w φ1 l o/\(ob w l o=[]\/∃i' o',src i=some i'/\H i'=some o'/\φ i'=some l/\ob w l o=ob w l o'))
  (hinj:∀i1 i2 o1 o2 i',H1 i1=some o1->H1 i2=some o2->src i1=some i'->src i2=some i'->i1=i2):Inv S K w0 φ1 H1 w:=by
 refine⟨hI.Cg,hI.sk,hI.sq,hI.Kr,fun i o ho=>?_,fun i1 i2 o1 o2 l1 l2 h1 h2 e1 e2 hne x hx hy=>?_⟩
 .obtain ⟨l,a1,a2,a3⟩:=hobj i o ho;refine⟨l,a1,a2,fun b hb=>?_⟩;rcases a3 with a3|⟨i',o',_,q2,q3,q4⟩
  .rw [a3]at hb;cases hb
  .rw [q4]at hb;obtain⟨l2,r1,_,r3⟩:=hI.lS i' o' q2;obtain rfl:=ac (q3.symm.trans r1);exact r3 b hb
 .obtain ⟨l,a1,a2,a3⟩:=hobj i1 o1 h1;obtain rfl:=ac (e1.symm.trans a1);obtain⟨l,b1,b2,b3⟩:=hobj i2 o2 h2;obtain rfl:=ac (e2.symm.trans b1);rcases a3 with a3|⟨i',o',p1,p2,p3,p4⟩
  .rw [a3]at hx;cases hx
  rcases b3 with b3|⟨i2',o2',q1,q2,q3,q4⟩
  .rw [b3]at hy;cases hy
  rw[p4]at hx;rw[q4]at hy;exact hI.iY i' i2' o' o2' l1 l2 p2 q2 p3 q3 (fun e=>hne (hinj i1 i2 o1 o2 i' h1 h2 p1 (e▸q1))) x hx hy
theorem Ui{l:List Nat}{x:V}{t:Nat}:gB (l.map fun t=>(t,x)) t=if t∈l then some x else none:=by
 induction l with
 |nil=>rfl
 |cons a l ih=>
  simp only[a_,jN,ih,aI];by_cases e:a=t
  .simp [e]
  .have:¬t=a:=fun h=>e h.symm;simp[e,this]
structure X3(j:J)(s0 s1:S2):Prop where
 le:s0.next<=s1.next
 wo:∃W,s1.wo=W++s0.wo/\∀id,id∉W->fO s1.heap id=fO s0.heap id
 kl:∀id,id<s0.next->id∉j.kl->fO s1.heap id=fO s0.heap id
theorem QL(hR:vZ S K w0 φ gv nt s a w)(h0:KU s0.next s0.heap (gB s0.gX))(hg0:∀c∈iA s0.gh,dZ s0.next s0.heap c)(hle:s0.next<=s.next)(hW:∀id,id<s0.next->id∉s.wo->id∉j.kl->fO s.heap id=fO s0.heap id)
  (hE:∀t v,t∉ds->gB s0.gX t=some v->RW S w φ v (a.tmps.getD t undef)) (hc:Mi j s0 s=some l) (hr:vz j ds s0 l=some s1):(∃φ1,(∀i,i<s0.next->φ1 i=φ i)/\vZ S K w0 φ1 gv nt s1 a w)/\X3 j s0 s1:=by
 obtain⟨b,hb⟩:∃b,b=s0.next:=⟨_,rfl⟩
 unfold Mi at hc;split at hc<;>first|(cases hc;done)|skip
 rename_i l1 m1 h1;split at hc<;>first|(cases hc;done)|skip
 rename_i l2 m2 h2;split at hc<;>first|(cases hc;done)|skip
 rename_i l3 M h3;obtain⟨e,h4⟩:=aC hc;cases h4;simp only[aw,cm]at e;obtain⟨e1,e2⟩:=e;unfold vz at hr;rw[<-hb]at hr;split at hr<;>first|(cases hr;done)|skip
 rename_i ee r1 g1;split at hr<;>first|(cases hr;done)|skip
 rename_i gg r2 g2;split at hr<;>cases hr;rename_i hh r3 g3;rw[<-List.append_nil l3]at g1;obtain⟨rfl,p1,p2,p3⟩:=Rz (os:=j.os) h1 g1;obtain⟨rfl,q1,q2,q3⟩:=UO (os:=j.os) (b:=b) (hb:=s0.heap) h2 g2 (by rw[hb];exact hg0);obtain⟨rfl,r1,r2,r4,r5,r6⟩:=RA (os:=j.os) (b:=b) (j:=0) (fun k=>by rw[cT]) h3 g3;have hinj:v7 M:=r2 (q2 (p2 fun j1 j2 b1 b2 id h=>by cases h));have hMlt:∀i c,BI M i=some c->i<j.os.length/\∀id,c.id=some id->b<=id\/id∈j.kl:=fun i c hi=>by obtain⟨k1,k2⟩:=Mq hi;have:=e2 c k1;simp only[aw,eA]at this;refine⟨by omega,fun id hid=>?_⟩;have h:=this.2;rw[hid]at h;simp only[dE,Nat.ble_eq,mT,decide_eq_true_eq]at h;rw[hb];exact h
 have hM:Sn M j.os:=fun i c hi=>by refine⟨(hMlt i c hi).1,fun hn=>?_⟩;have hlt:=(hMlt i c hi).1;obtain⟨c',k1,k2⟩:=r4 i j.os[i] (bf hlt);rw[cT,hi]at k1;cases k1;obtain⟨t,k3,k4⟩:=k2 hn;exact⟨t,by rw[bf hlt,k3],k4⟩
 have p3:=p3 M hM (q1.trans r1);have q3:=q3 M hM r1;have r6:=r6 M hM (ma.refl _);obtain⟨φ1,hφ1⟩:∃φ1,φ1=BS b M j.os φ:=⟨_,rfl⟩
 have hold:∀i,i<b->φ1 i=φ i:=fun i hi=>by rw[hφ1];exact PU hi
 have hheap:∀id o,fO (hh++(j.kl.map (fun i=>(i,none))++s0.heap)) id=some o->(∃k,k<j.os.length/\id=b+k/\ObR b j.os M s.heap k o)\/(id<b/\id∉j.kl/\fO s0.heap id=some o):=by
  intro id o ho;rw[p9]at ho;simp only[up]at ho;split at ho
  .rename_i x hx;obtain⟨k,o',k1,k2,k3,k4⟩:=r6 id x hx;rw[k3]at ho;cases ho;rw[cT]at k2 k4;exact .inl ⟨k,k1,k2,k4⟩
  .rw [p9]at ho;simp only[up,uY]at ho;by_cases hk:id∈j.kl
   .simp [hk]at ho
   .simp only[if_neg hk]at ho;exact .inr ⟨by rw[hb];exact h0.Az.lt id o ho,hk,ho⟩
 have hnone:∀id,id<b->gB hh id=none:=fun id hid=>by refine qN fun hm=>?_;rw[r5]at hm;obtain⟨k,_,hk⟩:=aL.1 hm;omega
 have hsame:∀id,id<b->id∉j.kl->fO s.heap id=fO s0.heap id:=fun id h1 h2=>by
  by_cases hw:id∈s.wo
  .have:=e1 id hw;simp only[dE,Nat.ble_eq,mT,decide_eq_true_eq]at this;rcases this with h|h
   .omega
   .exact absurd h h2
  .exact hW id (by omega) hw h2
 have hI:Inv S K w0 φ1 (fO (hh++(j.kl.map (fun i=>(i,none))++s0.heap))) w:=by
  refine hR.rx.inv.WM (fun i=>if i<b then some i else(BI M (i-b)).bind (·.id)) (fun id o ho=>?_) fun i1 i2 o1 o2 i' ho1 ho2 s1 s2=>?_
  .rcases hheap id o ho with⟨k,k1,rfl,c,k2,k3⟩|⟨k1,k2,k3⟩
   .rcases k3 with⟨k3,t,k4,k5,rfl⟩|⟨id',o',k3,k4,_,_,k6⟩
    .refine ⟨_,by rw[hφ1];exact Hu k2 k3 k4,?_,.inl rfl⟩;simp only[Bv,aw,eA]at k5;exact⟨rfl,rfl,k5.1,k5.2,fun r e=>by cases e⟩
    .obtain ⟨lo,a1,a2,_⟩:=hR.rx.inv.lS id' o' k4;obtain⟨g4,g5⟩:=k6 a2;refine⟨lo,by rw[hφ1,Lt k2 k3];exact a1,by rw[hφ1];exact g4,.inr ⟨id',o',?_,k4,a1,g5⟩⟩;have e1:¬b+k<b:=by omega
     simp only[if_neg e1,Nat.add_sub_cancel_left,k2,ad,k3]
   .have k4:fO s.heap id=some o:=(hsame id k1 k2).trans k3;obtain⟨lo,a1,a2,_⟩:=hR.rx.inv.lS id o k4;refine⟨lo,(hold id k1).trans a1,?_,.inr ⟨id,o,by simp[k1],k4,a1,rfl⟩⟩;cases o with
    |bx t c=>obtain⟨c1,c2,bz,c3,c4⟩:=a2;exact⟨c1,c2,bz,c3,c4.OC (n:=b) (h:=s0.heap) hold (by rw[hb];exact h0.Az.bx id t c k3)⟩
    |rw t q ln=>
     obtain⟨c1,c2,c3,c4,c5⟩:=a2;refine⟨c1,c2,c3,c4,fun r e=>?_⟩;obtain⟨bz,d1,d2,d3,d4,d5,d6⟩:=c5 r e;refine⟨bz,d1,d2,d3,d4,d5,fun i x hi=>?_⟩;obtain⟨v,v1,v2⟩:=d6 i x hi;refine⟨v,v1,?_⟩;cases ln with
     |none=>exact v2
     |some p=>
      obtain⟨m,id2⟩:=p;simp only at v2|-;split
      .rename_i em;rw[if_pos em]at v2;have hid2:id2<b:=by have:=h0.Az.ln id;rw[k3]at this;rw[hb];exact this
       obtain⟨⟨l',u1,u2⟩,l'',u3,u4⟩:=v2;exact⟨⟨l',(hold id2 hid2).trans u1,u2⟩,l'',(hold id2 hid2).trans u3,u4⟩
      .rename_i em;rw[if_neg em]at v2;exact v2
    |_=>exact a2
  .have val:∀{i:Nat}{o:O},fO (hh++(j.kl.map (fun i=>(i,none))++s0.heap)) i=some o->(if i<b then some i else(BI M (i-b)).bind (·.id))=some i'->(i<b/\i∉j.kl/\i=i')\/∃c,b<=i/\BI M (i-b)=some c/\c.id=some i':=by
    intro i o ho hs;split at hs
    .rename_i hlt;cases hs;rcases hheap _ o ho with⟨k,_,e,_⟩|⟨_,k2,_⟩
     .omega
     .exact .inl ⟨hlt,k2,rfl⟩
    .rename_i hlt;obtain⟨c,c1,c2⟩:=Option.bind_eq_some_iff.1 hs;exact .inr ⟨c,by omega,c1,c2⟩
   rcases val ho1 s1 with⟨a1,a2,a3⟩|⟨c,a1,a2,a3⟩<;>rcases val ho2 s2 with⟨b1,b2,b3⟩|⟨d,b1,b2,b3⟩
   .omega
   .rcases (hMlt _ d b2).2 i' b3 with h|h
    .omega
    .exact absurd (a3▸h) a2
   .rcases (hMlt _ c a2).2 i' a3 with h|h
    .omega
    .exact absurd (b3▸h) b2
   .have:=hinj _ _ c d i' a2 b2 a3 b3;omega
 have hu:jS b s0.heap (hh++j.kl.map (fun i=>(i,none))):=by
  refine jS.append (fun p hp o' e=>.inl ?_) fun p hp o' e=>by obtain⟨i,_,rfl⟩:=aL.1 hp;cases e
  have:p.1∈hh.map (·.1):=aL.2 ⟨p,hp,rfl⟩;rw[r5]at this;obtain⟨k,_,hk⟩:=aL.1 this;omega
 have fe:xX b s0.heap (hh++(j.kl.map (fun i=>(i,none))++s0.heap)):=by rw[<-aQ];exact hu.fe
 have hokv:∀{v:V},dZ b s0.heap v->dZ (b+j.os.length) (hh++(j.kl.map (fun i=>(i,none))++s0.heap)) v:=fun hv=>dQ (by omega) fe hv
 have hfnd:∀t v,gB (ee++(ds.map (fun t=>(t,V.gn))++s0.gX)) t=some v->(∃v',gB s.gX t=some v'/\XX b j.os M v' v)\/v=.gn\/(t∉ds/\gB s0.gX t=some v):=by
  intro t v hv;rw[sT]at hv;cases he:gB ee t with
  |some x=>rw[he]at hv;cases hv;obtain⟨v',k1,k2⟩:=p3 t _ he;exact .inl ⟨v',k1,k2⟩
  |none=>
   rw[he]at hv;simp only[sT,Ui]at hv;by_cases hd:t∈ds
   .simp [hd]at hv;exact .inr (.inl hv.symm)
   .simp [hd]at hv;exact .inr (.inr ⟨hd,hv⟩)
 have hlow:∀{v:V}{x:Value},dZ b s0.heap v->RW S w φ v x->RW S w φ1 v x:=fun ho hr=>hr.OC hold ho;have hto:∀{v v':V}{x:Value},XX b j.os M v' v->RW S w φ v' x->RW S w φ1 v x:=fun ht hr=>by rw[hφ1];exact ht.2 hr
 have hsok:xI (b+j.os.length) (hh++(j.kl.map (fun i=>(i,none))++s0.heap)):=by
  refine⟨fun id=>?_,fun id o ho=>?_,fun id t c ho=>?_⟩
  .cases ho:fO (hh++(j.kl.map (fun i=>(i,none))++s0.heap)) id with
   |none=>trivial
   |some o=>
    rcases hheap id o ho with⟨k,k1,rfl,c,k2,k3⟩|⟨k1,k2,k3⟩
    .rcases k3 with⟨_,t,_,_,rfl⟩|⟨id',o',_,k4,_,k6,_⟩
     .trivial
     .exact k6 _
    .have:=h0.Az.ln id;rw[k3]at this;exact this.mono (by omega)
  .rcases hheap id o ho with⟨k,k1,rfl,_⟩|⟨k1,_⟩<;>omega
  .rcases hheap id _ ho with⟨k,k1,rfl,c',k2,k3⟩|⟨k1,k2,k3⟩
   .rcases k3 with⟨_,t',_,_,e⟩|⟨id',o',_,_,k5,_⟩
    .cases e
    .exact k5 t c rfl _
   .exact hokv (by rw[hb];exact h0.Az.bx id t c k3)
 simp only[aQ];refine⟨⟨φ1,fun i hi=>hold i (by omega),⟨⟨?_,fun t v hv=>?_,hR.rx.size,hR.rx.defers,fun i c1 v hi hv=>?_⟩,fun i hi=>?_,fun id lo o h1 h2=>?_,⟨?_,fun t v hv=>?_⟩,fun c1 hc1=>?_⟩⟩,?_⟩
 .exact hI
 .rcases hfnd t v hv with⟨v',k1,k2⟩|rfl|⟨k1,k2⟩
  .exact hto k2 (hR.rx.gX t v' k1)
  .trivial
  .exact hlow (by rw[hb];exact h0.gX t v k2) (hE t v k1 k2)
 .obtain ⟨c,k1,k2⟩:=q3 i c1 hi;have hr:=hR.rx.gh i c v k1 hv;rcases k2 with⟨k2,rfl⟩|k2
  .exact hlow (by rw[hb];exact hg0 c k2) hr
  .exact hto k2 hr
 .have hi:b+j.os.length<=i:=hi;rw[hφ1];unfold BS;rw[if_neg (by omega)];cases hm:BI M (i-b)with|none=>rfl|some c=>have:=(hMlt _ c hm).1;omega
 .obtain ⟨l2,a1,a2,_⟩:=hI.lS id o h2;obtain rfl:=ac (h1.symm.trans a1);exact a2.BO
 .exact hsok
 .rcases hfnd t v hv with⟨v',k1,k2⟩|rfl|⟨k1,k2⟩
  .exact k2.1 _
  .trivial
  .exact hokv (by rw[hb];exact h0.gX t v k2)
 .obtain ⟨i,hi⟩:=List.getElem?_of_mem hc1;obtain⟨c,k1,k2⟩:=q3 i c1 hi;rcases k2 with⟨k2,rfl⟩|k2
  .exact hokv (by rw[hb];exact hg0 c k2)
  .exact k2.1 _
 .refine ⟨by show s0.next<=b+j.os.length;omega,⟨hh.map (·.1)++j.kl,by simp,fun id hid=>?_⟩,fun id h1 h2=>?_⟩
  .simp only[aF,not_or]at hid;show fO (hh++(j.kl.map (fun i=>(i,none))++s0.heap)) id=_;rw[p9];simp only[up,qN hid.1];rw[p9];simp only[up,uY,if_neg hid.2]
  .show fO (hh++(j.kl.map (fun i=>(i,none))++s0.heap)) id=_;rw[p9];simp only[up,hnone id (by omega)];rw[p9];simp only[up,uY,if_neg h2]
end
section
variable{S K:Nat->Prop}{w0 w:World}{φ φ1:fM}{gv:List Value}{nt:Nat}{a:Act}{s0 s s1:S2}{j:J}{ds:List Nat}{l:List V}{H H1:Hf}
theorem vZ.WE(hI:Inv S K w0 φ (fO s.heap) w):uE φ s.heap:=fun id l o h1 h2=>by obtain⟨l2,a1,a2,_⟩:=hI.lS id o h2;obtain rfl:=ac (h1.symm.trans a1);exact a2.BO
theorem UC{t id ver lo v:Nat}{u ut:Ty}{x:Sl (El u)}{q:Sl (El ut)}(hR:vZ S K w0 φ gv nt s a w)(ht:gB s.gX t=some (.sb id ver lo u x))(ho:fO s.heap id=some (.ar ut q v))(hd:kS u=true)(hv:v=ver):
  ∃φ',(∀i,i<s.next->φ' i=φ i)/\vZ S K w0 φ' gv nt ⟨(t,.so s.next)::s.gX,(s.next,some (.ar u x 0))::(id,none)::s.heap,s.next+1,s.next::id::s.wo,s.gh⟩ a w/\Fr s ⟨(t,.so s.next)::s.gX,(s.next,some (.ar u x 0))::(id,none)::s.heap,s.next+1,s.next::id::s.wo,s.gh⟩:=by
 subst hv;have hI:=hR.rx.inv;have hid:=hR.ok.Az.lt _ _ ho;have hrw:=hR.rx.gX t _ ht;have hc:=R1.fT (v:=.sb id v lo u x) hrw;have hok:=hR.ok.gX t _ ht
 have hsb:SO s.heap u id v x=some ([.x (.sl u) x],[id]):=by
  have e1:dR (.sl u) (.sl u) x=some x:=by simp[dR]
  simp only[SO,ho,beq_self_eq_true,cond_true,e1]
 obtain⟨fp,f1,f2⟩:=KQ hI hsb hc (fun i _=>rfl) hok;obtain⟨l2,o1,o2,o3⟩:=hI.lS id _ ho
 have key:∃lo',RO S w .z lo' (.ar u x 0)/\yH lo' 0 lo'.n [a.tmps.getD t undef]/\∀b∈ob w lo' (.ar u x 0),b∈fp:=by
  obtain⟨sv,e,hcase⟩:=f1;have e:=(List.cons.inj e).1;cases e;rcases hcase with⟨e1,e2,rfl⟩|⟨lo',c1,c2,rfl⟩
  .have e1':x=(Sl.nil:Sl (El u)):=e1;subst e1';obtain⟨l3,k1,k2,_⟩:=hc;obtain rfl:=ac (k1.symm.trans o1);have eu:ut=u:=o2.1.symm.trans k2;subst eu;exact⟨⟨0,0,0,0,ut,none⟩,⟨rfl,rfl,o2.2.2.1,o2.2.2.2.1,fun r e=>by cases e⟩,e2,by simp[ob]⟩
  .exact ⟨lo',c1,c2,fun b hb=>hb⟩
 obtain⟨lo',k1,k2,k3⟩:=key;have hnx:=hR.we s.next (aq _)
 have hkill:Inv S K w0 φ (up (fO s.heap) [(id,none)]) w:=hI.BZ fun i o h=>by
  rw[bC]at h;split at h
  .cases h
  .exact h
 have hren:=mg (φ:=φ) lo' hnx
 have hI2:Inv S K w0 (ext φ s.next lo') (up (up (fO s.heap) [(id,none)]) [(s.next,some (.ar u x 0))]) w:=by
  refine hkill.lay hren (fg _ _ _) k1.z fun b hb=>?_;obtain⟨i,hi,o,lo2,p1,p2,p3⟩:=f2.2 b (k3 b hb);obtain rfl:=List.mem_singleton.1 hi;rw[ho]at p1;cases p1;obtain rfl:=ac (o1.symm.trans p2);obtain⟨c1,c2,c3⟩:=o3 b p3;refine⟨c1,c2,c3,fun j' a' m' _ q1 q2 q3=>?_⟩;rw[bC]at q1;split at q1
  .cases q1
  .rename_i hne;exact hI.iY i j' _ a' l2 m' ho q1 o1 q2 hne b p3 q3
 have eH:fO ((s.next,some (O.ar u x 0))::(id,none)::s.heap)=up (up (fO s.heap) [(id,none)]) [(s.next,some (.ar u x 0))]:=by rw[<-jA,<-p9];rfl
 have hu:jS s.next s.heap [(s.next,some (O.ar u x 0)),(id,none)]:=jS.cons (fun _ _=>.inl (aq _)) (jS.cons (fun _ e=>by cases e) jS.nil);have fe:xX s.next s.heap ((s.next,some (O.ar u x 0))::(id,none)::s.heap):=hu.fe;refine⟨ext φ s.next lo',fun i hi=>by simp only[ext];rw[if_neg (by omega)],⟨⟨by show Inv _ _ _ _ (fO ((s.next,some (O.ar u x 0))::(id,none)::s.heap)) _;rw[eH];exact hI2,fun t' v' hv'=>?_,hR.rx.size,hR.rx.defers,fun i c v h1 h2=>(hR.rx.gh i c v h1 h2).mono (gC.refl _ _) hren⟩,fun i hi=>?_,?_,⟨?_,fun t' v' hv'=>?_⟩,fun c hc=>dQ (aO _) fe (hR.Ub c hc)⟩,⟨aO _,[s.next,id],rfl,fun i hi=>?_⟩⟩
 .simp only[jN]at hv';split at hv'
  .rename_i e;subst e;cases hv';exact R1.rw (R1.wC (v:=.so s.next) ⟨lo',fg _ _ _,k2⟩ rfl)
  .exact (hR.rx.gX t' v' hv').mono (gC.refl _ _) hren
 .have hi:s.next+1<=i:=hi;simp only[ext];rw[if_neg (by omega)];exact hR.we i (by omega)
 .refine vZ.WE (s:=⟨(t,.so s.next)::s.gX,(s.next,some (.ar u x 0))::(id,none)::s.heap,s.next+1,s.next::id::s.wo,s.gh⟩) (w0:=w0) (K:=K) (w:=w) (S:=S) ?_;show Inv _ _ _ _ (fO ((s.next,some (O.ar u x 0))::(id,none)::s.heap)) _;rw[eH];exact hI2
 .exact hR.ok.Az.gM (aO _) hu (fun p hp=>by
   simp only[aI,aW,or_false]at hp;rcases hp with rfl|rfl
   .exact .inl ⟨aM _,trivial⟩
   .exact .inr rfl) (fun p hp t c e=>by
   simp only[aI,aW,or_false]at hp;rcases hp with rfl|rfl<;>cases e)
 .simp only[jN]at hv';split at hv'
  .cases hv';exact aM s.next
  .exact dQ (aO _) fe (hR.ok.gX t' v' hv')
 .simp only[aI,aW,or_false,not_or]at hi;show fO ((s.next,some (O.ar u x 0))::(id,none)::s.heap) i=_;simp[fO,jN,Ne.symm hi.1,Ne.symm hi.2]
theorem UA:∀{vs:List (Nat×JV)}{s:S2}{φ:fM},vZ S K w0 φ gv nt s a w->∃φ',(∀i,i<s.next->φ' i=φ i)/\vZ S K w0 φ' gv nt (EC vs s) a w/\Fr s (EC vs s):=by
 intro vs;induction vs with
 |nil=>intro s φ hR;exact⟨φ,fun _ _=>rfl,hR,Fr.refl _⟩
 |cons p vs ih=>
  obtain⟨t,jv⟩:=p;intro s φ hR;cases jv with
  |so jj=>
   simp only[EC];split
   .rename_i id ver lo u x ht;split
    .rename_i ut q v ho;cases e:(kS u&&v==ver)with|false=>exact ih hR|true=>simp only[aw,beq_iff_eq]at e;obtain⟨φ1,h1,h2,h3⟩:=UC hR ht ho e.1 e.2;obtain⟨φ2,h4,h5,h6⟩:=ih h2;exact⟨φ2,fun i hi=>(h4 i (by show i<s.next+1;omega)).trans (h1 i hi),h5,h3.trans h6⟩
    .exact ih hR
   .exact ih hR
  |_=>exact ih hR
theorem Ga(hR:vZ S K w0 φ gv nt s a w)(h0:KU s0.next s0.heap (gB s0.gX))(hg0:∀c∈iA s0.gh,dZ s0.next s0.heap c)(hle:s0.next<=s.next)(hW:∀id,id<s0.next->id∉s.wo->id∉j.kl->fO s.heap id=fO s0.heap id)
  (hE:∀t v,t∉ds->gB s0.gX t=some v->RW S w φ v (a.tmps.getD t undef)) (hc:ww j s0 s=some l) (hr:vz j ds s0 l=some s1):(∃φ1,(∀i,i<s0.next->φ1 i=φ i)/\vZ S K w0 φ1 gv nt s1 a w)/\X3 j s0 s1:=by
 obtain⟨φ',h1,h2,h3⟩:=UA (vs:=j.vs) hR;obtain⟨W,e1,e2⟩:=h3.wo;have hc2:Mi j s0 (EC j.vs s)=some l:=by unfold ww at hc;exact hc
 obtain⟨⟨φ1,g1,g2⟩,g3⟩:=QL h2 h0 hg0 (bg hle h3.le) (fun id a b c=>by rw[e1]at b;simp only[aF,not_or]at b;rw[e2 id b.1];exact hW id a b.2 c) (fun t v a b=>(hE t v a b).OC (n:=s0.next) (h:=s0.heap) (fun i hi=>h1 i (by omega)) (h0.gX t v b)) hc2 hr;exact⟨⟨φ1,fun i hi=>(g1 i hi).trans (h1 i (by omega)),g2⟩,g3⟩
end
section
variable{P:Program}{S K:Nat->Prop}{w0 w:World}{φ:fM}{gv:List Value}{nt:Nat}{a:Act}{aR:Cu}{tb:EE}{lp:Lp}{β:Type}
theorem yW{c:Code}{Q:Exit->Act->World->Prop}(J:Nat->Act->World->Prop)(n:Nat)(h₀:J n a w)
  (round:∀n a w,J n a w->c.wp P (Exit.then (fun a w=>∃m,m<n/\J m a w) Q) a w):(Code.loop c).wp P Q a w:=by
 intro b k cs
 have key:∀n a w,J n a w->∃e a' w',Q e a' w'/\Arrives P (lone (b.at a (.code c::.inLoop c::k)) cs w) b k cs e a' w':=by
  intro n;induction n using Nat.strongRecOn with
  |_ n ih=>intro a w hJ;obtain⟨e,a₁,w₁,hq,harr⟩:=round n a w hJ b (.inLoop c::k) cs;cases e with|normal=>obtain⟨m,hlt,hq⟩:=hq;obtain⟨e₂,a₂,w₂,hq₂,harr₂⟩:=ih m hlt a₁ w₁ hq;exact⟨e₂,a₂,w₂,hq₂,.of_steps (Steps.trans harr (.one step_inLoop)) harr₂⟩|exit id=>exact⟨_,a₁,w₁,hq,.pass (x:=.inLoop c) rfl (fun _ _=>.inl (by simp)) harr⟩|goto l=>exact⟨_,a₁,w₁,hq,.pass (x:=.inLoop c) rfl (fun _ _=>.inl (by simp)) harr⟩|ret=>exact⟨_,a₁,w₁,hq,.pass (x:=.inLoop c) rfl (fun _ _=>.inl (by simp)) harr⟩|panic ch=>exact⟨_,a₁,w₁,hq,.pass (x:=.inLoop c) rfl (fun _ _=>.inl (by simp)) harr⟩|outgrown=>exact⟨_,a₁,w₁,hq,.pass (x:=.inLoop c) rfl (fun _ _=>.inl (by simp)) harr⟩
 obtain⟨e,a',w',hq,harr⟩:=key n a w h₀;exact⟨e,a',w',hq,.of_steps (.one step_loop) harr⟩
theorem LQ{ds:List Nat}{s s':S2}{o:og}{k:og->S2->Option β}{r:β}:∀{e:Ex}{x:Jc e},It s o s' e=some x->HJ ds s k e x=some r->∃j l s1,(o,j)∈e/\ww j s s'=some l/\vz j ds s l=some s1/\k o s1=some r:=by
 have one:∀{o':og}{j:J}{p:xV (pZ j)},(match ww j s s' with|some l=>wG (pZ j) l|none=>none)=some p->(match vz j ds s (vg (pZ j) p)with|some s=>k o' s|none=>none)=some r->o=o'->∃l s1,ww j s s'=some l/\vz j ds s l=some s1/\k o s1=some r:=by
  intro o' j p h1 h2 h3;subst h3;split at h1<;>first|(cases h1;done)|skip
  rename_i l hl;rw[tJ h1]at h2;split at h2<;>first|(cases h2;done)|skip
  rename_i s1 hs;exact⟨l,s1,hl,hs,h2⟩
 have key:∀(e:Ex)(o':og)(j:J)(x:Jc.Ot j e),T3 s o s' o' j e=some x->WP ds s k o' j e x=some r->∃j2 l s1,(o,j2)∈(o',j)::e/\ww j2 s s'=some l/\vz j2 ds s l=some s1/\k o s1=some r:=by
  intro e;induction e with
  |nil=>intro o' j x h1 h2;obtain⟨e1,h3⟩:=aC (show(bif decide (o=o')then(match ww j s s' with|some l=>wG (pZ j) l|none=>none)else none)=some x from h1);obtain⟨l,s1,q1,q2,q3⟩:=one h3 h2 (of_decide_eq_true e1);exact⟨j,l,s1,by rw[of_decide_eq_true e1];simp,q1,q2,q3⟩
  |cons p e ih=>
   obtain⟨o2,j2⟩:=p;intro o' j x h1 h2;simp only[Jc.Ot,T3]at h1;cases e1:decide (o=o')with
   |true=>
    rw[e1]at h1;simp only[cond_true]at h1;split at h1<;>first|(cases h1;done)|skip
    rename_i l hl;split at h1<;>cases h1;rename_i p hp;obtain⟨l,s1,q1,q2,q3⟩:=one (p:=p) (by rw[hl];exact hp) h2 (of_decide_eq_true e1);exact⟨j,l,s1,by rw[of_decide_eq_true e1];simp,q1,q2,q3⟩
   |false=>rw[e1]at h1;simp only[cond_false]at h1;split at h1<;>cases h1;rename_i y hy;obtain⟨j3,l,s1,q0,q1,q2,q3⟩:=ih o2 j2 y hy h2;exact⟨j3,l,s1,bd _ q0,q1,q2,q3⟩
 intro e x h1 h2;cases e with|nil=>exact nomatch x|cons p e=>exact key e p.1 p.2 x h1 h2
theorem vZ.wo{s:S2}{W:List Nat}(h:vZ S K w0 φ gv nt s a w):vZ S K w0 φ gv nt {s with wo:=W} a w:=⟨⟨h.rx.inv,h.rx.gX,h.rx.size,h.rx.defers,h.rx.gh⟩,h.we,h.BO,⟨h.ok.Az,h.ok.gX⟩,h.Ub⟩
theorem xU.trans{S':Nat->Prop}{w':World}{φ':fM}{a1:Act}{d1 d2 ds:List Nat}{s s1:S2}{k:og->S2->Option β}{r:β}{e:Exit}{a':Act}{w'':World}(hs:gC S w S' w')(hk:kV d1 s.next φ φ' a a1)(hf:Fr s s1)(hd:∀t,t∈d1\/t∈d2->t∈ds)(hp:xU S' K w0 w' φ' a1 gv nt d2 s1 k r e a' w''):xU S K w0 w φ a gv nt ds s k r e a' w'':=by obtain⟨o,s',h1,h2,h3,S'',φ'',h4,h5,h6⟩:=hp;exact⟨o,s',h1,h2,hf.trans h3,S'',φ'',hs.trans h4,(hk.trans h5 hf.le).sub (by intro t ht;exact hd t (aF.1 ht)),h6⟩
theorem xU.sub{d1 ds:List Nat}{s:S2}{k:og->S2->Option β}{r:β}{e:Exit}{a':Act}{w':World}(hd:∀t∈d1,t∈ds)(hp:xU S K w0 w φ a gv nt d1 s k r e a' w'):xU S K w0 w φ a gv nt ds s k r e a' w':=by obtain⟨o,s',h1,h2,h3,S',φ',h4,h5,h6⟩:=hp;exact⟨o,s',h1,h2,h3,S',φ',h4,h5.sub hd,h6⟩
theorem Dn{s:S2}{S':Nat->Prop}{w':World}{φ':fM}{a':Act}{ds:List Nat}(hR:vZ S K w0 φ gv nt s a w)(hs:gC S w S' w')(hk:kV ds s.next φ φ' a a'):∀t v,t∉ds->gB s.gX t=some v->RW S' w' φ' v (a'.tmps.getD t undef):=fun t v ht hv=>by rw[hk.tmp t ht];exact((hR.rx.gX t v hv).mono hs (Ren.refl φ)).OC (n:=s.next) (h:=s.heap) hk.S_ (hR.ok.gX t v hv)
theorem AW{j:J}{ds:List Nat}{l:List V}{s s' s1:S2}{S':Nat->Prop}{w':World}{φ':fM}{a':Act}{k:og->S2->Option β}{r:β}{o:og}(hR:vZ S K w0 φ gv nt s a w)(hR':vZ S' K w0 φ' gv nt s' a' w')(hs:gC S w S' w')(hk:kV ds s.next φ φ' a a')(hle:s.next<=s'.next)
  (hW:∀id,id<s.next->id∉s'.wo->id∉j.kl->fO s'.heap id=fO s.heap id) (hc:ww j s s'=some l) (hr:vz j ds s l=some s1) (hk1:k o s1=some r):xU S K w0 w φ a gv nt ds s k r (Ni o) a' w':=by
 obtain⟨⟨φ1,h1,h2⟩,h3⟩:=Ga hR' hR.ok hR.Ub hle hW (Dn hR hs hk) hc hr;exact⟨o,s1,hk1,rfl,⟨h3.le,h3.wo⟩,S',φ1,hs,⟨hk.tmp,fun i hi=>(h1 i hi).trans (hk.S_ i hi)⟩,h2⟩
theorem PL(hT:qc P tb)(hnt:nt<1000000000)(hm:P.follows .mixedOrders=true){ops:Array Oper}{draw:Bool}{id:Nat}{m:List Nat}{dr:Option (List (Nat×Nat))}{s:S2}{k:S2->Option β}{r:β}(hd:(draw=false/\dr=none)\/(draw=true/\Bu m ops.toList 0=true/\Bs m (ops.toList.map (b9 P aR nt ops)) 0=true/\ops.size<=1000/\dr=some (vQ m (ops.toList.map (b9 P aR nt ops)) 0)))
  (hR:vZ S K w0 φ gv nt s a w) (h:zX tb (ops.toList.map (ur P aR nt ops)) dr s k=some r):
  Code.wp P (.region id ops draw) (fun e a' w'=>e=.normal/\∃s',k s'=some r/\Fr s s'/\∃S' φ',gC S w S' w'/\kV (ops.toList.filterMap (·.dst)) s.next φ φ' a a'/\vZ S' K w0 φ' gv nt s' a' w') a w:=by
 rcases hd with⟨rfl,rfl⟩|⟨rfl,h1,h2,h3,rfl⟩
 .exact wp_region (S4 hT hnt (e0:=[]) hR h)
 .exact wp_region_any hm (S5 hT hnt h1 h2 h3 hR h)
theorem DH{ops:Array Oper}:(ops.toList.map (ur P aR nt ops)).filterMap (·.o.dst)=ops.toList.filterMap (·.dst):=by rw[List.filterMap_map];rfl
theorem UF(hT:qc P tb)(hnt:nt<1000000000)(hm:P.follows .mixedOrders=true){an:List (Nat×An)}:∀(code:Code)(n:Nat){S:Nat->Prop}{φ:fM}{s:S2}{a:Act}{w:World}{β:Type}{k:og->S2->Option β}{r:β},
  yf lp tb (ny P aR nt an code n).1 s k=some r->vZ S K w0 φ gv nt s a w->code.wp P (xU S K w0 w φ a gv nt (nC (ny P aR nt an code n).1) s k r) a w:=by
 have done:∀{S:Nat->Prop}{φ:fM}{s:S2}{a:Act}{w:World}{β:Type}{k:og->S2->Option β}{r:β}{o:og}{ds:List Nat},k o s=some r->vZ S K w0 φ gv nt s a w->xU S K w0 w φ a gv nt ds s k r (Ni o) a w:=fun{S φ s a w β k r o ds}h hR=>⟨o,s,h,rfl,Fr.refl _,S,φ,gC.refl _ _,kV.refl _ _ _ _,hR⟩;intro code;induction code with
 |skip=>intro n S φ s a w β k r h hR;exact wp_skip (done (o:=.normal) h hR)
 |region id ops draw=>
  intro n S φ s a w β k r h hR
  have go:∀{dr:Option (List (Nat×Nat))}{jn:Option J}{m:List Nat},((draw=false/\dr=none)\/(draw=true/\Bu m ops.toList 0=true/\Bs m (ops.toList.map (b9 P aR nt ops)) 0=true/\ops.size<=1000/\dr=some (vQ m (ops.toList.map (b9 P aR nt ops)) 0)))->
    yf lp tb (.X9 (ops.toList.map (ur P aR nt ops)) dr jn) s k=some r->Code.wp P (.region id ops draw) (xU S K w0 w φ a gv nt (ops.toList.filterMap (·.dst)) s k r) a w:=by
   intro dr jn m hd h;cases jn with
   |none=>refine wp_mono (PL hT hnt hm hd hR (show zX tb (ops.toList.map (ur P aR nt ops)) dr s (fun s=>k .normal s)=some r from h)) fun e a' w'⟨h1,s',h2,h3,S',φ',h4,h5,h6⟩=>?_;exact⟨.normal,s',h2,h1,h3,S',φ',h4,h5,h6⟩
   |some j=>
    obtain⟨p,hp,h2⟩:=tn (show(zX tb (ops.toList.map (ur P aR nt ops)) dr {s with wo:=[]} fun s'=>match ww j s s' with|some l=>wG (pZ j) l|none=>none).bind (fun p=>match vz j ((ops.toList.map (ur P aR nt ops)).filterMap (·.o.dst)) s (vg (pZ j) p)with|some s=>k .normal s|none=>none)=some r from h);split at h2<;>first|(cases h2;done)|skip
    rename_i s1 hs1;rw[DH]at hs1;refine wp_mono (PL hT hnt hm hd (hR.wo (W:=[])) hp) fun e a' w'⟨h1,s',h3,h4,S',φ',h5,h6,h7⟩=>?_;split at h3<;>first|(cases h3;done)|skip
    rename_i l hl;rw[tJ h3]at hs1;obtain⟨W,e1,e2⟩:=h4.wo;rw[h1];exact AW (o:=.normal) hR h7 h5 h6 h4.le (fun id _ hid _=>e2 id (by rw[e1]at hid;simpa using hid)) hl hs1 h2
  simp only[ny]at h|-;cases draw with
  |false=>simp only[Bool.false_eq_true,if_false]at h|-;have:=go (m:=[]) (.inl ⟨rfl,rfl⟩) h;simpa only[nC,DH]using this
  |true=>
   simp only[if_true]at h|-;split at h
   .rename_i hc;rw[if_pos hc];simp only[aw,decide_eq_true_eq]at hc;have:=go (m:=R3 ops.toList []) (.inr ⟨rfl,hc.1.1,hc.1.2,by simpa using hc.2,rfl⟩) h;simpa only[nC,DH]using this
   .cases h
 |seq x y ihx ihy=>
  intro n S φ s a w β k r h hR;simp only[ny]at h|-;refine wp_seq ?_;obtain⟨X,hX⟩:∃X,X=ny P aR nt an x (n+1):=⟨_,rfl⟩
  obtain⟨Y,hY⟩:∃Y,Y=ny P aR nt an y X.2:=⟨_,rfl⟩
  rw[<-hX,<-hY]at h|-
  have wu:∀{o:og}{s':S2}{S':Nat->Prop}{φ':fM}{a':Act}{w':World},(match o with|.normal=>yf lp tb Y.1 s' k|o=>k o s')=some r->Fr s s'->gC S w S' w'->kV (nC X.1) s.next φ φ' a a'->vZ S' K w0 φ' gv nt s' a' w'->
    Exit.then (Code.wp P y (xU S K w0 w φ a gv nt (nC X.1++nC Y.1) s k r)) (xU S K w0 w φ a gv nt (nC X.1++nC Y.1) s k r) (Ni o) a' w':=by
   intro o s' S' φ' a' w' h1 h2 h3 h4 h5;cases o with|normal=>have:=ihy X.2 (by rw[<-hY];exact h1) h5;rw[<-hY]at this;exact wp_mono this fun e a'' w'' hp=>hp.trans h3 h4 h2 fun t ht=>by simpa using ht|exit id=>exact⟨.exit id,s',h1,rfl,h2,S',φ',h3,h4.sub fun t ht=>by simp[ht],h5⟩|ret=>exact⟨.ret,s',h1,rfl,h2,S',φ',h3,h4.sub fun t ht=>by simp[ht],h5⟩
  have main:∀ex:Ex,yf lp tb (.seq X.1 Y.1 ex) s k=some r->Code.wp P x (Exit.then (Code.wp P y (xU S K w0 w φ a gv nt (nC X.1++nC Y.1) s k r)) (xU S K w0 w φ a gv nt (nC X.1++nC Y.1) s k r)) a w:=by intro ex h;cases ex with|nil=>have:=ihx (n+1) (by rw[<-hX];exact(show yf lp tb X.1 s (fun o s=>match o with|.normal=>yf lp tb Y.1 s k|o=>k o s)=some r from h)) hR;rw[<-hX]at this;refine wp_mono this fun e a' w'⟨o,s',h1,h2,h3,S',φ',h4,h5,h6⟩=>?_;rw[h2];exact wu h1 h3 h4 h5 h6|cons ej es=>obtain⟨z,hz,h2⟩:=tn (show(yf lp tb X.1 {s with wo:=[]} fun o s'=>It s o s' (ej::es)).bind (fun z=>HJ (nC X.1) s (fun o s=>match o with|.normal=>yf lp tb Y.1 s k|o=>k o s) (ej::es) z)=some r from h);have:=ihx (n+1) (by rw[<-hX];exact hz) (hR.wo (W:=[]));rw[<-hX]at this;refine wp_mono this fun e a' w'⟨o,s',h3,h4,h5,S',φ',h6,h7,h8⟩=>?_;obtain⟨j,l,s1,q0,q1,q2,q3⟩:=LQ h3 h2;obtain⟨W,e1,e2⟩:=h5.wo;obtain⟨o2,s2,p1,p2,p3,S2,φ2,p4,p5,p6⟩:=AW (o:=o) (k:=fun o s=>match o with|.normal=>yf lp tb Y.1 s k|o=>k o s) hR h8 h6 h7 h5.le (fun id _ hid _=>e2 id (by rw[e1]at hid;simpa using hid)) q1 q2 q3;rw[h4,p2];exact wu p1 p3 p4 p5 p6
  exact main _ h
 |cond c x y ihx ihy=>
  intro n S φ s a w β k r h hR;simp only[ny]at h|-;obtain⟨X,hX⟩:∃X,X=ny P aR nt an x n:=⟨_,rfl⟩
  obtain⟨Y,hY⟩:∃Y,Y=ny P aR nt an y X.2:=⟨_,rfl⟩
  rw[<-hX,<-hY]at h|-;have wu:∀{v:V}{t:Bool},Nr s.gX s.heap c=some v->oA v=some (.bool t)->(bif t then yf lp tb X.1 s k else yf lp tb Y.1 s k)=some r->Code.wp P (.cond c x y) (xU S K w0 w φ a gv nt (nC X.1++nC Y.1) s k r) a w:=by intro v t h1 h2 h3;obtain⟨q1,_⟩:=FZ (n:=s.next) (E:=gB s.gX) (fun t v h=>.inr h) hR.ok.gX h1;have hv:=rM h2 (q1.rw hR.rx.gX hR.rx.inv.Kr);refine wp_cond hv ?_;cases t with|true=>have:=ihx n (by rw[<-hX];exact h3) hR;rw[<-hX]at this;exact wp_mono this fun _ _ _ hp=>hp.sub fun t ht=>by simp[ht]|false=>have:=ihy X.2 (by rw[<-hY];exact h3) hR;rw[<-hY]at this;exact wp_mono this fun _ _ _ hp=>hp.sub fun t ht=>by simp[ht]
  change (match Nr s.gX s.heap c with
   |some (.kb t)=>bif t then yf lp tb X.1 s k else yf lp tb Y.1 s k
   |some (.x .b t)=>bif t then yf lp tb X.1 s k else yf lp tb Y.1 s k
   |_=>none)=some r at h
  split at h<;>first|(cases h;done)|skip
  .rename_i t h1;exact wu h1 rfl h
  .rename_i t h1;exact wu h1 rfl h
 |block id x ih=>
  intro n S φ s a w β k r h hR;simp only[ny]at h|-;obtain⟨X,hX⟩:∃X,X=ny P aR nt an x n:=⟨_,rfl⟩
  rw[<-hX]at h|-;have:=ih n (by rw[<-hX];exact(show yf lp tb X.1 s (fun o s=>match o with|.exit i=>k (bif i==id then .normal else .exit i) s|o=>k o s)=some r from h)) hR;rw[<-hX]at this;refine wp_block (wp_mono this fun e a' w'⟨o,s',h1,h2,h3,hp⟩=>?_);rw[h2];cases o with
  |normal=>exact⟨.normal,s',h1,rfl,h3,hp⟩
  |ret=>exact⟨.ret,s',h1,rfl,h3,hp⟩
  |exit id'=>
   simp only[Ni,Exit.inBlock];simp only at h1;by_cases hid:id'=id
   .rw [if_pos hid];rw[show(id'==id)=true by simpa using hid]at h1;exact⟨.normal,s',h1,rfl,h3,hp⟩
   .rw [if_neg hid];rw[show(id'==id)=false by simpa using hid]at h1;exact⟨.exit id',s',h1,rfl,h3,hp⟩
 |loop x ih=>
  intro n S φ s a w β k r h hR;simp only[ny]at h|-;obtain⟨X,hX⟩:∃X,X=ny P aR nt an x (n+1):=⟨_,rfl⟩
  rw[<-hX]at h|-;split at h<;>first|(cases h;done)|skip
  rotate_left
  .rename_i u _;refine yW (fun m a1 w1=>∃s1 S1 φ1,Wm (fun s k=>yf lp tb X.1 s k) m s1 k=some r/\Fr s s1/\gC S w S1 w1/\kV (nC X.1) s.next φ φ1 a a1/\vZ S1 K w0 φ1 gv nt s1 a1 w1) (u+1) ⟨s,S,φ,h,Fr.refl _,gC.refl _ _,kV.refl _ _ _ _,hR⟩ ?_;intro m a1 w1 hJ;obtain⟨s1,S1,φ1,hr,hf,hs,hk,hR1⟩:=hJ;cases m with
   |zero=>cases hr
   |succ m=>have:=ih (n+1) (by rw[<-hX];exact hr) hR1;rw[<-hX]at this;refine wp_mono this fun e' a' w' hpost=>?_;obtain⟨o,s',h1,h2,h3,S',φ',h4,h5,h6⟩:=hpost;have hkk:kV (nC X.1) s.next φ φ' a a':=(hk.trans h5 hf.le).sub (by simp);rw[h2];cases o with|normal=>exact⟨m,aM _,s',S',φ',h1,hf.trans h3,hs.trans h4,hkk,h6⟩|exit id=>exact⟨.exit id,s',h1,rfl,hf.trans h3,S',φ',hs.trans h4,hkk,h6⟩|ret=>exact⟨.ret,s',h1,rfl,hf.trans h3,S',φ',hs.trans h4,hkk,h6⟩
  rename_i j e _ hj
  obtain⟨hkl,h2⟩:=aC (show(bif e.all (fun x=>j.kl.all fun i=>x.2.kl.contains i)then(match ww j s {s with wo:=[]}with
   |some l=>(match wG (pZ j) l with
    |some p0=>(lp.run (fun p=>match vz j (nC X.1) s (vg (pZ j) p)with
      |some s1=>yf lp tb X.1 {s1 with wo:=[]} fun o s'=>(match o with
       |.normal=>(match ww j s s' with|some l=>(match wG (pZ j) l with|some q=>some (Sum.inl q)|none=>none)|none=>none)
       |o=>(match It s o s' e with|some x=>some (Sum.inr x)|none=>none))
      |none=>none) p0).bind fun x=>HJ (nC X.1) s k e x
    |none=>none)
   |none=>none)else none)=some r from h)
  clear h;split at h2<;>first|(cases h2;done)|skip
  rename_i l0 hl0;split at h2<;>first|(cases h2;done)|skip
  rename_i p0 hp0;obtain⟨z,hz,hout⟩:=tn h2;obtain⟨N,hN⟩:=lp.ok hz
  refine yW (fun m a1 w1=>∃p S1 φ1,oF (fun p=>match vz j (nC X.1) s (vg (pZ j) p)with
      |some s1=>yf lp tb X.1 {s1 with wo:=[]} fun o s'=>(match o with
       |.normal=>(match ww j s s' with|some l=>(match wG (pZ j) l with|some q=>some (Sum.inl q)|none=>none)|none=>none)
       |o=>(match It s o s' e with|some x=>some (Sum.inr x)|none=>none))
      |none=>none) m p=some z/\gC S w S1 w1/\kV (nC X.1) s.next φ φ1 a a1/\∀s1,vz j (nC X.1) s (vg (pZ j) p)=some s1->vZ S1 K w0 φ1 gv nt s1 a1 w1/\X3 j s s1) N ?_ ?_
  .cases hr1:vz j (nC X.1) s (vg (pZ j) p0)with|none=>exact⟨p0,S,φ,hN,gC.refl _ _,kV.refl _ _ _ _,fun s1 e=>by rw[hr1]at e;cases e⟩|some s1=>have e1:=tJ hp0;rw[e1]at hr1;obtain⟨⟨φ1,h1,h2⟩,h3⟩:=Ga (hR.wo (W:=[])) hR.ok hR.Ub (aq _) (fun _ _ _ _=>rfl) (Dn hR (gC.refl _ _) (kV.refl _ _ _ _)) hl0 hr1;exact⟨p0,S,φ1,hN,gC.refl _ _,⟨fun _ _=>rfl,h1⟩,fun s2 e=>by rw[e1,hr1]at e;cases e;exact⟨h2,h3⟩⟩
  .intro m a1 w1 hJ;obtain⟨p,S1,φ1,hr,hs,hk,hrel⟩:=hJ;cases m with
   |zero=>cases hr
   |succ m=>
    simp only[oF]at hr;cases hr1:vz j (nC X.1) s (vg (pZ j) p)with
    |none=>rw[hr1]at hr;cases hr
    |some s1=>
     obtain⟨hR1,hJE⟩:=hrel s1 hr1;rw[hr1]at hr;simp only at hr
     obtain⟨fp,hfp⟩:∃fp,(yf lp tb X.1 {s1 with wo:=[]} fun o s'=>(match o with
       |.normal=>(match ww j s s' with|some l=>(match wG (pZ j) l with|some q=>some (Sum.inl q)|none=>none)|none=>none)
       |o=>(match It s o s' e with|some x=>some (Sum.inr x)|none=>none)))=some fp:=by
      split at hr
      .rename_i h;exact⟨_,h⟩
      .rename_i h;exact⟨_,h⟩
      .cases hr
     rw[hfp]at hr;have:=ih (n+1) (by rw[<-hX];exact hfp) (hR1.wo (W:=[]));rw[<-hX]at this;refine wp_mono this fun e' a' w' hpost=>?_;obtain⟨o,s',h1,h2,h3,S',φ',h4,h5,h6⟩:=hpost;have hle:s.next<=s'.next:=bg hJE.le h3.le;have hkk:kV (nC X.1) s.next φ φ' a a':=(hk.trans h5 hJE.le).sub (by simp);have hss:=hs.trans h4;obtain⟨W,w1',w2'⟩:=h3.wo;have hW:∀id,id<s.next->id∉s'.wo->id∉j.kl->fO s'.heap id=fO s.heap id:=fun id q1 q2 q3=>(w2' id (by rw[w1']at q2;simpa using q2)).trans (hJE.kl id q1 q3);have out:(match It s o s' e with|some x=>some (Sum.inr x:xV (pZ j)⊕Jc e)|none=>none)=some fp->xU S K w0 w φ a gv nt (nC X.1) s k r (Ni o) a' w':=by intro h1;split at h1<;>cases h1;rename_i x hx;cases hr;obtain⟨jx,l,s2,q0,q1,q2,q3⟩:=LQ hx hout;refine AW (o:=o) hR h6 hss hkk hle (fun id q4 q5 q6=>hW id q4 q5 fun q7=>q6 ?_) q1 q2 q3;have:=cm.1 (cm.1 hkl _ q0) id q7;simpa using this
     rw[h2];cases o with
     |exit id=>exact out h1
     |ret=>exact out h1
     |normal=>
      simp only at h1;split at h1<;>first|(cases h1;done)|skip
      rename_i l hl;split at h1<;>cases h1;rename_i q hq;simp only at hr;refine⟨m,aM _,?_⟩;cases hr2:vz j (nC X.1) s (vg (pZ j) q)with|none=>exact⟨q,S',φ',hr,hss,hkk,fun s2 e=>by rw[hr2]at e;cases e⟩|some s2=>have e1:=tJ hq;rw[e1]at hr2;obtain⟨⟨φ2,g1,g2⟩,g3⟩:=Ga h6 hR.ok hR.Ub hle hW (Dn hR hss hkk) hl hr2;exact⟨q,S',φ2,hr,hss,⟨hkk.tmp,fun i hi=>(g1 i hi).trans (hkk.S_ i hi)⟩,fun s3 e=>by rw[e1,hr2]at e;cases e;exact⟨g2,g3⟩⟩
 |exit id=>intro n S φ s a w β k r h hR;exact wp_exit (done (o:=.exit id) h hR)
 |ret=>intro n S φ s a w β k r h hR;exact wp_ret (done (o:=.ret) h hR)
 |scope x ih=>intro n S φ s a w β k r h hR;refine wp_scope_straight (wp_mono (ih n h hR) fun e a' w'⟨o,s',h1,h2,h3⟩=>?_);rw[h2];cases o<;>exact⟨_,s',h1,rfl,h3⟩
 |label l=>intro n S φ s a w β k r h hR;exact wp_label (done (o:=.normal) h hR)
 |_=>intro n S φ s a w β k r h hR;simp only[ny]at h;cases h
end
end Go.Ev
