/- Graphs: the reference's Loop. Conditions: as stated. -/
import Derived.Test.YthcplpfiidlinaaDoorJA
open Go.Ev Go
open Bool renaming and_eq_true->ai,eq_iff_iff->bT,not_true->bO
open List renaming getElem_mem->ct,length_append->ap,length_singleton->aW,mem_singleton->av
open Nat renaming le_refl->aw,lt_succ_iff_lt_or_eq->gW,zero_le->cO
open Option renaming bind_some->ae
namespace Go.Proofs.YthcplpfiidlinaaDoor.J
theorem NI{α:Type}[Inhabited α]{f:Int->Option (Sum Int (Sum Bool Unit))}(l:List α)(p:α->Bool)(hb:l.length<9223372036854775808)
  (hstep:∀i:Nat,i<l.length->f (i:Int)=some (bif p (gt l i)then .inr (.inl true)else .inl (wr .i64 ((i:Int)+1)))) (hend:f (l.length:Int)=some (.inr (.inr ()))):
  bc f 0=some (bif l.any p then .inl true else .inr ()):=by
 rw[tn l (fun _ x=>bif p x then some true else none) () hb (fun i hi=>by rw[hstep i hi];cases p (gt l i)<;>rfl) hend]
 have:∀(l:List α)(k:Nat),lP (fun _ x=>bif p x then some true else none) l k=bif l.any p then some true else none:=by
  intro l;induction l with
  |nil=>intro k;rfl
  |cons x l ih=>intro k;simp only[lP,List.any_cons];cases p x with|true=>rfl|false=>exact ih (k+1)
 rw[this];cases l.any p<;>rfl
theorem tK(s:Sl Int)(x:Int)(hb:s.l.length<1000000):rm s x=some (decide (x∈s.l)):=by
 have h:=NI (f:=pB s x) s.l (·==x) (by omega) (fun i hi=>by simp only[pB,fz hi,cond_true,bm hi,ae];cases(gt s.l i==x)<;>rfl) (by simp only[pB,gk,cond_false]);have e:s.l.any (·==x)=decide (x∈s.l):=by rw[bT];simp
 rw[e]at h;simp only[rm,h,ae];cases decide (x∈s.l)<;>rfl
instance(l:List aS)(i j:Nat):Decidable (Ed l i j):=by unfold Ed;infer_instance
theorem wW(l:Sl bD)(a b:Nat)(hb:l.l.length<1000000):mA l (a:Int) (b:Int)=some (decide (Ed l.l a b)):=by
 have h:=NI (f:=jx l (a:Int) (b:Int)) l.l (fun e=>e.1==(a:Int)&&e.2==(b:Int)) (by omega) (fun i hi=>by
  simp only[jx,fz hi,cond_true,bm hi,ae];show((bif((gt l.l i).1==(a:Int))then(some ((gt l.l i).2==(b:Int)):Option Bool)else some false).bind _)=_;cases((gt l.l i).1==(a:Int))with
  |true=>cases((gt l.l i).2==(b:Int))<;>rfl
  |false=>rfl) (by simp only[jx,gk,cond_false])
 have e:(l.l.any fun e=>e.1==(a:Int)&&e.2==(b:Int))=decide (Ed l.l a b):=by rw[bT,decide_eq_true_eq (p:=Ed l.l a b)];simp only[List.any_eq_true,ai,beq_iff_eq];exact Iff.rfl
 rw[e]at h;simp only[mA,h,ae];cases decide (Ed l.l a b)<;>rfl
theorem xk{n:Int}{l:Sl bD}(hb:l.l.length<1000000)(hF:tZ n l.l):qF n l=some true:=by
 have h:=Av (f:=m8 n l) l.l (fun _=>false) (by omega) (fun i hi=>by
  have hm:gt l.l i∈l.l:=by rw[dV hi];exact ct _
  obtain⟨⟨f1,f2⟩,f3,f4⟩:=hF.2 _ hm;have d1:decide (bD.mV (gt l.l i)<0)=false:=decide_eq_false (Int.not_lt.2 f1);have d2:decide (bD.mV (gt l.l i)>=n)=false:=decide_eq_false (Int.not_le.2 f2);have d3:decide (bD.To (gt l.l i)<0)=false:=decide_eq_false (Int.not_lt.2 f3);have d4:decide (bD.To (gt l.l i)>=n)=false:=decide_eq_false (Int.not_le.2 f4);simp only[m8,fz hi,cond_true,bm hi,ae,d1,d2,d3,d4,cond_false]) (by simp only[m8,gk,cond_false])
 rw[if_pos (fun _ _=>rfl)]at h;have hn:=hF.1;have c:((decide (n>=0))&&(decide (n<=16)))=true:=by rw[ai,decide_eq_true_eq,decide_eq_true_eq];exact⟨hn.1,hn.2⟩
 simp only[qF,h,ae,c]
theorem vP{l:List Nat}{k:Nat}:(k:Int)∈gD l<->k∈l:=by rw[KU];exact⟨fun⟨y,hy,e⟩=>by rw[show k=y by omega];exact hy,fun h=>⟨k,h,rfl⟩⟩
theorem KV(l:List Nat)(k:Nat):gD l++[(k:Int)]=gD (l++[k]):=by simp[gD]
theorem zW.Sn{l:List aS}{d i j k:Nat}(h:zW l j d i)(e:Ed l j k):zW l k (d+1) i:=by induction h with|zero=>exact .ja e .zero|ja e2 _ ih=>exact .ja e2 ih
theorem zW.QC{l:List aS}{k:Nat}:∀(d i:Nat),zW l k (d+1) i->∃j,zW l j d i/\Ed l j k:=by
 intro d;induction d with
 |zero=>intro i h;cases h with|ja e h=>cases h;exact⟨i,.zero,e⟩
 |succ d ih=>intro i h;cases h with|ja e h=>obtain⟨j,h1,h2⟩:=ih _ h;exact⟨j,.ja e h1,h2⟩
theorem Jr{n:Nat}{l:Sl bD}{s:Sl Int}{yf:List Nat}(hn:n<=16)(hb:l.l.length<1000000)(hs:s.l=gD yf)(hl:yf.length<=n):
  ∃t r,bc (l5 n l s) (0,.nil)=some t/\t.l=gD r/\r.length<=n/\∀x,x∈r<->x<n/\∃a∈yf,Ed l.l a x:=by
 have e0:((0:Nat):Int)=0:=rfl;have hsl:s.l.length=yf.length:=by rw[hs,mh]
 refine zu (f:=l5 n l s) (fun i(t:Sl Int)=>((i:Int),t)) n (fun i t=>∃r,t.l=gD r/\r.length<=i/\∀x,x∈r<->x<i/\∃a∈yf,Ed l.l a x)
  (fun t=>∃r,t.l=gD r/\r.length<=n/\∀x,x∈r<->x<n/\∃a∈yf,Ed l.l a x) ?_ ?_ 0 .nil (cO _) ⟨[],rfl,aw _,fun x=>by simp⟩ (fun b q1 q2=>?_)
 .rintro i t hi ⟨r,r1,r2,r3⟩;have hir:i∉r:=fun h=>by have:=(r3 i).1 h;omega
  refine zu (f:=kG l (i:Int) s) (fun j(t:Sl Int)=>((j:Int),t)) s.l.length
   (fun j u=>(u.l=gD r/\∀p,p<j->¬Ed l.l (gt yf p) i)\/(u.l=gD (r++[i])/\∃a∈yf,Ed l.l a i))
   (fun u=>(u.l=gD r/\∀p,p<s.l.length->¬Ed l.l (gt yf p) i)\/(u.l=gD (r++[i])/\∃a∈yf,Ed l.l a i)) ?_ ?_ 0 t (cO _) (.inl ⟨r1,fun p hp=>by omega⟩) (fun b k1 k2=>?_)
  .intro j u hj hI;have hg:gt s.l j=((gt yf j:Nat):Int):=by rw[hs,x9]
   have hja:gt yf j∈yf:=by rw[dV (by omega)];exact ct _
   have hul:u.l.length<=i+1:=by
    rcases hI with⟨h,_⟩|⟨h,_⟩
    .rw [h,mh];omega
    .rw [h,mh,ap,aW];omega
   have hh:u.l.length<1000000:=by omega
   left;by_cases he:Ed l.l (gt yf j) i
   .by_cases hm:(i:Int)∈u.l
    .refine ⟨u,by simp only[kG,fz hj,cond_true,bm hj,ae,hg,wW l _ _ hb,decide_eq_true he,tK _ _ hh,decide_eq_true hm,bO,cond_false,gB (show j<9223372036854775807 by omega)],?_⟩;rcases hI with⟨h,_⟩|h
     .rw [h]at hm;exact absurd (vP.1 hm) hir
     .exact .inr h
    .rcases hI with⟨h,_⟩|⟨h,_⟩
     .have hcap:fF (u.l++[(i:Int)])=some (u.l++[(i:Int)]):=fR (by rw[ap,aW];omega);refine⟨.mk (u.l++[(i:Int)]),by simp only[kG,fz hj,cond_true,bm hj,ae,hg,wW l _ _ hb,decide_eq_true he,tK _ _ hh,decide_eq_false hm,Bool.not_false,hcap,gB (show j<9223372036854775807 by omega)],.inr ⟨?_,_,hja,he⟩⟩;rw[Sl.lp,h,KV]
     .exact absurd (by rw[h];exact vP.2 (List.mem_append_right _ (av.2 rfl))) hm
   .refine ⟨u,by simp only[kG,fz hj,cond_true,bm hj,ae,hg,wW l _ _ hb,decide_eq_false he,cond_false,gB (show j<9223372036854775807 by omega)],?_⟩;rcases hI with⟨h,h2⟩|h
    .refine .inl ⟨h,fun p hp=>?_⟩;rcases gW.1 hp with h3|rfl
     .exact h2 p h3
     .exact he
    .exact .inr h
  .intro u hI;exact⟨u,by simp only[kG,gk,cond_false],hI⟩
  .rw [e0]at k1;left;refine⟨b,by simp only[l5,fz hi,cond_true,k1,ae,gB (show i<9223372036854775807 by omega)],?_⟩;rcases k2 with⟨h,h2⟩|⟨h,h2⟩
   .refine ⟨r,h,by omega,fun x=>?_⟩;rw[r3];constructor
    .rintro ⟨h3,h4⟩;exact⟨by omega,h4⟩
    .rintro ⟨h3,a,h4,h5⟩;refine⟨?_,a,h4,h5⟩;rcases gW.1 h3 with h6|rfl
     .exact h6
     .obtain ⟨p,hp,e⟩:=List.getElem_of_mem h4;rw[<-dV hp]at e;exact absurd (e▸h5) (h2 p (by omega))
   .refine ⟨r++[i],h,by rw[ap,aW];omega,fun x=>?_⟩;rw[List.mem_append,r3,av];constructor
    .rintro (⟨h3,h4⟩|rfl)
     .exact ⟨by omega,h4⟩
     .exact ⟨by omega,h2⟩
    .rintro ⟨h3,h4⟩;rcases gW.1 h3 with h6|h6
     .exact .inl ⟨h6,h4⟩
     .exact .inr h6
 .intro t hI;exact⟨t,by simp only[l5,gk,cond_false],hI⟩
 .rw [e0]at q1;obtain⟨r,h⟩:=q2;exact⟨b,r,q1,h⟩
theorem Az{n i g:Nat}{l:Sl bD}(hb:l.l.length<1000000)(hF:tZ n l.l)(hi:i<n):
  ∃k:Nat,nT n l (i:Int) (g:Int)=some (k:Int)/\k<=n/\((k=0/\∀d,1<=d->d<=n->¬zW l.l g d i)\/(1<=k/\zW l.l g k i)):=by
 have hn16:n<=16:=by have:=hF.1;omega
 refine zu (f:=lZ n l (g:Int)) (fun k(s:Sl Int)=>(((k+1:Nat):Int),s)) n
  (fun k s=>(∃a,s.l=gD a/\a.length<=n/\∀x,x∈a<->zW l.l x k i)/\∀d,1<=d->d<=k->¬zW l.l g d i)
  (fun b=>match b with|.inl z=>∃k:Nat,z=(k:Int)/\1<=k/\k<=n/\zW l.l g k i|.inr _=>∀d,1<=d->d<=n->¬zW l.l g d i)
  ?_ ?_ 0 (.mk [(i:Int)]) (cO _) ⟨⟨[i],rfl,by simp;omega,fun x=>?_⟩,fun d h1 h2=>by omega⟩ (fun b q1 q2=>?_)
 .rintro k s hk ⟨⟨a,a1,a2,a3⟩,hno⟩;have hd:decide (((k+1:Nat):Int)<=(n:Int))=true:=by rw[decide_eq_true_eq];omega
  obtain⟨t,r,h1,h2,h3,h4⟩:=Jr (l:=l) hn16 hb a1 a2
  have hr:∀x,x∈r<->zW l.l x (k+1) i:=fun x=>by
   rw[h4];constructor
   .rintro ⟨_,y,hy,e⟩;exact((a3 y).1 hy).Sn e
   .intro h;obtain⟨j,h5,e⟩:=zW.QC _ _ h;exact⟨(hF.lt e).2,j,(a3 j).2 h5,e⟩
  have hh:t.l.length<1000000:=by rw[h2,mh];omega
  by_cases hm:(g:Int)∈t.l
  .right;refine⟨.inl ((k+1:Nat):Int),by simp only[lZ,hd,cond_true,h1,ae,tK _ _ hh,decide_eq_true hm],k+1,rfl,by omega,hk,?_⟩;rw[h2]at hm;exact(hr g).1 (vP.1 hm)
  .left;refine⟨t,by simp only[lZ,hd,cond_true,h1,ae,tK _ _ hh,decide_eq_false hm,cond_false,gB (show k+1<9223372036854775807 by omega)],⟨r,h2,h3,hr⟩,fun d h5 h6 h7=>?_⟩;by_cases hdk:d=k+1
   .subst hdk;exact hm (by rw[h2];exact vP.2 ((hr g).2 h7))
   .exact hno d h5 (by omega) h7
 .rintro s ⟨_,hno⟩;have hd:decide (((n+1:Nat):Int)<=(n:Int))=false:=by rw[decide_eq_false_iff_not];omega
  exact⟨.inr (),by simp only[lZ,hd,cond_false],hno⟩
 .rw [av];constructor
  .rintro rfl;exact .zero
  .intro h;cases h;rfl
 .have e1:((0+1:Nat):Int)=1:=rfl;rw[e1]at q1;cases b with|inl z=>obtain⟨k,rfl,h1,h2,h3⟩:=q2;exact⟨k,by simp only[nT,q1,ae],h2,.inr ⟨h1,h3⟩⟩|inr _=>exact⟨0,by simp only[nT,q1,ae];rfl,cO _,.inl ⟨rfl,q2⟩⟩
theorem Ix{n g:Nat}{l:Sl bD}(hb:l.l.length<1000000)(hF:tZ n l.l):∀(m:Nat)(s:Sl Int),0<s.l.length->s.l.length+m<1000000->(∀x∈s.l,True)->(∃b:Int,gt s.l (s.l.length-1)=b)->
  ∃s',bc (l_ n l (g:Int)) ((m:Int),s)=some s'/\0<s'.l.length:=by
 have hn16:n<=16:=by have:=hF.1;omega
 intro m;induction m with
 |zero=>intro s h0 _ _ _;have hd:decide (((0:Nat):Int)>1)=false:=rfl;exact⟨s,bC (by simp only[l_,hd,cond_false]),h0⟩
 |succ m ih=>
  intro s h0 hl _ _;by_cases hm:m=0
  .subst hm;have hd:decide (((0+1:Nat):Int)>1)=false:=rfl;exact⟨s,bC (by simp only[l_,hd,cond_false]),h0⟩
  .have hd:decide (((m+1:Nat):Int)>1)=true:=by rw[decide_eq_true_eq];omega
   have hw:wr .i64 (((m+1:Nat):Int)-1)=(m:Int):=by rw[ku (by omega) (by omega)];omega
   have hwl:wr .i64 ((s.l.length:Int)-1)=((s.l.length-1:Nat):Int):=by rw[ku (by omega) (by omega)];omega
   have h1:∀(t:Nat)(x:Int),t<=n->∃y,bc (kH n l ((m+1:Nat):Int) (g:Int) s) (x,(t:Int)-1)=some y:=by
    intro t;induction t with
    |zero=>intro x _;have hd:decide ((((0:Nat):Int)-1)>=0)=false:=rfl;exact⟨x,bC (by simp only[kH,hd,cond_false])⟩
    |succ t ih=>
     intro x ht;have hd:decide ((((t+1:Nat):Int)-1)>=0)=true:=by rw[decide_eq_true_eq];omega
     have hc:((t+1:Nat):Int)-1=(t:Int):=by omega
     have hw1:wr .i64 ((t:Int)-1)=(t:Int)-1:=ku (by omega) (by omega);obtain⟨k,k1,_⟩:=Az (g:=g) hb hF (show t<n by omega)
     have he:∃e,mA l (gt s.l (s.l.length-1)) (t:Int)=some e:=by
      have h:=NI (f:=jx l (gt s.l (s.l.length-1)) (t:Int)) l.l (fun e=>e.1==gt s.l (s.l.length-1)&&e.2==(t:Int)) (by omega) (fun i hi=>by
       simp only[jx,fz hi,cond_true,bm hi,ae];show((bif((gt l.l i).1==gt s.l (s.l.length-1))then(some ((gt l.l i).2==(t:Int)):Option Bool)else some false).bind _)=_;cases((gt l.l i).1==gt s.l (s.l.length-1))with
       |true=>cases((gt l.l i).2==(t:Int))<;>rfl
       |false=>rfl) (by simp only[jx,gk,cond_false])
      simp only[mA,h,ae];cases(l.l.any fun e=>e.1==gt s.l (s.l.length-1)&&e.2==(t:Int))<;>exact⟨_,rfl⟩
     obtain⟨e,he⟩:=he;rw[hc]at hd;rw[hc];have hx:∀(b:Bool)(c:Int->Option (Sum (Int×Int) Int)),(∃x',((bif b then(some (t:Int))else(some x):Option Int).bind c)=c x'):=fun b c=>by cases b<;>exact⟨_,rfl⟩
     cases e with
     |false=>obtain⟨y,hy⟩:=ih x (by omega);refine⟨y,(bL ?_).trans hy⟩;simp only[kH,hd,cond_true,hwl,bm (show s.l.length-1<s.l.length by omega),ae,he,cond_false,hw1]
     |true=>cases hq:((k:Int)==wr .i64 (((m+1:Nat):Int)-1))with|true=>obtain⟨y,hy⟩:=ih (t:Int) (by omega);refine⟨y,(bL ?_).trans hy⟩;simp only[kH,hd,cond_true,hwl,bm (show s.l.length-1<s.l.length by omega),ae,he,k1,hq,hw1]|false=>obtain⟨y,hy⟩:=ih x (by omega);refine⟨y,(bL ?_).trans hy⟩;simp only[kH,hd,cond_true,hwl,bm (show s.l.length-1<s.l.length by omega),ae,he,k1,hq,cond_false,hw1]
   obtain⟨y,hy⟩:=h1 n (-1) (aw _);have hwn:wr .i64 ((n:Int)-1)=(n:Int)-1:=ku (by omega) (by omega);have hcap:fF (s.l++[y])=some (s.l++[y]):=fR (by rw[ap,aW];omega);obtain⟨s',e1,e2⟩:=ih (.mk (s.l++[y])) (by simp) (by rw[Sl.lp,ap,aW];omega) (fun _ _=>trivial) ⟨_,rfl⟩;exact⟨s',(bL (by simp only[l_,hd,cond_true,hwn,hy,ae,hcap,hw])).trans e1,e2⟩
def Qe(n:Nat)(l:List aS):Prop:=∃g,g<n/\∃d,1<=d/\d<=n/\zW l g d g
theorem Ft{n:Nat}{l:Sl bD}(hb:l.l.length<1000000)(hF:tZ n l.l):∃s,nU n l=some s/\(0<s.l.length<->Qe n l.l):=by
 have hn16:n<=16:=by have:=hF.1;omega
 have e0:((0:Nat):Int)=0:=rfl
 refine zu (f:=l8 n l) (fun i(_:Unit)=>(i:Int)) n (fun i _=>∀g,g<i->∀d,1<=d->d<=n->¬zW l.l g d g)
  (fun b=>match b with|.inl s=>0<s.l.length/\Qe n l.l|.inr _=>¬Qe n l.l) ?_ ?_ 0 () (cO _) (fun g hg=>by omega) (fun b q1 q2=>?_)
 .intro g _ hg hI;obtain⟨k,k1,k0,hk⟩:=Az (g:=g) hb hF hg;rcases hk with⟨rfl,hk⟩|⟨h1,h2⟩
  .refine .inl ⟨(),?_,fun g' hg'=>?_⟩
   .simp only[l8,fz hg,cond_true,k1,ae,gB (show g<9223372036854775807 by omega)];rfl
   .rcases gW.1 hg' with h|rfl
    .exact hI g' h
    .exact hk
  .obtain ⟨s',e1,e2⟩:=Ix (g:=g) hb hF k (.mk [(g:Int)]) (by simp) (by simp;omega) (fun _ _=>trivial) ⟨_,rfl⟩;have hne:((k:Int)==0)=false:=by rw[beq_eq_false_iff_ne];omega
   refine .inr ⟨.inl s',by simp only[l8,fz hg,cond_true,k1,ae,hne,cond_false,e1],e2,g,hg,k,h1,k0,h2⟩
 .intro _ hI;refine⟨.inr (),by simp only[l8,gk,cond_false],?_⟩;rintro⟨g,hg,d,h1,h2,h3⟩;exact hI g hg d h1 h2 h3
 .rw [e0]at q1;cases b with|inl s=>exact⟨s,by simp only[nU,xk hb hF,ae,bO,cond_false,q1],fun _=>q2.2,fun _=>q2.1⟩|inr _=>exact⟨.nil,by simp only[nU,xk hb hF,ae,bO,cond_false,q1],fun h=>absurd h (by simp),fun h=>absurd h q2⟩
theorem H9{n:Nat}{l:List aS}{o:List Nat}(hF:tZ n l)(hP:xT n l 0 o):¬Qe n l:=by
 rintro⟨g,hg,d,h1,_,h3⟩
 have hpos:∀i,i<n->∃p,p<o.length/\gt o p=i:=fun i hi=>by
  rcases(hP.all i).2 hi with h|h
  .simp at h
  .exact Ks h
 have key:∀(d i:Nat),zW l g d i->∀p,p<o.length->gt o p=i->∃q,q<o.length/\gt o q=g/\p+d<=q:=by intro d i h;induction h with|zero=>intro p hp e;exact⟨p,hp,e,aw _⟩|@ja d i k e _ ih=>intro p hp e2;obtain⟨q,hq,e3⟩:=hpos k (hF.lt e).2;obtain⟨q0,hq0,e4⟩:=hP.vu q hq i (by rw[e3];exact e);have:q0=p:=(List.getElem_inj (i:=q0) (j:=p) (h₀:=by omega) (h₁:=hp) hP.nd).1 (by rw[<-dV (show q0<o.length by omega),<-dV hp,e4,e2]);obtain⟨q2,h4,h5,h6⟩:=ih q hq e3;exact⟨q2,h4,h5,by omega⟩
 obtain⟨p,hp,e⟩:=hpos g hg;obtain⟨q,hq,e2,h4⟩:=key d g h3 p hp e;have:q=p:=(List.getElem_inj (i:=q) (j:=p) (h₀:=hq) (h₁:=hp) hP.nd).1 (by rw[<-dV hq,<-dV hp,e2,e]);omega
theorem Ic{n:Nat}{l:Sl aS}(hb:l.l.length<1000000)(hF:tZ n l.l):∃s b,iH (n:Int) l=some (s,b)/\(b=false<->Qe n l.l):=by
 rcases FG hb hF with⟨s,o,h1,_,h3⟩|⟨h1,x,o,h2,h3⟩
 .exact ⟨s,true,h1,fun h=>(by cases h),fun h=>absurd h (H9 hF h3)⟩
 .refine ⟨.nil,false,h1,fun _=>?_,fun _=>rfl⟩;obtain⟨g,hg,hf⟩:=E2 h2 h3;unfold Q2 at hf
  have hf:∃k d,Ed l.l g k/\zW l.l g d k/\d<n:=by
   apply Classical.byContradiction;intro hno
   exact hf fun k d e h=>by
    rcases Nat.lt_or_ge d n with h2|h2
    .exact absurd ⟨k,d,e,h,h2⟩ hno
    .exact h2
  obtain⟨k,d,e,h,hd⟩:=hf;exact⟨g,hg,d+1,by omega,hd,.ja e h⟩
end Go.Proofs.YthcplpfiidlinaaDoor.J
