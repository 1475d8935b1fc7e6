/- Where nothing is found, all routes are good: what the je Rz, and that packets come through. Conditions: as stated. -/
import Derived.Test.YthcplpfiidlinaaDoorJF
open Go.Ev Go
noncomputable section
open Bool renaming false_or->lx,not_false->fg,not_true->cF,true_and->kg
open List renaming append_eq_nil_iff->jV,flatMap_eq_nil_iff->gR,getD->jJ,getElem_mem->cO,getElem_of_mem->bV,length_append->aF,length_cons->ce,length_singleton->bD,mem_append_left->aC,mem_append_right->aG,mem_cons->aK,mem_flatMap->da,mem_range'_1->gb,mem_singleton->aq,nodup_cons->eE,range->bi
open Nat renaming le_refl->au,zero_le->cI
open Option renaming bind_some->ae
namespace Go.Proofs.YthcplpfiidlinaaDoor.J
theorem Et{α:Type}[Inhabited α]{o:List α}{x:α}{j:Nat}(h:j<o.length):gt (o++[x]) j=gt o j:=by simp only[gt,jJ,List.getElem?_append_left h]
theorem Eu{α:Type}[Inhabited α]{o:List α}{x:α}:gt (o++[x]) o.length=x:=by simp[gt,jJ]
section
variable{t:ah}{old now:Sl (Sl Int)}{p:aE}{s h:Nat}
theorem Kp{r:aj}:∀(mv:List af)(A:List (Sl Int)),s<A.length->(A.length:Int)=t.bh->h<t.a_.l.length->(gt A s).l.length=t.a_.l.length->
  (gt (gt (HL t r mv A) s).l h=gt (gt A s).l h/\∀m∈mv,rN r s h m=false)\/∃m∈mv,rN r s h m=true/\gt (gt (HL t r mv A) s).l h=m.2.2.1:=by
 intro mv;induction mv with
 |nil=>intro A _ _ _ _;exact .inl ⟨rfl,fun m hm=>by cases hm⟩
 |cons m mv ih=>
  intro A hs hA hh hr;have e:=FF (r:=r) (m:=m) hs hA hh hr;have e2:HL t r (m::mv) A=HL t r mv (vp t r A m):=rfl;rw[e2];rcases ih (vp t r A m) (by rw[oS];exact hs) (by rw[oS];exact hA) hh (by rw[ux];exact hr)with⟨h1,h2⟩|⟨m',h1,h2,h3⟩
  .cases hm:rN r s h m with
   |true=>exact .inr ⟨m,List.mem_cons_self,hm,by rw[h1,e,hm];rfl⟩
   |false=>
    refine .inl ⟨by rw[h1,e,hm];rfl,fun m' hm'=>?_⟩;rcases aK.1 hm' with rfl|hm'
    .exact hm
    .exact h2 m' hm'
  .exact .inr ⟨m',List.mem_cons_of_mem _ h1,h2,h3⟩
theorem Me{rd:List aj}{mv:List af}{A:List (Sl Int)}(hs:s<A.length)(hA:(A.length:Int)=t.bh)(hh:h<t.a_.l.length)(hr:(gt A s).l.length=t.a_.l.length):
  ∀k,k<=rd.length->(gt (gt (uQ t rd mv A k) s).l h=gt (gt A s).l h/\∀r∈rd.take k,∀m∈mv,rN r s h m=false)\/∃r∈rd,∃m∈mv,rN r s h m=true/\gt (gt (uQ t rd mv A k) s).l h=m.2.2.1:=by
 intro k;induction k with
 |zero=>intro _;exact .inl ⟨rfl,fun r hr=>by simp at hr⟩
 |succ k ih=>
  intro hk;have hkl:k<rd.length:=by omega
  have hm:gt rd k∈rd:=by rw[eA hkl];exact cO _
  rw[uI hkl];rcases Kp (r:=gt rd k) mv (uQ t rd mv A k) (by rw[ml];exact hs) (by rw[ml];exact hA) hh (by rw[uJ];exact hr)with⟨h1,h2⟩|⟨m,h1,h2,h3⟩
  .rcases ih (by omega)with⟨h4,h5⟩|⟨r,h4,m,h5,h6,h7⟩
   .refine .inl ⟨by rw[h1,h4],fun r hr=>?_⟩;rw[<-List.take_append_getElem hkl,List.mem_append,aq]at hr;rcases hr with hr|rfl
    .exact h5 r hr
    .rw [<-eA hkl];exact h2
   .exact .inr ⟨r,h4,m,h5,h6,by rw[h1,h7]⟩
  .exact .inr ⟨gt rd k,hm,m,h1,h2,h3⟩
theorem zu{r:aj}{x:Int}:∀(mv:List af)(P:List (Sl Int)),s<P.length->(P.length:Int)=t.bh->h<t.a_.l.length->
  (x∈(gt P s).l\/∃m∈mv,rN r s h m=true/\m.2.2.1=x)->x∈(gt (tH t r h mv P) s).l:=by
 intro mv;induction mv with
 |nil=>
  intro P _ _ _ hx;rcases hx with hx|⟨m,hm,_⟩
  .exact hx
  .cases hm
 |cons m mv ih=>
  intro P hs hA hh hx;have e:=Mm (r:=r) (m:=m) hs hA hh;refine ih (vN t r h P m) (by rw[r_];exact hs) (by rw[r_];exact hA) hh ?_;rw[e];rcases hx with hx|⟨m',hm,h1,h2⟩
  .refine .inl ?_;cases rN r s h m with|true=>exact aC _ hx|false=>exact hx
  .rcases aK.1 hm with rfl|hm
   .rw [h1,h2];exact .inl (aG _ (aq.2 rfl))
   .exact .inr ⟨m',hm,h1,h2⟩
theorem vW{r:aj}{mv:List af}{A:List (Sl Int)}(hs:s<A.length)(hA:(A.length:Int)=t.bh)(hh:h<t.a_.l.length):gt (gt A s).l h∈(gt (kj t r h mv A) s).l:=by refine zu mv _ (by simpa using hs) (by simpa using hA) hh (.inl ?_);rw[eA (by simpa using hs)];simp
theorem BP{r:aj}{mv:List af}{A:List (Sl Int)}(hs:s<A.length)(hA:(A.length:Int)=t.bh)(hh:h<t.a_.l.length)(hr:(gt A s).l.length=t.a_.l.length):gt (gt (HL t r mv A) s).l h∈(gt (kj t r h mv A) s).l:=by
 rcases Kp (r:=r) mv A hs hA hh hr with⟨h1,_⟩|⟨m,h1,h2,h3⟩
 .rw [h1];exact vW hs hA hh
 .exact zu mv _ (by simpa using hs) (by simpa using hA) hh (.inr ⟨m,h1,h2,h3.symm⟩)
theorem Gn{n:Nat}{E:List aO}{r:Sl (Sl Int)}(hC:¬PH n E)(hE:∀x,x<n->¬y_ t r h x->∃y,vi t r h x=some y/\y<n/\Ed E x y):
  ∀(d:Nat)(l:List Nat)(x:Nat),l.length+d=n->l.Nodup->(∀y∈l,y<n)->(∀y∈l,∃e,1<=e/\e<=l.length/\HW E x e y)->x<n->∃k,ip t r h x k:=by
 intro d;induction d with
 |zero=>
  intro l x hd hnd hlt hp hx;by_cases hm:x∈l
  .obtain ⟨e,h1,h2,h3⟩:=hp x hm;exact absurd ⟨x,hx,e,h1,by omega,h3⟩ hC
  .exfalso;have hnd2:(x::l).Nodup:=eE.2 ⟨hm,hnd⟩
   have hsub:x::l⊆bi n:=fun y hy=>List.mem_range.2 (by
    rcases aK.1 hy with rfl|hy
    .exact hx
    .exact hlt y hy)
   have:=hnd2.length_le_of_subset hsub;simp at this;omega
 |succ d ih=>
  intro l x hd hnd hlt hp hx;by_cases hm:x∈l
  .obtain ⟨e,h1,h2,h3⟩:=hp x hm;exact absurd ⟨x,hx,e,h1,by omega,h3⟩ hC
  .by_cases hH:y_ t r h x
   .exact ⟨0,.Cw hH⟩
   .obtain ⟨y,h1,h2,h3⟩:=hE x hx hH
    obtain⟨k,hk⟩:=ih (x::l) y (by rw[ce];omega) (eE.2 ⟨hm,hnd⟩) (fun z hz=>by
     rcases aK.1 hz with rfl|hz
     .exact hx
     .exact hlt z hz) (fun z hz=>by
     rcases aK.1 hz with rfl|hz
     .exact ⟨1,au _,by rw[ce];omega,.jK h3 .zero⟩
     .obtain ⟨e,g1,g2,g3⟩:=hp z hz;exact⟨e+1,by omega,by rw[ce];omega,g3.Qv h3⟩) h2
    exact⟨k+1,.jK hH h1 hk⟩
theorem zG{k:Nat}{P:List (Sl Int)}(hn:sW t k h P=[]):(∀s,s<P.length->∀x∈(gt P s).l,qf t h (s:Int) x=false)/\¬PH t.bh.toNat (rR t P 0 P.length):=by
 unfold sW at hn;obtain⟨h1,h2⟩:=jV.1 hn;constructor
 .intro s hs x hx;cases hb:qf t h (s:Int) x with|false=>rfl|true=>have:mP t h P 0 P.length=true:=List.any_eq_true.2 ⟨s,gb.2 ⟨cI _,by omega⟩,List.any_eq_true.2 ⟨x,hx,hb⟩⟩;rw[this]at h1;cases h1
 .intro hC;have:xH t P=true:=wB.2 hC;rw[this]at h2;cases h2
theorem FI{s:Nat}{x:Int}(hb:qf t h (s:Int) x=false):(jA t (s:Int) x).2.2.2=true\/gt t.a_.l h=(((s:Int),x):fH):=by unfold qf at hb;cases hk:(jA t (s:Int) x).2.2.2 with|true=>exact .inl rfl|false=>rw[hk,fg,kg,Bool.not_eq_false',decide_eq_true_eq]at hb;exact .inr hb
theorem Gx{sw x:Int}(hk:(jA t sw x).2.2.2=true):∃a b c,kw (nh sw x) t.bT.l 0=some (a,b,c)/\(jA t sw x).1=a:=by unfold jA at hk|-;cases hc:kw (nh sw x) t.bT.l 0 with|none=>rw[hc]at hk;cases hk|some q=>obtain⟨a,b,c⟩:=q;exact⟨a,b,c,rfl,rfl⟩
theorem G4(hV:mn t)(hh:h<t.a_.l.length){x:Int}(hb:qf t h (s:Int) x=false):0<=x/\x<8:=by
 rcases FI hb with hk|hg
 .obtain ⟨a,b,c,hc,_⟩:=Gx hk;obtain⟨j,l,hl,hj,_⟩:=(Ix hV).1 hc;have hm:(⟨(s:Int),x⟩:bo)∈iE t:=by rw[vg];exact aC _ (da.2 ⟨l,List.mem_of_getElem? hl,hj.OO⟩)
  exact(hV.p9 _ hm).2
 .have hm:(⟨(s:Int),x⟩:bo)∈iE t:=by rw[vg];refine aG _ (da.2 ⟨gt t.a_.l h,by rw[eA hh];exact cO _,?_⟩);rw[hg];exact aq.2 rfl
  exact(hV.p9 _ hm).2
theorem Ey(hV:mn t){r:Sl (Sl Int)}{k:Nat}{Q:Nat->List (Sl Int)}(hr:(r.l.length:Int)=t.bh)(hrow:∀s,s<r.l.length->(gt r.l s).l.length=t.a_.l.length)
  (hQ:∀h,h<t.a_.l.length->(Q h).length=r.l.length/\sW t k h (Q h)=[]/\∀s,s<r.l.length->jO r h s∈(gt (Q h) s).l):mE t r:=by
 have hsw:=hV.sw
 have hRV:iH t r:=⟨hV,hr,fun cY hm=>by
  obtain⟨s,hs,e⟩:=bV hm;rw[<-eA hs]at e;subst e;refine⟨hrow s hs,fun x hx=>?_⟩;obtain⟨h,hh,e⟩:=bV hx;have hh2:h<t.a_.l.length:=by rw[<-hrow s hs];exact hh
  obtain⟨q1,q2,q3⟩:=hQ h hh2;have e2:x=jO r h s:=by unfold jO;rw[eA hh];exact e.symm
  rw[e2];exact G4 hV hh2 ((zG q2).1 s (by omega) _ (q3 s hs))⟩
 refine⟨hRV,fun s hs h hh=>?_⟩;obtain⟨q1,q2,q3⟩:=hQ h hh;obtain⟨n1,n2⟩:=zG q2;have hn:t.bh.toNat=r.l.length:=by omega
 rw[hn]at n2;refine Gn n2 (fun x hx hH=>?_) r.l.length [] s (by simp) List.nodup_nil (fun y hy=>by cases hy) (fun y hy=>by cases hy) hs;have hb:=n1 x (by omega) _ (q3 x hx);rcases FI hb with hk|hg
 .rcases su (h:=h) hRV x with⟨_,e2⟩|⟨y,b,c,e1,hy,e2⟩
  .rw [e2]at hk;cases hk
  .refine ⟨y,e1,hy,((x:Int),(y:Int)),?_,rfl,rfl⟩;unfold rR;refine da.2 ⟨x,gb.2 ⟨cI _,by omega⟩,da.2 ⟨jO r h x,q3 x hx,?_⟩⟩;unfold qm;rw[e2];exact aq.2 rfl
 .exact absurd ⟨by rw[hg],by rw[hg]⟩ hH
theorem DO{rd:List aj}{mv:List af}{A:List (Sl Int)}{n k:Nat}(hn:qD t rd mv A 0 n=[])(hk:k<n)(hh:h<t.a_.l.length):sW t k h (kj t (gt rd k) h mv (uQ t rd mv A k))=[]:=by unfold qD at hn;have h1:=gR.1 hn k (gb.2 ⟨cI _,by omega⟩);exact gR.1 h1 h (gb.2 ⟨cI _,by omega⟩)
theorem Ku{rd:List aj}{mv:List af}(h1:xF old now mv rd 0 now.l.length=[])(h2:tO t old now mv rd 0 mv.length=[])
  (l1:(old.l.length:Int)=t.bh) (l2:(now.l.length:Int)=t.bh) (r1:∀s,s<old.l.length->(gt old.l s).l.length=t.a_.l.length) (r2:∀s,s<now.l.length->(gt now.l s).l.length=t.a_.l.length) (hs:s<old.l.length) (hh:h<t.a_.l.length):
  gt (gt (uQ t rd mv old.l rd.length) s).l h=gt (gt now.l s).l h:=by
 have hx:∀m∈mv,m.1=(s:Int)->m.2.1=(h:Int)->gt (gt now.l s).l h=m.2.2.1/\gt (gt old.l s).l h≠m.2.2.1:=fun m hm e1 e2=>by
  obtain⟨j,hj,e⟩:=bV hm;rw[<-eA hj]at e;unfold tO at h2;have h3:=gR.1 h2 j (gb.2 ⟨cI _,by omega⟩);rw[e]at h3;have h4:mU t old now rd m=false:=by cases hb:mU t old now rd m with|false=>rfl|true=>rw[hb]at h3;cases h3
  have hB:sV t m=true:=uz.2 ⟨⟨by omega,by omega⟩,by omega,by omega⟩;have q1:m.1.toNat=s:=by omega
  have q2:m.2.1.toNat=h:=by omega
  unfold mU at h4;rw[hB,q1,q2,cF,cond_false]at h4;cases c1:(gt (gt now.l s).l h !=m.2.2.1)with|true=>rw[c1]at h4;cases h4|false=>rw[c1,cond_false]at h4;refine⟨by simpa using c1,fun c2=>?_⟩;rw[c2,beq_self_eq_true]at h4;cases h4
 rcases Me (rd:=rd) (mv:=mv) (A:=old.l) hs l1 hh (r1 s hs) rd.length (au _)with⟨g1,g2⟩|⟨r,_,m,g1,g2,g3⟩
 .rw [g1];rw[List.take_length]at g2;by_cases hne:gt (gt now.l s).l h=gt (gt old.l s).l h
  .exact hne.symm
  .exfalso;unfold xF at h1;have h3:=gR.1 h1 s (gb.2 ⟨cI _,by omega⟩);unfold xE at h3;have h4:=gR.1 h3 h (gb.2 ⟨cI _,by rw[r2 s (by omega)];omega⟩);have h5:sR old now mv rd s h=false:=by cases hb:sR old now mv rd s h with|false=>rfl|true=>rw[hb]at h4;cases h4
   unfold sR at h5;rw[bne_iff_ne.2 hne,kg]at h5
   have h6:nN rd (s:Int) (h:Int) (gt (gt now.l s).l h) mv=1:=by
    have:((nN rd (s:Int) (h:Int) (gt (gt now.l s).l h) mv:Nat):Int)=1:=by simpa using h5
    omega
   unfold nN at h6;have h7:mv.filter (G6 rd (s:Int) (h:Int) (gt (gt now.l s).l h))≠[]:=fun e=>by rw[e]at h6;cases h6
   obtain⟨m,hm⟩:=List.exists_mem_of_ne_nil _ h7;obtain⟨m1,m2⟩:=List.mem_filter.1 hm;unfold G6 at m2;cases c:((m.1==(s:Int))&&(m.2.1==(h:Int)))&&(m.2.2.1==(gt (gt now.l s).l h))with|false=>rw[c]at m2;cases m2|true=>rw[c,cond_true]at m2;obtain⟨r,hr,hit⟩:=List.any_eq_true.1 m2;simp only[Bool.and_eq_true,beq_iff_eq]at c;have:=g2 r hr m m1;rw[uC c.1.1 c.1.2,hit]at this;cases this
 .rw [g3];obtain⟨⟨e1,e2⟩,_⟩:=Jy.1 g2;exact(hx m g1 e1 e2).1.symm
theorem Ll{so:Sl Int}(hb:so.l.length<9223372036854775808):br (lk so (s:Int)) (false,0)=some (decide ((s:Int)∈so.l)):=by
 have key:∀(n i:Nat)(b:Bool),i+n=so.l.length->br (lk so (s:Int)) (b,(i:Int))=some (b||decide ((s:Int)∈so.l.drop i)):=by
  intro n;induction n with
  |zero=>
   intro i b hi;obtain rfl:i=so.l.length:=by omega
   refine ci ?_;simp only[lk,j4,cond_false,List.drop_length];simp
  |succ n ih=>
   intro i b hi;have hil:i<so.l.length:=by omega
   have e:so.l.drop i=gt so.l i::so.l.drop (i+1):=by rw[eA hil];exact List.drop_eq_getElem_cons hil
   have e3:(b||decide ((s:Int)∈so.l.drop i))=((b||(gt so.l i==(s:Int)))||decide ((s:Int)∈so.l.drop (i+1))):=by rw[Bool.eq_iff_iff,e];simp only[Bool.or_eq_true,decide_eq_true_eq,aK,beq_iff_eq];exact⟨fun q=>by rcases q with q|q|q<;>simp[q],fun q=>by rcases q with(q|q)|q<;>simp[q]⟩
   rw[e3];refine(cG ?_).trans (ih (i+1) _ (by omega));simp only[lk,jm hil,cond_true,bI hil,ae,kz (show i<9223372036854775807 by omega)];cases b<;>rfl
 have:=key so.l.length 0 false (by omega);rwa[List.drop_zero,lx]at this
def pu(t:ah)(old:Sl (Sl Int))(p:aE)(k:Nat)(so:List Int)(s h:Nat):Int:=gt (gt (uQ t p.bc.l p.cZ.l old.l (bif decide ((s:Int)∈so)then k+1 else k)) s).l h
theorem BU{k:Nat}{so:Sl Int}(hb:so.l.length<9223372036854775808)(hk:k<p.bc.l.length\/k=p.bc.l.length/\so.l=[])(hR:p.bc.l.length<=1000)(hw:∀r∈p.bc.l,r.2.2.l.length<1000000)(hm:p.cZ.l.length<=900)(hA:(old.l.length:Int)=t.bh)(hr:∀s,s<old.l.length->(gt old.l s).l.length=t.a_.l.length)(ho:old.l.length<=1000)(hho:t.a_.l.length<=1000):
  ∃r,mN old p (k:Int) so=some r/\r.l.length=old.l.length/\∀s,s<old.l.length->(gt r.l s).l=(bi t.a_.l.length).map (pu t old p k so.l s):=by
 have cY:∀s,s<old.l.length->∃o,br (j9 old p (k:Int) (s:Int) (decide ((s:Int)∈so.l))) (0,Sl.nil)=some o/\o.l=(bi t.a_.l.length).map (pu t old p k so.l s):=by
  intro s hs;have hrs:=hr s hs;have hw1:wr .i64 ((k:Int)+1)=((k+1:Nat):Int):=kz (by omega)
  have key:∀(n h:Nat)(o:Sl Int),h+n=t.a_.l.length->o.l=(bi h).map (pu t old p k so.l s)->∃o',br (j9 old p (k:Int) (s:Int) (decide ((s:Int)∈so.l))) ((h:Int),o)=some o'/\o'.l=(bi t.a_.l.length).map (pu t old p k so.l s):=by
   intro n;induction n with
   |zero=>
    intro h o hh ho;obtain rfl:h=t.a_.l.length:=by omega
    have hd:decide ((t.a_.l.length:Int)<((gt old.l s).l.length:Int))=false:=decide_eq_false (by omega);exact⟨o,ci (by simp only[j9,bI hs,ae,hd,cond_false]),ho⟩
   |succ n ih=>
    intro h o hh ho;have hhl:h<t.a_.l.length:=by omega
    have hcap:h_ (o.l++[pu t old p k so.l s h])=some (o.l++[pu t old p k so.l s h]):=js (by rw[ho];simp;omega);obtain⟨o',e1,e2⟩:=ih (h+1) (.mk (o.l++[pu t old p k so.l s h])) (by omega) (by rw[Sl.kT,ho,List.range_succ,List.map_append];rfl);refine⟨o',(cG ?_).trans e1,e2⟩;have hd:decide ((h:Int)<((gt old.l s).l.length:Int))=true:=decide_eq_true (by omega);have hv:∀b,decide ((s:Int)∈so.l)=b->pu t old p k so.l s h=gt (gt (uQ t p.bc.l p.cZ.l old.l (bif b then k+1 else k)) s).l h:=fun b hb=>by unfold pu;rw[hb]
    cases hc:decide ((s:Int)∈so.l)with
    |true=>
     have hk1:k<p.bc.l.length:=by
      rcases hk with hk|⟨_,hk⟩
      .exact hk
      .rw [hk]at hc;simp at hc
     have ha:=Fk (t:=t) (old:=old) (p:=p) (k:=k+1) (s:=s) (h:=h) (by omega) hR hw (by omega) hhl hA hs hrs;rw[hv true hc,cond_true]at hcap|-;simp only[j9,bI hs,ae,hd,cond_true,hw1,ha,hcap,kz (show h<9223372036854775807 by omega)]
    |false=>have ha:=Fk (t:=t) (old:=old) (p:=p) (k:=k) (s:=s) (h:=h) (by omega) hR hw (by omega) hhl hA hs hrs;rw[hv false hc,cond_false]at hcap|-;simp only[j9,bI hs,ae,hd,cond_true,cond_false,ha,hcap,kz (show h<9223372036854775807 by omega)]
  exact key t.a_.l.length 0 .nil (by omega) rfl
 have key:∀(n s:Nat)(o:Sl (Sl Int)),s+n=old.l.length->o.l.length=s->(∀j,j<s->(gt o.l j).l=(bi t.a_.l.length).map (pu t old p k so.l j))->
   ∃o',br (lj old p (k:Int) so) ((s:Int),o)=some o'/\o'.l.length=old.l.length/\∀j,j<old.l.length->(gt o'.l j).l=(bi t.a_.l.length).map (pu t old p k so.l j):=by
  intro n;induction n with
  |zero=>
   intro s o hs ho hj;obtain rfl:s=old.l.length:=by omega
   exact⟨o,ci (by simp only[lj,j4,cond_false]),ho,hj⟩
  |succ n ih=>
   intro s o hs ho hj;have hsl:s<old.l.length:=by omega
   obtain⟨w,w1,w2⟩:=cY s hsl;have hcap:h_ (o.l++[w])=some (o.l++[w]):=js (by rw[aF,bD];omega)
   obtain⟨o',e1,e2⟩:=ih (s+1) (.mk (o.l++[w])) (by omega) (by rw[Sl.kT,aF,bD,ho]) (fun j hj2=>by
    rw[Sl.kT];by_cases hjs:j=s
    .rw [hjs,<-ho,Eu,w2,ho]
    .rw [Et (by omega)];exact hj j (by omega))
   refine⟨o',(cG ?_).trans e1,e2⟩;simp only[lj,jm hsl,cond_true,Ll hb,ae,w1,hcap,kz (show s<9223372036854775807 by omega)]
 obtain⟨o,e1,e2⟩:=key old.l.length 0 .nil (by omega) rfl (fun j hj=>by omega);have e1:br (lj old p (k:Int) so) (0,.nil)=_:=e1;exact⟨o,by simp only[mN,e1,ae],e2⟩
theorem Ng{a b:Sl Int}(h:a.l=b.l)(hl:a.l.length<9223372036854775808):qG a b=some true:=by
 have h1:=sQ (f:=mY a b) (β:=Bool) (γ:=Unit) a.l (fun _ _=>none) () hl (fun i hi=>by
  have hb:i<b.l.length:=h▸hi;have e:(gt a.l i !=gt b.l i)=false:=by rw[h];simp
  simp only[mY,jm hi,cond_true,bI hi,bI hb,ae,e,cond_false]) (by simp only[mY,j4,cond_false])
 have h2:kw (β:=Bool) (fun(_:Nat)(_:Int)=>none) a.l 0=none:=lM.2 fun _ _ _=>rfl;have hc:((a.l.length:Int) !=(b.l.length:Int))=false:=by rw[h];simp
 rw[h2]at h1;simp only[qG,hc,cond_false,h1,ae]
theorem Nf{a b:Sl (Sl Int)}(hl:a.l.length=b.l.length)(h:∀s,s<b.l.length->(gt a.l s).l=(gt b.l s).l)(hb:b.l.length<9223372036854775808)(hr:∀s,s<b.l.length->(gt b.l s).l.length<9223372036854775808):oM a b=some true:=by
 have h1:=sQ (f:=mX a b) (β:=Bool) (γ:=Unit) a.l (fun _ _=>none) () (by omega) (fun i hi=>by
  have hib:i<b.l.length:=by omega
  have e:=Ng (h i hib) (by rw[h i hib];exact hr i hib);simp only[mX,jm hi,cond_true,bI hi,bI hib,ae,e,cF,cond_false]) (by simp only[mX,j4,cond_false])
 have h2:kw (β:=Bool) (fun(_:Nat)(_:Sl Int)=>none) a.l 0=none:=lM.2 fun _ _ _=>rfl;have hc:((a.l.length:Int) !=(b.l.length:Int))=false:=by rw[hl];simp
 rw[h2]at h1;simp only[oM,hc,cond_false,h1,ae]
theorem Ga(t:ah)(old now:Sl (Sl Int))(p:aE)(k:Int)(so:Sl Int)(ho:old.l.length<9223372036854775808)(hn:now.l.length<9223372036854775808)(hp:p.bc.l.length<9223372036854775808):mO t old now p k so=some true:=by
 unfold mO;rw[Bx ho hn hp];simp only[ae];by_cases hS:tY t old now p
 rotate_left
 .rw [decide_eq_false hS];simp only[fg,Bool.true_or,cond_true,ae,il]
 rw[decide_eq_true hS,cF,lx];by_cases c1:(so.l.length:Int)>20
 .simp only[decide_eq_true c1,Bool.true_or,cond_true,ae,il]
 by_cases c2:k<0
 .simp only[decide_eq_true c2,Bool.true_or,Bool.or_true,cond_true,ae,il]
 by_cases c3:k>=((aE.bc p).l.length:Int)
 .simp only[decide_eq_true c3,Bool.or_true,cond_true,ae,il]
 simp only[decide_eq_false c1,decide_eq_false c2,decide_eq_false c3,Bool.or_false,cond_false];obtain⟨s1,s2,s3,s4,s5⟩:=hS;obtain⟨q,q1,q2,q3,q4⟩:=I0 (p:=p) (by omega) (by omega);obtain⟨a,a1,a2⟩:=Hz (t:=t) (old:=old) (now:=now) (p:=q) s2 s3 (by rw[q2];exact s4) (by rw[q3];exact s5) (fun r hr=>s1 r (by rw[<-q3];exact hr));rw[EV q2 q3 q4]at a2;simp only[q1,a1,ae];by_cases c4:(a.l.length:Int)>0
 .simp only[decide_eq_true c4,cond_true,il,ae]
 simp only[decide_eq_false c4,cond_false];have ha:a.l=[]:=List.eq_nil_of_length_eq_zero (by omega);rw[ha]at a2;by_cases hG:mE t old/\mE t now
 rotate_left
 .rw [Ah hG]at a2;cases a2
 rw[Ag hG,cond_true]at a2;obtain⟨hG1,hG2⟩:=hG;unfold yi at a2;obtain⟨n1,a3⟩:=jV.1 a2.symm;obtain⟨n2,a4⟩:=jV.1 a3;obtain⟨n3,n4⟩:=jV.1 a4;have hV:=hG1.1.wg;have hsw:=hV.sw;have hho:=hV.rM;have l1:=hG1.1.len;have l2:=hG2.1.len;have r1:∀s,s<old.l.length->(gt old.l s).l.length=t.a_.l.length:=fun s hs=>hG1.1.cY hs;have r2:∀s,s<now.l.length->(gt now.l s).l.length=t.a_.l.length:=fun s hs=>hG2.1.cY hs;have hb':∀r∈p.bc.l,r.2.2.l.length<1000000:=fun r hr=>by have:=s1 r hr;omega
 obtain⟨k,rfl⟩:∃n:Nat,k=(n:Int):=⟨k.toNat,by omega⟩
 have hk:k<p.bc.l.length:=by have:(k:Int)<(p.bc.l.length:Int):=Int.not_le.1 c3;omega
 obtain⟨r,w1,w2,w3⟩:=BU (t:=t) (old:=old) (p:=p) (k:=k) (so:=so) (by omega) (.inl hk) (by omega) hb' (by omega) l1 r1 (by omega) (by omega);obtain⟨r',v1,v2,v3⟩:=BU (t:=t) (old:=old) (p:=p) (k:=p.bc.l.length) (so:=.nil) (by simp) (.inr ⟨rfl,rfl⟩) (by omega) hb' (by omega) l1 r1 (by omega) (by omega);have v1:mN old p ((aE.bc p).l.length:Int) .nil=_:=v1;have hpt:∀s,s<old.l.length->∀h,h<t.a_.l.length->jO r h s=pu t old p k so.l s h:=fun s hs h hh=>by unfold jO;rw[w3 s hs,eA (by simpa using hh)];simp
 have hgood:mE t r:=by
  refine Ey hV (k:=k) (Q:=fun h=>kj t (gt p.bc.l k) h p.cZ.l (uQ t p.bc.l p.cZ.l old.l k)) (by rw[w2];exact l1) (fun s hs=>by rw[w3 s (by omega)];simp) fun h hh=>⟨?_,?_,fun s hs=>?_⟩
  .rw [vX,ml,w2]
  .exact DO n4 hk hh
  .have hs:s<old.l.length:=by omega
   have d1:s<(uQ t p.bc.l p.cZ.l old.l k).length:=by rw[ml];exact hs
   have d2:((uQ t p.bc.l p.cZ.l old.l k).length:Int)=t.bh:=by rw[ml];exact l1
   have d3:(gt (uQ t p.bc.l p.cZ.l old.l k) s).l.length=t.a_.l.length:=by rw[uJ];exact r1 s hs
   rw[hpt s hs h hh];unfold pu;cases decide ((s:Int)∈so.l)with|true=>rw[cond_true,uI hk];exact BP d1 d2 hh d3|false=>exact vW d1 d2 hh
 have hrS:rg t r:=⟨fun cY hm=>by have:=(hgood.1.am cY hm).1;omega,s2.2.1,s2.2.2.1,by rw[w2];omega⟩
 have g1:=xU hrS;rw[Ag hgood]at g1;have hl12:old.l.length=now.l.length:=by omega
 have hsame:oM r' now=some true:=Nf (by omega) (fun s hs=>by
  rw[v3 s (by omega)];refine List.ext_getElem (by rw[r2 s hs];simp) fun h h1 h2=>?_;have hh:h<t.a_.l.length:=by simpa using h1
  rw[List.getElem_map,List.getElem_range,<-eA h2];unfold pu;have e:decide ((s:Int)∈(Sl.nil:Sl Int).l)=false:=by simp
  rw[e,cond_false];exact Ku n1 n2 l1 l2 r1 r2 (by omega) hh) (by omega) (fun s hs=>by rw[r2 s hs];omega)
 simp only[w1,g1,v1,hsame,ae,cond_true,il]
end
end Go.Proofs.YthcplpfiidlinaaDoor.J
