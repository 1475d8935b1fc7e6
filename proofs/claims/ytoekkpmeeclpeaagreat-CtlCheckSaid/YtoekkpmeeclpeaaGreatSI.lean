/- The law CtlCheck. Conditions: words of 64 bits. -/
import Derived.Test.YtoekkpmeeclpeaaGreatHb
open Bool renaming and_eq_true->ak,not_false->jY,not_true->gW,or_eq_false_iff->fr,true_and->eO
open List renaming getElem?_eq_getElem->ao,getElem_of_mem->b_,length_append->ap,length_map->aD,mem_map->br,mem_of_getElem?->aF
open Option renaming bind_some->ae
open Option.some renaming inj->aa
open Go.Ev Go Go.Fl Go.Ways
namespace Go.Proofs.YtoekkpmeeclpeaaGreat.S
theorem SI{b:Sl Int}{L:List Nat}(hl:b.l=dV L)(hw:∀x∈L,zC x)(hb:L.length<=30):wi b=some (dM (L.map iu)):=by
 unfold wi;have e0:b.l.length=L.length:=by rw[hl,aD]
 have:=Bx (f:=qC b) L iu (fun i s hi hs=>by
  simp only[qC];rw[decide_eq_true (by omega),cond_true,og (by omega),ae,hl,oP hi];unfold AG;rw[AE,ae,Cy (hw _ (kQ hi)),ae,ae,iP.2 ⟨rfl,by rw[ap];simp;omega⟩,ae,vn (by omega)]) (fun s=>by
  simp only[qC];rw[decide_eq_false (by omega),cond_false])
 rw[this];rfl
theorem Mw{t:ai}{b:Sl Int}{L:List Nat}(hl:b.l=dV L)(hw:∀x∈L,zC x)(h1:t.aE.l.length<=30)(h2:t.bc.l.length<=12)(hb:L.length<=30):
  ∃(s:Sl (Sl Int))(e:Int),kj t (dM (L.map iu))=some (s,e)/\ko t b=some (s,e)/\s.l.length<=100/\∀r∈s.l,r.l.length<=100:=by
 have hr:=xM (t:=t) hw hb;have hrR:=vO (t:=t) hl hb h1 h2;cases hok:KE t L with
 |false=>rw[hok]at hr hrR;exact⟨Sl.nil,2,by unfold kj;rw[hr];rfl,by unfold ko;rw[hrR];rfl,by simp[Sl.l],by simp[Sl.l]⟩
 |true=>
  obtain⟨hV,hL,hn,hcl⟩:=Hw hok;have h8:=mU hV;obtain⟨r1,r2⟩:=EE hV hL hn hl h2;rw[hcl];rcases G6 hV hL hn h2 with⟨q1,q2⟩|⟨q1,q2⟩
  .exact ⟨_,_,q2,r1 q1,by simp[Sl.l],by simp[Sl.l]⟩
  .refine ⟨_,_,q2,r2 q1,by rw[ii,cJ];omega,fun r hr=>?_⟩;rw[ii]at hr;obtain⟨i,_,rfl⟩:=br.1 hr;rw[rn];unfold j_;simp;omega
theorem Qe{l:List Int}(h:∀x∈l,0<=x/\x<=18446744073709551615):∃L:List Nat,l=dV L/\∀x∈L,zC x:=by
 refine⟨l.map Int.toNat,?_,fun x hx=>?_⟩
 .rw [dV,List.map_map];refine(List.map_id l).symm.trans (List.map_congr_left fun x hx=>?_);have:=h x hx;show x=((x.toNat:Nat):Int)
  omega
 .obtain ⟨y,hy,rfl⟩:=br.1 hx;have:=h y hy;unfold zC;omega
theorem J2(c:aA)(hw:c.cT.l.length<9223372036854775808):∃b,qQ c Sl.nil=some b/\(b=true->(∀s∈c.cT.l,s.l.length<=30)/\c.T.aE.l.length<=30/\c.T.bc.l.length<=12/\c.cT.l.length<=6/\c.gP.l.length<=12):=by
 have h1:=tU (f:=nN c) c.cT.l (fun _(s:Sl Int)=>if s.l.length<=30 then none else some false) () hw (fun i hi=>by
  simp only[nN,nm hi,cond_true,dA hi,ae];by_cases hc:(gt c.cT.l i).l.length<=30
  .rw [if_pos hc,decide_eq_false (by omega),cond_false]
  .rw [if_neg hc,decide_eq_true (by omega),cond_true]) (by simp only[nN,qw,cond_false])
 have h4:aP (ug (Sl.nil:Sl fE)) 0=some (.inr ()):=bt rfl;unfold qQ;rw[h1];cases hs:j9 (fun _(s:Sl Int)=>if s.l.length<=30 then none else some false) c.cT.l 0 with
 |some b=>
  obtain⟨j,x,hj,h6,_⟩:=jP hs;split at h6
  .cases h6
  .obtain rfl:=aa h6;exact⟨false,rfl,fun h=>by cases h⟩
 |none=>
  simp only[ae];rw[h4];refine⟨_,rfl,fun h=>?_⟩;simp only[ak,decide_eq_true_eq]at h;refine⟨fun s hsm=>?_,by omega,by omega,by omega,by omega⟩;obtain⟨j,hj,rfl⟩:=b_ hsm;have:=ou.1 hs j _ (ao hj);split at this
  .assumption
  .cases this
def Vt(r:Sl (Sl (Sl Int))):Prop:=r.l.length<=6/\∀a∈r.l,a.l.length<=100/\∀b∈a.l,b.l.length<=100
theorem J7{c:aA}(h1:c.T.aE.l.length<=30)(h2:c.T.bc.l.length<=12)(h3:c.cT.l.length<=6)(h4:∀s∈c.cT.l,s.l.length<=30)(h5:∀s∈c.cT.l,∀x∈s.l,0<=x/\x<=18446744073709551615):
  ∀(k i:Nat)(s:Sl (Sl (Sl Int))),i+k=c.cT.l.length->s.l.length=i->Vt s->
   (aP (gT c) ((i:Int),s)=some (.inl 2)/\aP (fM c) ((i:Int),s)=some (.inl false))\/∃r,aP (gT c) ((i:Int),s)=some (.inr r)/\aP (fM c) ((i:Int),s)=some (.inr r)/\Vt r:=by
 intro k;induction k with
 |zero=>
  intro i s hi hs hok;obtain rfl:i=c.cT.l.length:=by omega
  exact .inr ⟨s,bt (by simp only[gT,qw,cond_false]),bt (by simp only[fM,qw,cond_false]),hok⟩
 |succ k ih=>
  intro i s hi hs hok;have hlt:i<c.cT.l.length:=by omega
  have hm:gt c.cT.l i∈c.cT.l:=kQ hlt;obtain⟨L,hL,hLw⟩:=Qe (h5 _ hm);have hLn:L.length<=30:=by have:=h4 _ hm;rw[hL,aD]at this;exact this
  obtain⟨r,e,r1,r2,r3,r4⟩:=Mw hL hLw h1 h2 hLn;have hof:=SI hL hLw hLn;have hwr:wr .i64 ((i:Int)+1)=((i+1:Nat):Int):=vn (by omega);have hcap:kc (s.l++[r])=some (s.l++[r]):=u4 (by rw[ap,hs];simp;omega);cases he:(e !=0)with
  |true=>
   refine .inl ⟨bt ?_,bt ?_⟩
   .simp only[gT,nm hlt,cond_true,dA hlt,ae,hof,r1,he]
   .simp only[fM,nm hlt,cond_true,dA hlt,ae,r2,he]
  |false=>
   have q1:gT c ((i:Int),s)=some (.inl (((i+1:Nat):Int),Sl.mk (s.l++[r]))):=by simp only[gT,nm hlt,cond_true,dA hlt,ae,hof,r1,he,cond_false,hcap,hwr]
   have q2:fM c ((i:Int),s)=some (.inl (((i+1:Nat):Int),Sl.mk (s.l++[r]))):=by simp only[fM,nm hlt,cond_true,dA hlt,ae,r2,he,cond_false,hcap,hwr]
   rw[bX q1,bX q2];refine ih (i+1) _ (by omega) (by rw[p_,ap,hs];rfl) ⟨by rw[p_,ap,hs];simp;omega,fun a ha=>?_⟩;rw[p_]at ha;rcases List.mem_append.1 ha with ha|ha
   .exact hok.2 a ha
   .obtain rfl:=List.mem_singleton.1 ha;exact⟨r3,r4⟩
theorem Mv{r:Sl (Sl (Sl Int))}{i k:Nat}(h1:i<r.l.length)(h2:k<(gt r.l i).l.length)(h3:(gt (gt r.l i).l k).l.length<=100):aP (js r r (i:Int) (k:Int)) 0=some (.inr ()):=by
 have:=Bs (f:=js r r (i:Int) (k:Int)) (fun j:Nat=>(j:Int)) (gt (gt r.l i).l k).l.length (b:=.inr ()) (fun j hj=>by
  simp only[js,dA h1,ae,dA h2,nm hj,cond_true,dA hj,bne_self_eq_false,cond_false,vn (show j<9223372036854775807 by omega)]) (by
  simp only[js,dA h1,ae,dA h2,qw,cond_false])
 exact this
theorem Mi{r:Sl (Sl (Sl Int))}{i:Nat}(h1:i<r.l.length)(h2:(gt r.l i).l.length<=100)(h3:∀b∈(gt r.l i).l,b.l.length<=100):aP (jr r r (i:Int)) 0=some (.inr ()):=by
 have:=Bs (f:=jr r r (i:Int)) (fun j:Nat=>(j:Int)) (gt r.l i).l.length (b:=.inr ()) (fun j hj=>by
  simp only[jr,dA h1,ae,nm hj,cond_true,dA hj,bne_self_eq_false,cond_false,Mv h1 hj (h3 _ (kQ hj)),vn (show j<9223372036854775807 by omega)]) (by
  simp only[jr,dA h1,ae,qw,cond_false])
 exact this
theorem Gs{r:Sl (Sl (Sl Int))}(h:Vt r):aP (jq r r) 0=some (.inr ()):=by
 obtain⟨h1,h2⟩:=h
 have:=Bs (f:=jq r r) (fun j:Nat=>(j:Int)) r.l.length (b:=.inr ()) (fun j hj=>by
  have hj2:=h2 _ (kQ hj);simp only[jq,nm hj,cond_true,dA hj,ae,bne_self_eq_false,cond_false,Mi hj hj2.1 hj2.2,vn (show j<9223372036854775807 by omega)]) (by
  simp only[jq,qw,cond_false])
 exact this
theorem GN{s:Sl Int}(h:s.l.length<=12):dl s=some (!decide (∀x∈s.l,-1048576<=x/\x<=1048576)):=by
 have h1:=tU (f:=dk s) s.l (fun i(x:Int)=>if-1048576<=x/\x<=1048576 then none else some (i:Int)) () (by omega) (fun i hi=>by
  simp only[dk,nm hi,cond_true,dA hi,ae,uq,rB];by_cases hc:-1048576<=gt s.l i/\gt s.l i<=1048576
  .rw [if_pos hc,decide_eq_true (show gt s.l i>=-1048576 by omega),decide_eq_true (show gt s.l i<=1048576 by omega)];rfl
  .rw [if_neg hc];have:((decide (gt s.l i>=-1048576))&&(decide (gt s.l i<=1048576)))=false:=by rw[Bool.and_eq_false_iff,decide_eq_false_iff_not,decide_eq_false_iff_not];omega
   rw[this];rfl) (by simp only[dk,qw,cond_false])
 unfold dl fD;rw[h1];cases hs:j9 (fun i(x:Int)=>if-1048576<=x/\x<=1048576 then none else some (i:Int)) s.l 0 with
 |none=>
  have:∀x∈s.l,-1048576<=x/\x<=1048576:=fun x hx=>by
   obtain⟨j,hj,rfl⟩:=b_ hx;have:=ou.1 hs j _ (ao hj);split at this
   .assumption
   .cases this
  rw[decide_eq_true this];rfl
 |some q=>
  obtain⟨j,x,hj,h6,_⟩:=jP hs;split at h6
  .cases h6
  .rename_i hx;obtain rfl:=aa h6;rw[decide_eq_false (fun h=>hx (h x (aF hj)))];simp only[ae,jY];rw[decide_eq_true (by omega)]
theorem Eo{c:aA}(h:c.gP.l.length<=12):aP (lk c) 0=some (bif decide (∀x∈c.gP.l,-1048576<=x/\x<=1048576)then .inr ()else .inl false):=by
 have h1:=tU (f:=lk c) c.gP.l (fun _(x:Int)=>if-1048576<=x/\x<=1048576 then none else some false) () (by omega) (fun i hi=>by
  simp only[lk,nm hi,cond_true,dA hi,ae];by_cases ha:gt c.gP.l i< -1048576
  .rw [decide_eq_true ha,cond_true,if_neg (by omega)];rfl
  .rw [decide_eq_false ha,cond_false];by_cases hb:gt c.gP.l i>1048576
   .rw [decide_eq_true hb,if_neg (by omega)];rfl
   .rw [decide_eq_false hb,if_pos (by omega)];rfl) (by simp only[lk,qw,cond_false])
 rw[h1];cases hs:j9 (fun _(x:Int)=>if-1048576<=x/\x<=1048576 then none else some false) c.gP.l 0 with
 |none=>
  have:∀x∈c.gP.l,-1048576<=x/\x<=1048576:=fun x hx=>by
   obtain⟨j,hj,rfl⟩:=b_ hx;have:=ou.1 hs j _ (ao hj);split at this
   .assumption
   .cases this
  rw[decide_eq_true this];rfl
 |some q=>
  obtain⟨j,x,hj,h6,_⟩:=jP hs;split at h6
  .cases h6
  .rename_i hx;obtain rfl:=aa h6;rw[decide_eq_false (fun h=>hx (h x (aF hj)))];rfl
def Vy(w:Bool)(n m sw wZ rate ig wide lead margin retry:Int):Bool:=((((w&&decide (n>=1))&&decide (n<=16))&&(m==sw))&&(((decide (rate>=0))&&(decide (rate<=500)))&&(((decide (ig>=wZ))&&(decide (ig<=64)))&&(((decide (wide>=0))&&(decide (wide<=65536)))&&(((decide (lead>=0))&&(decide (lead<=65536)))&&(((decide (margin>=0))&&(decide (margin<=65536)))&&((decide (retry>=1))&&(decide (retry<=65536)))))))))
def UK(w:Bool)(n m sw wZ rate ig:Int):Bool:=((((((((!w)||(decide (n<1)))||(decide (n>16)))||(m !=sw))||(decide (rate<0)))||(decide (rate>500)))||(decide (ig<wZ)))||(decide (ig>64)))
def UJ(wide lead margin retry:Int):Bool:=((((((((decide (wide<0))||(decide (wide>65536)))||(decide (lead<0)))||(decide (lead>65536)))||(decide (margin<0)))||(decide (margin>65536)))||(decide (retry<1)))||(decide (retry>65536)))
theorem Ut(w:Bool)(n m sw wZ rate ig wide lead margin retry:Int):Vy w n m sw wZ rate ig wide lead margin retry=!(UK w n m sw wZ rate ig||UJ wide lead margin retry):=by rw[Bool.eq_iff_iff,Bool.not_eq_true',fr];simp only[Vy,UK,UJ,ak,fr,decide_eq_true_eq,decide_eq_false_iff_not,beq_iff_eq,bne_eq_false_iff_eq,Bool.not_eq_false'];cases w<;>simp only[Bool.false_eq_true,false_and,true_and]<;>omega
theorem Ig{c:aA}(h1:c.T.aE.l.length<=30)(h2:c.T.bc.l.length<=12)(h3:c.cT.l.length<=6)(h4:∀s∈c.cT.l,s.l.length<=30)(h5:∀s∈c.cT.l,∀x∈s.l,0<=x/\x<=18446744073709551615)(h6:c.gP.l.length<=12):
  ∃r,Vt r/\((oG c=some (r,0)/\ll c=some (r,true))\/(oG c=some (r,2)/\ll c=some (r,false))):=by
 have hnil:Vt Sl.nil:=⟨by simp[Sl.l],fun a ha=>by simp[Sl.l]at ha⟩
 by_cases hV:gi c.T
 .obtain ⟨w,q1,q2⟩:∃w,oq c.T=some w/\oV c.T=some w:=by obtain⟨s,_,_,h⟩:=sh hV;exact⟨_,h,(D8 hV).trans h⟩
  have hR:mT c.T=some true:=by rw[vG,decide_eq_true hV]
  have hR2:lG c.T=some true:=by rw[xN h1 h2,decide_eq_true hV]
  have p:oG c=bif Vy w (c.cT.l.length:Int) (c.gP.l.length:Int) c.T.ah (c.T.bc.l.length:Int) c.Gw c.LJ c.It c.LK c.yr c.CI&&decide (∀x∈c.gP.l,-1048576<=x/\x<=1048576)then((aP (gT c) (0,Sl.nil)).bind fun
    |.inl i23=>some (Sl.nil,i23)
    |.inr s24=>some (s24,0))else some (Sl.nil,2):=by
   unfold oG rB;rw[hR];simp only[ae,cond_true];rw[q1];simp only[ae,JJ,GN h6];unfold Vy;generalize(((w&&decide ((c.cT.l.length:Int)>=1))&&decide ((c.cT.l.length:Int)<=16))&&((c.gP.l.length:Int)==c.T.ah))=a;cases a with
   |false=>rfl
   |true=>simp only[cond_true,ae,eO];generalize(((decide (c.Gw>=0))&&(decide (c.Gw<=500)))&&_)=b;cases b with|false=>rfl|true=>simp only[gW,cond_false,ae,eO];cases decide (∀x∈c.gP.l,-1048576<=x/\x<=1048576)<;>rfl
  have q:ll c=bif(UK w (c.cT.l.length:Int) (c.gP.l.length:Int) c.T.ah (c.T.bc.l.length:Int) c.Gw c.LJ||UJ c.It c.LK c.yr c.CI)then some (Sl.nil,false)else bif decide (∀x∈c.gP.l,-1048576<=x/\x<=1048576)then((aP (fM c) (0,Sl.nil)).bind fun
    |.inl b19=>some (Sl.nil,b19)
    |.inr s20=>some (s20,true))else some (Sl.nil,false):=by
   unfold ll;rw[hR2];simp only[ae,gW,cond_false];rw[q2];simp only[ae,Eo h6];unfold UK UJ;generalize((((((((!w)||_)||_)||_)||_)||_)||_)||_)=a;cases a with
   |true=>rfl
   |false=>simp only[cond_false,Bool.false_or];generalize((((((((decide (c.It<0))||_)||_)||_)||_)||_)||_)||_)=b;cases b with|true=>rfl|false=>simp only[cond_false];cases decide (∀x∈c.gP.l,-1048576<=x/\x<=1048576)<;>rfl
  rw[p,q,Ut];cases UK w (c.cT.l.length:Int) (c.gP.l.length:Int) c.T.ah (c.T.bc.l.length:Int) c.Gw c.LJ||UJ c.It c.LK c.yr c.CI with
  |true=>exact⟨Sl.nil,hnil,.inr ⟨rfl,rfl⟩⟩
  |false=>
   cases decide (∀x∈c.gP.l,-1048576<=x/\x<=1048576)with
   |false=>exact⟨Sl.nil,hnil,.inr ⟨rfl,rfl⟩⟩
   |true=>
    simp only[jY,Bool.and_self,cond_true,cond_false];rcases J7 h1 h2 h3 h4 h5 c.cT.l.length 0 Sl.nil (by omega) rfl hnil with⟨a,b⟩|⟨r,a,b,ho⟩
    .have a:aP (gT c) (0,Sl.nil)=some (.inl 2):=a;have b:aP (fM c) (0,Sl.nil)=some (.inl false):=b;rw[a,b];exact⟨Sl.nil,hnil,.inr ⟨rfl,rfl⟩⟩
    .have a:aP (gT c) (0,Sl.nil)=some (.inr r):=a;have b:aP (fM c) (0,Sl.nil)=some (.inr r):=b;rw[a,b];exact⟨r,ho,.inl ⟨rfl,rfl⟩⟩
 .have hR:mT c.T=some false:=by rw[vG,decide_eq_false hV]
  have hR2:lG c.T=some false:=by rw[xN h1 h2,decide_eq_false hV]
  refine⟨Sl.nil,hnil,.inr ⟨?_,?_⟩⟩
  .unfold oG;rw[hR];rfl
  .unfold ll;rw[hR2];rfl
theorem Lv(c:aA)(hw:c.cT.l.length<9223372036854775808)(h5:∀s∈c.cT.l,∀x∈s.l,0<=x/\x<=18446744073709551615):qk c=some true:=by
 obtain⟨b,hb,hs⟩:=J2 c hw;unfold qk;rw[hb,x7];cases b with
 |false=>rfl
 |true=>
  obtain⟨k1,k2,k3,k4,k5⟩:=hs rfl;obtain⟨r,ho,h⟩:=Ig k2 k3 k4 k1 h5 k5;simp only[ae,gW,cond_false];rcases h with⟨a,b⟩|⟨a,b⟩
  .rw [a,b];simp only[ae];rw[show((true:Bool)==((0:Int)==0))=true from rfl];simp only[gW,cond_false,bne_self_eq_false,Bool.or_self,ae,Bool.false_and];rw[Gs ho];rfl
  .rw [a,b];simp only[ae];rw[show((false:Bool)==((2:Int)==0))=true from rfl,show((2:Int) !=2)=false from rfl];simp only[gW,cond_false,bne_self_eq_false,Bool.and_false,Bool.or_self,ae];rw[Gs ho];rfl
end Go.Proofs.YtoekkpmeeclpeaaGreat.S
