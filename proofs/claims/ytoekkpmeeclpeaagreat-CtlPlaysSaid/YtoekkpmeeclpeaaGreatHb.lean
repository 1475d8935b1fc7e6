/- Topologies: how far switches are apart, and what Hops answers. Conditions: a topology that may be. -/
import Derived.Test.YtoekkpmeeclpeaaGreatSK
open Int renaming le_refl->gI,lt_trichotomy->mU,toNat_natCast->dA
open List renaming getElem?_eq_getElem->bf,getElem_mem->cW,getElem_of_mem->fD,length_append->au,length_cons->di,length_set->ff,length_singleton->aH,map_append->dm,mem_append->aK,mem_append_left->bM,mem_flatMap->bL,mem_of_getElem?->bA,mem_singleton->aB,pairwise_cons->dW,range->aG,range_succ->ii,replicate->az,take_append_getElem->dZ,take_length->dM
open List.Pairwise renaming imp_of_mem->j6
open Nat renaming zero_le->cG
open Option renaming bind_some->aa
open Option.some renaming inj->af,injEq->eZ
open Go.Ev Go
namespace Go.Proofs.YtoekkpmeeclpeaaGreat.S
theorem Nr{α:Type}[Inhabited α]{l:List α}{n m:Nat}{x:α}(hn:n<l.length):gt (l.set n x) m=if n=m then x else gt l m:=by
 simp only[gt,List.getD_eq_getElem?_getD,List.getElem?_set];by_cases h:n=m
 .subst h;simp[hn]
 .simp [h]
def Uw(t:am)(v w:Int):Prop:=∃l∈t.aS.l,(l.A=v/\l.B=w)\/(l.B=v/\l.A=w)
theorem Uw.symm{t:am}{v w:Int}(h:Uw t v w):Uw t w v:=by obtain⟨l,hl,h⟩:=h;exact⟨l,hl,h.elim (fun h=>.inr ⟨h.2,h.1⟩) fun h=>.inl ⟨h.2,h.1⟩⟩
theorem TG{t:am}(hV:gB t){l:bd}(hl:l∈t.aS.l):(0<=l.A/\l.A<t.ao)/\0<=l.B/\l.B<t.ao:=by have h1:=hV.jq ⟨l.A,l.jD⟩ (by rw[mr];exact bM _ (bL.2 ⟨l,hl,by simp[oT]⟩));have h2:=hV.jq ⟨l.B,l.jC⟩ (by rw[mr];exact bM _ (bL.2 ⟨l,hl,by simp[oT]⟩));exact⟨h1.1,h2.1⟩
theorem Uw.yq{t:am}(hV:gB t){v w:Int}(h:Uw t v w):0<=w/\w<t.ao:=by
 obtain⟨l,hl,h⟩:=h;obtain⟨h1,h2⟩:=TG hV hl;rcases h with⟨_,rfl⟩|⟨_,rfl⟩
 .exact h2
 .exact h1
theorem Y0{t:am}(hV:gB t){v:Int}{x:aM}(h:x∈gd t v):Uw t v x.To:=by
 obtain⟨i,l,b,h1,h2,_⟩:=(uP hV).1 h;refine⟨l,bA h1,?_⟩;rcases h2 with⟨rfl,_,h3,_⟩|⟨rfl,_,h3,_⟩
 .exact .inl ⟨rfl,h3.symm⟩
 .exact .inr ⟨rfl,h3.symm⟩
theorem aaE{t:am}(hV:gB t){v w:Int}(h:Uw t v w):∃x∈gd t v,x.To=w:=by
 obtain⟨l,hl,h⟩:=h;obtain⟨i,hi,rfl⟩:=fD hl;have e:t.aS.l[i]?=some t.aS.l[i]:=bf hi;rcases h with⟨rfl,rfl⟩|⟨rfl,rfl⟩
 .exact ⟨⟨t.aS.l[i].jD,t.aS.l[i].B,(i:Int)⟩,(uP hV).2 ⟨i,_,_,e,.inl ⟨rfl,rfl,rfl,rfl⟩,rfl⟩,rfl⟩
 .exact ⟨⟨t.aS.l[i].jC,t.aS.l[i].A,(i:Int)⟩,(uP hV).2 ⟨i,_,_,e,.inr ⟨rfl,rfl,rfl,rfl⟩,rfl⟩,rfl⟩
inductive Lu(t:am):Nat->Int->Int->Prop
 |zero (u:Int):Lu t 0 u u
 |iT {n:Nat} {u v w:Int} (h:Lu t n u v) (ha:Uw t v w):Lu t (n+1) u w
structure ww(t:am)(u:Int)(d:List Int):Prop where
 len:(d.length:Int)=t.ao
 lo:∀v:Nat,v<d.length->-1<=gt d v/\gt d v<d.length
 N5:∀v:Nat,v<d.length->0<=gt d v->Lu t (gt d v).toNat u v
 Zj:∀(n v:Nat),v<d.length->Lu t n u v->0<=gt d v/\gt d v<=n
def rz(d:List Int):Nat:=d.countP (fun x=>decide (x<0))
theorem Jd{d:List Int}{n:Nat}{x:Int}(hn:n<d.length)(h:gt d n<0)(hx:0<=x):rz (d.set n x)+1=rz d:=by unfold rz;rw[List.countP_set hn,<-dx hn];have h1:decide (gt d n<0)=true:=decide_eq_true h;have h2:decide (x<0)=false:=decide_eq_false (by omega);have h3:0<d.countP (fun x=>decide (x<0)):=List.countP_pos_iff.2 ⟨gt d n,by rw[dx hn];exact cW _,h1⟩;simp only[h1,h2,if_true,Bool.false_eq_true,if_false];omega
structure WJ(t:am)(u:Nat)(d q:List Int):Prop where
 len:(d.length:Int)=t.ao
 afa:u<d.length
 lo:∀v:Nat,v<d.length->-1<=gt d v
 N5:∀v:Nat,v<d.length->0<=gt d v->Lu t (gt d v).toNat (u:Int) v
 Rf:∀x∈q,∃n:Nat,x=(n:Int)/\n<d.length/\0<=gt d n
 mono:q.Pairwise (fun x y=>gt d x.toNat<=gt d y.toNat)
 top:∀h,q.head?=some h->∀v:Nat,v<d.length->gt d v<=gt d h.toNat+1
 done:∀v:Nat,v<d.length->0<=gt d v->(v:Int)∉q->∀w:Nat,Uw t v w->0<=gt d w/\gt d w<=gt d v+1
 HP:gt d u=0
 Qp:∀v:Nat,v<d.length->gt d v+rz d+1<=d.length
 count:q.length+rz d<=d.length
theorem WJ.push{t:am}{u:Nat}{d q:List Int}(h:WJ t u d q){hd:Nat}(hq:q.head?=some (hd:Int)){w:Nat}(hw:w<d.length)(hlt:gt d w<0)(ha:Uw t hd w):
  WJ t u (d.set w (gt d hd+1)) (q++[(w:Int)])/\rz (d.set w (gt d hd+1))+1=rz d/\∀v:Nat,0<=gt d v->gt (d.set w (gt d hd+1)) v=gt d v:=by
 have hhm:(hd:Int)∈q:=List.mem_of_head? hq;obtain⟨n0,e0,hhl,hh0⟩:=h.Rf _ hhm;obtain rfl:hd=n0:=by omega
 have hu:=Jd hw hlt (show 0<=gt d hd+1 by omega);have hg:∀v:Nat,gt (d.set w (gt d hd+1)) v=if w=v then gt d hd+1 else gt d v:=fun v=>Nr hw;have hsame:∀v:Nat,0<=gt d v->gt (d.set w (gt d hd+1)) v=gt d v:=fun v hv=>by rw[hg,if_neg];rintro rfl;omega
 have hqs:∀x∈q,gt (d.set w (gt d hd+1)) x.toNat=gt d x.toNat:=fun x hx=>by obtain⟨n,rfl,_,hn⟩:=h.Rf x hx;exact hsame _ (by simpa using hn)
 refine⟨⟨by rw[ff];exact h.len,by rw[ff];exact h.afa,fun v hv=>?_,fun v hv h0=>?_,fun x hx=>?_,?_,fun x hx v hv=>?_,fun v hv h0 hn y hy=>?_,?_,fun v hv=>?_,?_⟩,hu,hsame⟩
 .rw [ff]at hv;rw[hg];split
  .omega
  .exact h.lo v hv
 .rw [ff]at hv;rw[hg]at h0|-;split
  .rename_i e;subst e;have:=Lu.iT (h.N5 hd hhl hh0) ha;have e:(gt d hd+1).toNat=(gt d hd).toNat+1:=by omega
   rw[e];exact this
  .rename_i e;rw[if_neg e]at h0;exact h.N5 v hv h0
 .rcases aK.1 hx with hx|hx
  .obtain ⟨n,rfl,h1,h2⟩:=h.Rf x hx;exact⟨n,rfl,by rw[ff];exact h1,by rw[hsame n h2];exact h2⟩
  .obtain rfl:=aB.1 hx;exact⟨w,rfl,by rw[ff];exact hw,by rw[hg,if_pos rfl];omega⟩
 .rw [List.pairwise_append];refine⟨?_,by simp,fun x hx y hy=>?_⟩
  .refine j6 (fun{x y}hx hy hxy=>?_) h.mono;rw[hqs x hx,hqs y hy];exact hxy
  .obtain rfl:=aB.1 hy;rw[hqs x hx,dA,hg,if_pos rfl];obtain⟨n,rfl,h1,_⟩:=h.Rf x hx;have:=h.top _ hq n h1;simpa using this
 .rw [ff]at hv;have hx2:x=(hd:Int):=by cases q with|nil=>simp at hq|cons a q=>simp only[List.cons_append,List.head?_cons,eZ]at hx hq;omega
  subst hx2;rw[hqs _ hhm,hg];split
  .simp
  .exact h.top _ hq v hv
 .rw [ff]at hv;have hvw:w≠v:=by rintro rfl;exact hn (List.mem_append_right _ (by simp))
  rw[hg v,if_neg hvw]at h0;rw[hg v,if_neg hvw];have h1:=h.done v hv h0 (fun hm=>hn (bM _ hm)) y hy;rw[hsame y h1.1];exact h1
 .rw [hsame u (by rw[h.HP];exact gI _)];exact h.HP
 .rw [ff]at hv|-;rw[hg];split
  .have:=h.Qp hd hhl;omega
  .have:=h.Qp v hv;omega
 .have:=h.count;rw[au,ff,aH];omega
theorem Nq(r9:Sl aM)(i15:Int)(d q:List Int):qT r9 (i15,Sl.mk d,Sl.mk q)=(
 bif decide (i15<(r9.l.length:Int))then(((bS i15 r9.l.length).bind fun n18=>
 (bS (aM.To (gt r9.l n18)) d.length).bind fun n19=>
 bif decide ((gt d n19)<0)then((bS 0 q.length).bind fun n20=>
 (bS (gt q n20) d.length).bind fun n21=>
 (bS (aM.To (gt r9.l n18)) d.length).bind fun n22=>
 (fA (q++[aM.To (gt r9.l n18)])).bind fun l23=>
 some ((Sl.mk (d.set n22 (wr .i64 ((gt d n21)+1)))),(Sl.mk l23)))else
 (some (Sl.mk d,Sl.mk q)):Option (Sl Int×Sl Int)).bind fun(s24,s25)=>
 some (.inl (wr .i64 (i15+1),s24,s25)))else
 (some (.inr (Sl.mk d,Sl.mk q)))):=rfl
theorem TR(t_0:am)(d q:List Int):qS t_0 (Sl.mk d,Sl.mk q)=(
 bif decide ((q.length:Int)>0)then((bS 0 q.length).bind fun n8=>
 (qR t_0 (gt q n8)).bind fun r9=>
 (aJ (qT r9) (0,Sl.mk d,Sl.mk q)).bind fun(s26,s27)=>
 (rG s27.l 1 s27.l.length).bind fun l28=>
 some (.inl (s26,(s27.to l28))))else
 (some (.inr (Sl.mk d)))):=rfl
theorem R4{t:am}(hV:gB t){u:Nat}{d q:List Int}(hI:WJ t u d q){hd:Nat}(hq:q.head?=some (hd:Int)){r:Sl aM}(hr:r.l=gd t hd)(hrl:r.l.length<=8):
  ∃d' q',aJ (qT r) (0,Sl.mk d,Sl.mk q)=some (Sl.mk d',Sl.mk q')/\WJ t u d' q'/\q'.head?=some (hd:Int)/\q'.length+rz d'=q.length+rz d/\∀w:Nat,Uw t hd w->0<=gt d' w/\gt d' w<=gt d' hd+1:=by
 have e0:((0:Nat):Int)=0:=rfl;have h8:t.ao<=8:=hV.sw.2
 refine PX (f:=qT r) (fun i(s:List Int×List Int)=>((i:Int),Sl.mk s.1,Sl.mk s.2)) r.l.length
  (fun i s=>WJ t u s.1 s.2/\s.2.head?=some (hd:Int)/\s.2.length+rz s.1=q.length+rz d/\∀x∈r.l.take i,0<=gt s.1 x.To.toNat/\gt s.1 x.To.toNat<=gt s.1 hd+1)
  (fun b=>∃d1 q1,b=(Sl.mk d1,Sl.mk q1)/\WJ t u d1 q1/\q1.head?=some (hd:Int)/\q1.length+rz d1=q.length+rz d/\∀x∈r.l,0<=gt d1 x.To.toNat/\gt d1 x.To.toNat<=gt d1 hd+1) ?_ ?_ 0 (d,q) (cG _) ⟨hI,hq,rfl,fun x hx=>by simp at hx⟩ (fun b q1 q2=>?_)
 .rintro i ⟨d1,q1⟩ hi ⟨h1,h2,h3,h4⟩;left;simp only at h1 h2 h3 h4;have hm:gt r.l i∈gd t hd:=by rw[<-hr,dx hi];exact cW _
  have ha:=Y0 hV hm;have hin:=ha.yq hV;obtain⟨w,hw⟩:∃w:Nat,(gt r.l i).To=(w:Int):=⟨(gt r.l i).To.toNat,by omega⟩
  have hwl:w<d1.length:=by have:=h1.len;omega
  have hhm:(hd:Int)∈q1:=List.mem_of_head? h2;obtain⟨n0,e1,hhl,hh0⟩:=h1.Rf _ hhm;obtain rfl:hd=n0:=by omega
  have et:r.l.take (i+1)=r.l.take i++[gt r.l i]:=by rw[dx hi,dZ hi]
  have i1:bS (gt r.l i).To d1.length=some w:=by rw[hw];exact aY hwl
  have w3:=pN (show i<9223372036854775807 by omega);by_cases hc:gt d1 w<0
  .have hd1:decide (gt d1 w<0)=true:=decide_eq_true hc;have hne:q1≠[]:=by rintro rfl;simp at h2
   have hqpos:0<q1.length:=List.length_pos_iff.2 hne;have i2:bS 0 q1.length=some 0:=aY (i:=0) hqpos;have hg0:gt q1 0=(hd:Int):=by cases q1 with|nil=>exact absurd rfl hne|cons a q1=>simpa[gt]using h2
   have i3:bS (gt q1 0) d1.length=some hd:=by rw[hg0];exact aY hhl
   have hb:=h1.Qp hd hhl;have hlen:=h1.len;have hcnt:=h1.count;have hcap:fA (q1++[(gt r.l i).To])=some (q1++[(w:Int)]):=by rw[hw];exact kz (by rw[au,aH];omega)
   have hwr:wr .i64 (gt d1 hd+1)=gt d1 hd+1:=gZ (by omega) (by omega);obtain⟨p1,p2,p3⟩:=h1.push h2 hwl hc (hw▸ha);refine⟨(d1.set w (gt d1 hd+1),q1++[(w:Int)]),by simp only[Nq,zX,fT hi,cond_true,aY hi,aa,i1,hd1,i2,i3,hcap,hwr,w3],p1,?_,?_,fun x hx=>?_⟩
   .cases q1 with|nil=>exact absurd rfl hne|cons a q1=>simpa using h2
   .simp only[au,aH];omega
   .simp only;rw[et]at hx;rw[p3 hd hh0];rcases aK.1 hx with hx|hx
    .have:=h4 x hx;rw[p3 _ this.1];exact this
    .obtain rfl:=aB.1 hx;rw[hw,dA,Nr hwl,if_pos rfl];omega
  .have hd1:decide (gt d1 w<0)=false:=decide_eq_false hc;refine⟨(d1,q1),by simp only[Nq,zX,fT hi,cond_true,aY hi,aa,i1,hd1,cond_false,w3],h1,h2,h3,fun x hx=>?_⟩;rw[et]at hx;rcases aK.1 hx with hx|hx
   .exact h4 x hx
   .obtain rfl:=aB.1 hx;rw[hw,dA];have:=h1.top _ h2 w hwl;rw[dA]at this;simp only;omega
 .rintro ⟨d1,q1⟩ ⟨h1,h2,h3,h4⟩;rw[dM]at h4;exact⟨_,by simp only[Nq,ij,cond_false],d1,q1,rfl,h1,h2,h3,h4⟩
 .rw [e0]at q1;obtain⟨d1,p1,rfl,h1,h2,h3,h4⟩:=q2;refine⟨d1,p1,q1,h1,h2,h3,fun w hw=>?_⟩;obtain⟨x,hx,he⟩:=aaE hV hw;have:=h4 x (by rw[hr];exact hx);rwa[he,dA]at this
theorem VZ{t:am}(hV:gB t){u:Nat}{d q:List Int}(hI:WJ t u d q):∃d',aJ (qS t) (Sl.mk d,Sl.mk q)=some (Sl.mk d')/\WJ t u d' []:=by
 refine ae3 (f:=qS t) (fun s=>s.2.l.length+rz s.1.l) (fun s=>∃d1 q1,s=(Sl.mk d1,Sl.mk q1)/\WJ t u d1 q1) (fun b=>∃d',b=Sl.mk d'/\WJ t u d' []) ?_ (Sl.mk d,Sl.mk q) ⟨d,q,rfl,hI⟩ fun b h1 h2=>by obtain⟨d',rfl,h2⟩:=h2;exact⟨d',h1,h2⟩
 rintro _ ⟨d1,q1,rfl,h⟩;cases q1 with
 |nil=>right;exact⟨Sl.mk d1,by simp only[TR];rfl,d1,rfl,h⟩
 |cons a q1=>
  left;obtain⟨hd,rfl,_,_⟩:=h.Rf a (List.mem_cons_self ..);obtain⟨s,hs,hsl⟩:=JS hV (hd:Int);have hs8:s.l.length<=8:=by rw[hsl];exact Nat.le_trans (List.length_filterMap_le _ _) (by simp)
  obtain⟨d',q',k1,k2,k3,k4,k5⟩:=R4 hV h rfl hsl hs8;have hdec:decide ((((((hd:Int)::q1).length:Nat)):Int)>0)=true:=by rw[decide_eq_true_eq];simp only[di];omega
  have i1:bS 0 (((hd:Int)::q1).length)=some 0:=aY (i:=0) (by simp);cases q' with
  |nil=>simp at k3
  |cons b q'=>
   obtain rfl:b=(hd:Int):=by simpa using k3
   have hcut:rG ((hd:Int)::q') 1 (((hd:Int)::q').length)=some q':=by refine By.2 ⟨by simp only[di];omega,?_⟩;simp
   refine⟨(Sl.mk d',Sl.mk q'),by simp only[TR,zX,Sl.to,hdec,cond_true,i1,aa,show gt ((hd:Int)::q1) 0=(hd:Int)from rfl,hs,k1,hcut],⟨d',q',rfl,?_⟩,?_⟩
   .refine ⟨k2.len,k2.afa,k2.lo,k2.N5,fun x hx=>k2.Rf x (List.mem_cons_of_mem _ hx),(dW.1 k2.mono).2,fun x hx v hv=>?_,fun v hv h0 hn w hw=>?_,k2.HP,k2.Qp,?_⟩
    .have h1:=k2.top _ rfl v hv;have h2:=(dW.1 k2.mono).1 x (List.mem_of_head? hx);omega
    .by_cases he:v=hd
     .subst he;exact k5 w hw
     .exact k2.done v hv h0 (fun hm=>by
       rcases List.mem_cons.1 hm with h|h
       .omega
       .exact hn h) w hw
    .have:=k2.count;simp only[di]at this;omega
   .simp only[zX,di]at k4|-;omega
theorem Lu.yq{t:am}(hV:gB t){n:Nat}{u v:Int}(h:Lu t n u v)(hu:0<=u/\u<t.ao):0<=v/\v<t.ao:=by cases h with|zero=>exact hu|iT _ ha=>exact ha.yq hV
theorem aau{t:am}(hV:gB t){u:Nat}{d:List Int}(h:WJ t u d []):ww t u d:=by
 have h8:=hV.sw.2;have hl:=h.len;refine⟨h.len,fun v hv=>⟨h.lo v hv,?_⟩,h.N5,?_⟩
 .have:=h.Qp v hv;omega
 .have key:∀(n:Nat)(w:Int),Lu t n (u:Int) w->∀v:Nat,w=(v:Int)->0<=gt d v/\gt d v<=n:=by
   intro n;induction n with
   |zero=>
    intro w hw v hv;cases hw;obtain rfl:u=v:=by omega
    rw[h.HP];omega
   |succ n ih=>
    intro w hw v hv;cases hw with
    |@iT _ _ x _ hx ha=>
     have hxm:=hx.yq hV ⟨by omega,by have:=h.afa;omega⟩;have e:x=((x.toNat:Nat):Int):=by omega
     have h1:=ih x hx x.toNat e;have h2:=h.done x.toNat (by omega) h1.1 (by simp) v (by rw[<-e,<-hv];exact ha);omega
  exact fun n v hv hw=>key n v hw v rfl
theorem ON{s:Int}(h1:1<=s)(h2:s<=8):ft (Sl.mk [(-1)]) s=some (Sl.mk (az s.toNat (-1))):=by have:=Jz (x:=-1) (n:=s.toNat) (by omega) (by omega);rwa[show((s.toNat:Nat):Int)=s by omega]at this
theorem Zz{n v:Nat}(h:v<n):gt (az n (-1:Int)) v=-1:=by rw[dx (by simpa using h)];simp
theorem VY{t:am}(hV:gB t){sw:Int}(h:0<=sw/\sw<t.ao):∃d,tT t sw=some (.mk d)/\ww t sw d:=by
 have e:(if 0>t.ao then 0 else t.ao)=t.ao:=if_neg (by have:=hV.sw;omega);have hc:((decide (sw<0))||(decide (sw>=t.ao)))=false:=by simp only[Bool.or_eq_false_iff,decide_eq_false_iff_not];omega
 obtain⟨u,rfl⟩:∃u:Nat,sw=(u:Int):=⟨sw.toNat,by omega⟩
 have hul:u<(az t.ao.toNat (-1:Int)).length:=by simp;omega
 have i1:bS (u:Int) (az t.ao.toNat (-1:Int)).length=some u:=aY hul;have hlen:((az t.ao.toNat (-1:Int)).set u 0).length=t.ao.toNat:=by simp
 have hg:∀v:Nat,v<t.ao.toNat->gt ((az t.ao.toNat (-1:Int)).set u 0) v=if u=v then 0 else-1:=fun v hv=>by rw[Nr hul,Zz hv]
 have hun:rz ((az t.ao.toNat (-1:Int)).set u 0)+1=t.ao.toNat:=by rw[Jd hul (by rw[Zz (by simpa using hul)];decide) (gI 0)];simp[rz,List.countP_replicate]
 have hB:WJ t u ((az t.ao.toNat (-1:Int)).set u 0) [(u:Int)]:=by
  refine⟨by rw[hlen];omega,by rw[hlen];omega,fun v hv=>?_,fun v hv h0=>?_,fun x hx=>?_,by simp,fun x hx v hv=>?_,fun v hv h0 hn=>?_,?_,fun v hv=>?_,?_⟩
  .rw [hlen]at hv;rw[hg v hv];split<;>omega
  .rw [hlen]at hv;rw[hg v hv]at h0|-;split
   .rename_i e;subst e;exact .zero _
   .rename_i e;rw[if_neg e]at h0;omega
  .obtain rfl:=aB.1 hx;exact⟨u,rfl,by rw[hlen];omega,by rw[hg u (by omega),if_pos rfl];exact gI _⟩
  .obtain rfl:(u:Int)=x:=by simpa using hx
   rw[hlen]at hv;rw[hg v hv,dA,hg u (by omega),if_pos rfl];split<;>omega
  .rw [hlen]at hv;rw[hg v hv]at h0;split at h0
   .rename_i e;subst e;exact absurd (aB.2 rfl) hn
   .omega
  .rw [hg u (by omega),if_pos rfl]
  .rw [hlen]at hv|-;rw[hg v hv];split<;>omega
  .rw [hlen,aH];omega
 obtain⟨d,h1,h2⟩:=VZ hV hB;exact⟨d,by simp only[tT,e,ON hV.sw.1 hV.sw.2,aa,hc,cond_false,zX,i1,h1],aau hV h2⟩
end Go.Proofs.YtoekkpmeeclpeaaGreat.S
open Go.Ev Go
namespace Go.Proofs.YtoekkpmeeclpeaaGreat.S
section
variable{t:am}{u:Int}{d:List Int}
theorem ww.HP(h:ww t u d){s:Nat}(hs:u=s)(hl:s<d.length):gt d s=0:=by have:=h.Zj 0 s hl (hs▸.zero _);omega
theorem ww.zero(h:ww t u d){v:Nat}(hl:v<d.length)(h0:gt d v=0):u=v:=by have:=h.N5 v hl (by omega);rw[h0]at this;cases this;rfl
theorem ww.next(h:ww t u d){v w:Nat}(hv:v<d.length)(hw:w<d.length)(h0:0<=gt d v)(ha:Uw t v w):0<=gt d w/\gt d w<=gt d v+1:=by have:=h.Zj ((gt d v).toNat+1) w hw (.iT (h.N5 v hv h0) ha);omega
end
theorem R3{t:am}(hV:gB t){sw:Int}(h:0<=sw/\sw<t.ao):∃s:Sl Int,tT t sw=some s/\ww t sw s.l:=
 let⟨d,h1,h2⟩:=VY hV h
 ⟨.mk d,h1,h2⟩
def Iw(n:Int)(s:Sl Int)(x y:Nat):Sl Int:=if gt s.l x=n/\gt s.l y=-1 then .mk (s.l.set y (n+1))else s
theorem PT{n:Int}{s:Sl Int}{x y:Nat}(hx:x<s.l.length)(hy:y<s.l.length)(hw:wr .i64 (n+1)=n+1):
  (((bS (x:Int) s.l.length).bind fun n22=>
   bif((gt s.l n22)==n)then((bS (y:Int) s.l.length).bind fun n23=>
   some ((gt s.l n23)==(-1)))else
   (some false):Option Bool).bind fun b24=>
   bif b24 then((bS (y:Int) s.l.length).bind fun n25=>
   some (Sl.mk (s.l.set n25 (wr .i64 (n+1)))))else
   (some s):Option (Sl Int))=some (Iw n s x y):=by
 simp only[aY hx,aY hy,aa,hw,Iw];by_cases h1:gt s.l x=n
 .by_cases h2:gt s.l y=-1
  .rw [if_pos ⟨h1,h2⟩,h1,h2];simp
  .rw [if_neg fun h=>h2 h.2,h1];have:(gt s.l y==-1)=false:=by simpa using h2
   simp[this]
 .rw [if_neg fun h=>h1 h.1];have:(gt s.l x==n)=false:=by simpa using h1
  simp[this]
def Mid(d:List Int)(n:Nat)(l:List Int):Prop:=l.length=d.length/\∀v:Nat,v<d.length->(gt d v<=n->gt l v=gt d v)/\((n:Int)+1<gt d v->gt l v=-1)/\(gt d v=n+1->gt l v=-1\/gt l v=n+1)
theorem PU{t:am}{u:Int}{d:List Int}(hD:ww t u d){n:Nat}{s:Sl Int}(hM:Mid d n s.l){x y:Nat}(hx:x<d.length)(hy:y<d.length)(ha:Uw t x y):
  Mid d n (Iw n s x y).l/\(gt d x=n->gt d y=n+1->gt (Iw n s x y).l y=n+1)/\∀v:Nat,0<=gt s.l v->gt (Iw n s x y).l v=gt s.l v:=by
 have mx:=hM.2 x hx;have my:=hM.2 y hy;unfold Iw;by_cases h:gt s.l x=n/\gt s.l y=-1
 .rw [if_pos h]
  have hdx:gt d x=n:=by
   have:=hD.lo x hx;rcases mU (gt d x) ((n:Int)+1)with h1|h1|h1
   .have:=mx.1 (by omega);omega
   .have:=mx.2.2 h1;omega
   .have:=mx.2.1 h1;omega
  have hn:=hD.next hx hy (by omega) ha
  have hdy:gt d y=n+1:=by
   rcases mU (gt d y) ((n:Int)+1)with h1|h1|h1
   .have:=my.1 (by omega);omega
   .exact h1
   .omega
  have hg:∀v:Nat,gt (s.l.set y ((n:Int)+1)) v=if y=v then(n:Int)+1 else gt s.l v:=fun v=>Nr (by rw[hM.1];exact hy);simp only[zX];refine⟨⟨by rw[ff];exact hM.1,fun v hv=>?_⟩,fun _ _=>by rw[hg,if_pos rfl],fun v hv=>?_⟩
  .rw [hg];split
   .rename_i e;subst e;exact⟨fun h=>by omega,fun h=>by omega,fun _=>.inr rfl⟩
   .exact hM.2 v hv
  .rw [hg,if_neg];rintro rfl;omega
 .rw [if_neg h];refine⟨hM,fun h1 h2=>?_,fun v _=>rfl⟩;have:=mx.1 (by omega);have:=my.2.2 h2;omega
def Rnd(d:List Int)(n:Nat)(l:List Int):Prop:=l.length=d.length/\∀v:Nat,v<d.length->gt l v=if gt d v<=n then gt d v else-1
theorem U8{t:am}(hV:gB t){u:Int}{d:List Int}(hD:ww t u d){n:Nat}(hn:n<100){s:Sl Int}(hR:Rnd d n s.l):∃s',aJ (sf t (n:Int)) (0,s)=some s'/\Rnd d (n+1) s'.l:=by
 have e0:((0:Nat):Int)=0:=rfl;have hl:=hV.xQ
 refine PX (f:=sf t (n:Int)) (fun i(s:Sl Int)=>((i:Int),s)) t.aS.l.length
  (fun i s=>Mid d n s.l/\∀l∈t.aS.l.take i,∀x y:Nat,((l.A=x/\l.B=y)\/(l.B=x/\l.A=y))->gt d x=n->gt d y=n+1->gt s.l y=n+1) (fun s=>Rnd d (n+1) s.l) ?_ ?_ 0 s (cG _)
  ⟨⟨hR.1,fun v hv=>?_⟩,fun l hl=>by simp at hl⟩ (fun b q1 q2=>⟨b,by rw[e0]at q1;exact q1,q2⟩)
 .rintro i s hi ⟨hM,hp⟩;left;have hm:gt t.aS.l i∈t.aS.l:=by rw[dx hi];exact cW _
  obtain⟨hA,hB⟩:=TG hV hm;obtain⟨x,hx⟩:∃x:Nat,(gt t.aS.l i).A=(x:Int):=⟨(gt t.aS.l i).A.toNat,by omega⟩
  obtain⟨y,hy⟩:∃y:Nat,(gt t.aS.l i).B=(y:Int):=⟨(gt t.aS.l i).B.toNat,by omega⟩
  have hdl:=hD.len;have hxd:x<d.length:=by omega
  have hyd:y<d.length:=by omega
  have ha:Uw t x y:=⟨_,hm,.inl ⟨hx,hy⟩⟩
  have hw:wr .i64 ((n:Int)+1)=(n:Int)+1:=gZ (by omega) (by omega);obtain⟨m1,m2,m3⟩:=PU hD hM hxd hyd ha;obtain⟨k1,k2,k3⟩:=PU hD m1 hyd hxd ha.symm;have r1:=PT (n:=(n:Int)) (s:=s) (x:=x) (y:=y) (by rw[hM.1];exact hxd) (by rw[hM.1];exact hyd) hw;have r2:=PT (n:=(n:Int)) (s:=Iw n s x y) (x:=y) (y:=x) (by rw[m1.1];exact hyd) (by rw[m1.1];exact hxd) hw;refine⟨Iw n (Iw n s x y) y x,by simp only[sf,fT hi,cond_true,aY hi,aa,hx,hy,r1,r2,pN (show i<9223372036854775807 by omega)],k1,fun l hlm p q hpq h1 h2=>?_⟩;have et:t.aS.l.take (i+1)=t.aS.l.take i++[gt t.aS.l i]:=by rw[dx hi,dZ hi]
  rw[et]at hlm;rcases aK.1 hlm with hlm|hlm
  .have:=hp l hlm p q hpq h1 h2;have e1:=m3 q (by omega);have e2:=k3 q (by omega);omega
  .obtain rfl:=aB.1 hlm;rcases hpq with⟨h3,h4⟩|⟨h3,h4⟩
   .obtain rfl:x=p:=by omega
    obtain rfl:y=q:=by omega
    have:=m2 h1 h2;rw[k3 y (by omega)];exact this
   .obtain rfl:y=p:=by omega
    obtain rfl:x=q:=by omega
    exact k2 h1 h2
 .rintro s ⟨hM,hp⟩;rw[dM]at hp;refine⟨s,by simp only[sf,ij,cond_false],hM.1,fun v hv=>?_⟩;have mv:=hM.2 v hv;have hlo:=hD.lo v hv;by_cases h1:gt d v<=n
  .rw [if_pos (by omega)];exact mv.1 h1
  .by_cases h2:gt d v=n+1
   .rw [if_pos (by omega),h2];have hwk:=hD.N5 v hv (by omega);have e:(gt d v).toNat=n+1:=by omega
    rw[e]at hwk;cases hwk with
    |@iT _ _ w _ hw ha=>
     have hwm:=ha.symm.yq hV;have hdl:=hD.len;obtain⟨x,rfl⟩:∃x:Nat,w=(x:Int):=⟨w.toNat,by omega⟩
     have hxd:x<d.length:=by omega
     have h3:=hD.Zj n x hxd hw;have h4:=hD.next hxd hv h3.1 ha;obtain⟨l,hlm,hl2⟩:=ha;exact hp l hlm x v hl2 (by omega) h2
   .rw [if_neg (by omega)];exact mv.2.1 (by omega)
 .have:=hR.2 v hv;have hlo:=hD.lo v hv;refine⟨fun h=>by rw[this,if_pos h],fun h=>by rw[this,if_neg (by omega)],fun h=>.inl (by rw[this,if_neg (by omega)])⟩
theorem X_{t:am}(hV:gB t){u:Int}{d:List Int}(hD:ww t u d):∃s,B2 t u=some s/\s.l=d:=by
 have e0:((0:Nat):Int)=0:=rfl;have hS:=hV.sw;have hlen:=hD.len
 have h1:∃s:Sl Int,aJ (pF t u) (0,Sl.nil)=some s/\s.l=(aG d.length).map (fun j:Nat=>if(j:Int)=u then(0:Int)else-1):=by
  refine PX (f:=pF t u) (fun i(s:Sl Int)=>((i:Int),s)) d.length (fun i s=>s.l=(aG i).map (fun j:Nat=>if(j:Int)=u then(0:Int)else-1)) (fun s=>s.l=(aG d.length).map (fun j:Nat=>if(j:Int)=u then(0:Int)else-1)) ?_ ?_ 0 .nil (cG _) rfl (fun b q1 q2=>⟨b,by rw[e0]at q1;exact q1,q2⟩)
  .intro i s hi hs;left;have hd:decide ((i:Int)<t.ao)=true:=decide_eq_true (by omega);have hcap:∀z:Int,fA (s.l++[z])=some (s.l++[z]):=fun z=>kz (by rw[hs];simp;omega);by_cases hc:(i:Int)=u
   .have hb:((i:Int)==u)=true:=by simpa using hc
    refine⟨.mk (s.l++[0]),by simp only[pF,hd,cond_true,hb,hcap,aa,pN (show i<9223372036854775807 by omega)],?_⟩;rw[zX,hs,ii,dm];simp[hc]
   .have hb:((i:Int)==u)=false:=by simpa using hc
    refine⟨.mk (s.l++[-1]),by simp only[pF,hd,cond_true,hb,cond_false,hcap,aa,pN (show i<9223372036854775807 by omega)],?_⟩;rw[zX,hs,ii,dm];simp[hc]
  .intro s hs;have hd:decide ((d.length:Int)<t.ao)=false:=decide_eq_false (by omega);exact⟨s,by simp only[pF,hd,cond_false],hs⟩
 obtain⟨s0,h1,hs0⟩:=h1
 have hR0:Rnd d 0 s0.l:=by
  refine⟨by rw[hs0];simp,fun v hv=>?_⟩;have hg:gt s0.l v=if(v:Int)=u then 0 else-1:=by rw[hs0,dx (by simpa using hv)];simp
  have hlo:=hD.lo v hv;rw[hg];by_cases hc:(v:Int)=u
  .rw [if_pos hc,hD.HP hc.symm hv];rfl
  .rw [if_neg hc];have:gt d v≠0:=fun h=>hc (hD.zero hv h).symm;split<;>omega
 have h2:∃s:Sl Int,aJ (se t) (0,s0)=some s/\Rnd d d.length s.l:=by
  refine PX (f:=se t) (fun i(s:Sl Int)=>((i:Int),s)) d.length (fun i s=>Rnd d i s.l) (fun s=>Rnd d d.length s.l) ?_ ?_ 0 s0 (cG _) hR0 (fun b q1 q2=>⟨b,by rw[e0]at q1;exact q1,q2⟩)
  .intro i s hi hR;left;have hd:decide ((i:Int)<t.ao)=true:=decide_eq_true (by omega);obtain⟨s',k1,k2⟩:=U8 hV hD (n:=i) (by omega) hR;exact⟨s',by simp only[se,hd,cond_true,k1,aa,pN (show i<9223372036854775807 by omega)],k2⟩
  .intro s hR;have hd:decide ((d.length:Int)<t.ao)=false:=decide_eq_false (by omega);exact⟨s,by simp only[se,hd,cond_false],hR⟩
 obtain⟨s,h2,hR⟩:=h2;refine⟨s,by simp only[B2,h1,aa,h2],?_⟩;refine List.ext_getElem hR.1 fun v h3 h4=>?_;have:=hR.2 v h4;have hlo:=hD.lo v h4;rw[if_pos (by omega),dx h3,dx h4]at this;exact this
theorem Ja{t:am}(hV:gB t):∃s:Sl Int,tT t 0=some s/\ww t 0 s.l/\qj t=some (decide (∀x∈s.l,0<=x)):=by
 have hS:=hV.sw;obtain⟨s,h1,h2⟩:=R3 hV (sw:=0) ⟨by omega,by omega⟩;have hlen:=h2.len
 have h3:=xO (f:=dB s (-1)) s.l (fun i x=>if x=-1 then some (i:Int)else none) () (by omega) (fun i hi=>by
  simp only[dB,fT hi,cond_true,aY hi,aa];by_cases hc:gt s.l i=-1
  .rw [if_pos hc,hc];rfl
  .have:((-1:Int)==gt s.l i)=false:=by simpa using fun h=>hc h.symm
   rw[if_neg hc,this];rfl) (by simp only[dB,ij,cond_false])
 refine⟨s,h1,h2,?_⟩;simp only[qj,h1,aa,cJ,g9,h3]
 have hall:(∀x∈s.l,0<=x)<->lE (fun i x=>if x=(-1:Int)then some (i:Int)else none) s.l 0=none:=by
  rw[nP];constructor
  .intro h j x hj;have:=h x (bA hj);rw[if_neg (by omega)]
  .intro h x hx;obtain⟨j,hj,rfl⟩:=fD hx;have h4:=h j s.l[j] (bf hj);have h5:=(h2.lo j hj).1;rw[dx hj]at h5;split at h4
   .simp at h4
   .omega
 cases hc:lE (fun i x=>if x=(-1:Int)then some (i:Int)else none) s.l 0 with
 |none=>rw[decide_eq_true (hall.2 hc)];rfl
 |some q=>
  obtain⟨j,x,_,h5,_⟩:=kw hc
  have hq:q=(j:Int):=by
   simp only[Nat.zero_add]at h5;split at h5
   .simpa using h5.symm
   .simp at h5
  rw[decide_eq_false (fun h=>by rw[hall.1 h]at hc;simp at hc)];simp only[hq,aa];have:decide ((j:Int)>=0)=true:=decide_eq_true (by omega);rw[this];rfl
theorem N3{t:am}(hV:gB t):w5 t=qj t:=by
 obtain⟨s,h1,h2,h3⟩:=Ja hV;obtain⟨r,h4,h5⟩:=X_ hV h2;have hS:=hV.sw;have hlen:=h2.len;rw[h3];unfold w5;rw[h4];simp only[aa]
 have hq:=xO (f:=uy r) r.l (fun _ x=>if x<0 then some false else none) () (by rw[h5];omega) (fun i hi=>by
  simp only[uy,fT hi,cond_true,aY hi,aa];by_cases hc:gt r.l i<0
  .rw [if_pos hc,decide_eq_true hc];rfl
  .rw [if_neg hc,decide_eq_false hc];rfl) (by simp only[uy,ij,cond_false])
 rw[hq,h5];cases hc:lE (fun _ x=>if x<(0:Int)then some false else none) s.l 0 with
 |none=>
  rw[decide_eq_true]
  .rfl
  .intro x hx;obtain⟨j,hj,rfl⟩:=fD hx;have:=nP.1 hc j s.l[j] (bf hj);split at this
   .cases this
   .omega
 |some q=>
  obtain⟨j,x,hj,h6,_⟩:=kw hc;split at h6
  .rename_i hx;obtain rfl:=af h6;rw[decide_eq_false]
   .rfl
   .intro h;have:=h x (bA hj);omega
  .cases h6
end Go.Proofs.YtoekkpmeeclpeaaGreat.S
