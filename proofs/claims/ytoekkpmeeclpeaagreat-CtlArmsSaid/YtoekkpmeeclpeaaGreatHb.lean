/- Topologies: how far switches are apart, and what Hops answers. Conditions: a topology that may be. -/
import Derived.Test.YtoekkpmeeclpeaaGreatSK
open Int renaming le_refl->gJ,toNat_natCast->il
open List renaming getElem?_eq_getElem->bf,getElem_mem->aX,getElem_of_mem->fU,length_append->aA,length_cons->ck,length_set->eT,length_singleton->aP,mem_append->aF,mem_append_left->bw,mem_flatMap->cx,mem_of_getElem?->bj,mem_singleton->az,pairwise_cons->fD,replicate->ay
open Option renaming bind_some->ad
open Option.some renaming injEq->fh
open Go.Ev Go
namespace Go.Proofs.YtoekkpmeeclpeaaGreat.S
theorem Kq{α:Type}[Inhabited α]{l:List α}{n m:Nat}{x:α}(hn:n<l.length):gt (l.set n x) m=if n=m then x else gt l m:=by
 simp only[gt,List.getD_eq_getElem?_getD,List.getElem?_set];by_cases h:n=m
 .subst h;simp[hn]
 .simp [h]
def V_(t:ao)(v w:Int):Prop:=∃l∈t.aZ.l,(l.A=v/\l.B=w)\/(l.B=v/\l.A=w)
theorem TR{t:ao}(hV:fB t){l:a8}(hl:l∈t.aZ.l):(0<=l.A/\l.A<t.au)/\0<=l.B/\l.B<t.au:=by have h1:=hV.gU ⟨l.A,l.lO⟩ (by rw[oW];exact bw _ (cx.2 ⟨l,hl,by simp[yL]⟩));have h2:=hV.gU ⟨l.B,l.lN⟩ (by rw[oW];exact bw _ (cx.2 ⟨l,hl,by simp[yL]⟩));exact⟨h1.1,h2.1⟩
theorem V_.zJ{t:ao}(hV:fB t){v w:Int}(h:V_ t v w):0<=w/\w<t.au:=by
 obtain⟨l,hl,h⟩:=h;obtain⟨h1,h2⟩:=TR hV hl;rcases h with⟨_,rfl⟩|⟨_,rfl⟩
 .exact h2
 .exact h1
theorem Qm{t:ao}(hV:fB t){v:Int}{x:aD}(h:x∈f9 t v):V_ t v x.To:=by
 obtain⟨i,l,b,h1,h2,_⟩:=(pA hV).1 h;refine⟨l,bj h1,?_⟩;rcases h2 with⟨rfl,_,h3,_⟩|⟨rfl,_,h3,_⟩
 .exact .inl ⟨rfl,h3.symm⟩
 .exact .inr ⟨rfl,h3.symm⟩
theorem R4{t:ao}(hV:fB t){v w:Int}(h:V_ t v w):∃x∈f9 t v,x.To=w:=by
 obtain⟨l,hl,h⟩:=h;obtain⟨i,hi,rfl⟩:=fU hl;have e:t.aZ.l[i]?=some t.aZ.l[i]:=bf hi;rcases h with⟨rfl,rfl⟩|⟨rfl,rfl⟩
 .exact ⟨⟨t.aZ.l[i].lO,t.aZ.l[i].B,(i:Int)⟩,(pA hV).2 ⟨i,_,_,e,.inl ⟨rfl,rfl,rfl,rfl⟩,rfl⟩,rfl⟩
 .exact ⟨⟨t.aZ.l[i].lN,t.aZ.l[i].A,(i:Int)⟩,(pA hV).2 ⟨i,_,_,e,.inr ⟨rfl,rfl,rfl,rfl⟩,rfl⟩,rfl⟩
inductive ED(t:ao):Nat->Int->Int->Prop
 |zero (u:Int):ED t 0 u u
 |gM {n:Nat} {u v w:Int} (h:ED t n u v) (ha:V_ t v w):ED t (n+1) u w
structure GI(t:ao)(u:Int)(d:List Int):Prop where
 len:(d.length:Int)=t.au
 lo:∀v:Nat,v<d.length->-1<=gt d v/\gt d v<d.length
 OQ:∀v:Nat,v<d.length->0<=gt d v->ED t (gt d v).toNat u v
 abi:∀(n v:Nat),v<d.length->ED t n u v->0<=gt d v/\gt d v<=n
def nA(d:List Int):Nat:=d.countP (fun x=>decide (x<0))
theorem CB{d:List Int}{n:Nat}{x:Int}(hn:n<d.length)(h:gt d n<0)(hx:0<=x):nA (d.set n x)+1=nA d:=by unfold nA;rw[List.countP_set hn,<-cU hn];have h1:decide (gt d n<0)=true:=decide_eq_true h;have h2:decide (x<0)=false:=decide_eq_false (by omega);have h3:0<d.countP (fun x=>decide (x<0)):=List.countP_pos_iff.2 ⟨gt d n,by rw[cU hn];exact aX _,h1⟩;simp only[h1,h2,if_true,Bool.false_eq_true,if_false];omega
structure Oz(t:ao)(u:Nat)(d q:List Int):Prop where
 len:(d.length:Int)=t.au
 Wo:u<d.length
 lo:∀v:Nat,v<d.length->-1<=gt d v
 OQ:∀v:Nat,v<d.length->0<=gt d v->ED t (gt d v).toNat (u:Int) v
 JM:∀x∈q,∃n:Nat,x=(n:Int)/\n<d.length/\0<=gt d n
 mono:q.Pairwise (fun x y=>gt d x.toNat<=gt d y.toNat)
 top:∀h,q.head?=some h->∀v:Nat,v<d.length->gt d v<=gt d h.toNat+1
 done:∀v:Nat,v<d.length->0<=gt d v->(v:Int)∉q->∀w:Nat,V_ t v w->0<=gt d w/\gt d w<=gt d v+1
 ER:gt d u=0
 I3:∀v:Nat,v<d.length->gt d v+nA d+1<=d.length
 count:q.length+nA d<=d.length
theorem Oz.push{t:ao}{u:Nat}{d q:List Int}(h:Oz t u d q){hd:Nat}(hq:q.head?=some (hd:Int)){w:Nat}(hw:w<d.length)(hlt:gt d w<0)(ha:V_ t hd w):
  Oz t u (d.set w (gt d hd+1)) (q++[(w:Int)])/\nA (d.set w (gt d hd+1))+1=nA d/\∀v:Nat,0<=gt d v->gt (d.set w (gt d hd+1)) v=gt d v:=by
 have hhm:(hd:Int)∈q:=List.mem_of_head? hq;obtain⟨n0,e0,hhl,hh0⟩:=h.JM _ hhm;obtain rfl:hd=n0:=by omega
 have hu:=CB hw hlt (show 0<=gt d hd+1 by omega);have hg:∀v:Nat,gt (d.set w (gt d hd+1)) v=if w=v then gt d hd+1 else gt d v:=fun v=>Kq hw;have hsame:∀v:Nat,0<=gt d v->gt (d.set w (gt d hd+1)) v=gt d v:=fun v hv=>by rw[hg,if_neg];rintro rfl;omega
 have hqs:∀x∈q,gt (d.set w (gt d hd+1)) x.toNat=gt d x.toNat:=fun x hx=>by obtain⟨n,rfl,_,hn⟩:=h.JM x hx;exact hsame _ (by simpa using hn)
 refine⟨⟨by rw[eT];exact h.len,by rw[eT];exact h.Wo,fun v hv=>?_,fun v hv h0=>?_,fun x hx=>?_,?_,fun x hx v hv=>?_,fun v hv h0 hn y hy=>?_,?_,fun v hv=>?_,?_⟩,hu,hsame⟩
 .rw [eT]at hv;rw[hg];split
  .omega
  .exact h.lo v hv
 .rw [eT]at hv;rw[hg]at h0|-;split
  .rename_i e;subst e;have:=ED.gM (h.OQ hd hhl hh0) ha;have e:(gt d hd+1).toNat=(gt d hd).toNat+1:=by omega
   rw[e];exact this
  .rename_i e;rw[if_neg e]at h0;exact h.OQ v hv h0
 .rcases aF.1 hx with hx|hx
  .obtain ⟨n,rfl,h1,h2⟩:=h.JM x hx;exact⟨n,rfl,by rw[eT];exact h1,by rw[hsame n h2];exact h2⟩
  .obtain rfl:=az.1 hx;exact⟨w,rfl,by rw[eT];exact hw,by rw[hg,if_pos rfl];omega⟩
 .rw [List.pairwise_append];refine⟨?_,by simp,fun x hx y hy=>?_⟩
  .refine List.Pairwise.imp_of_mem (fun{x y}hx hy hxy=>?_) h.mono;rw[hqs x hx,hqs y hy];exact hxy
  .obtain rfl:=az.1 hy;rw[hqs x hx,il,hg,if_pos rfl];obtain⟨n,rfl,h1,_⟩:=h.JM x hx;have:=h.top _ hq n h1;simpa using this
 .rw [eT]at hv;have hx2:x=(hd:Int):=by cases q with|nil=>simp at hq|cons a q=>simp only[List.cons_append,List.head?_cons,fh]at hx hq;omega
  subst hx2;rw[hqs _ hhm,hg];split
  .simp
  .exact h.top _ hq v hv
 .rw [eT]at hv;have hvw:w≠v:=by rintro rfl;exact hn (List.mem_append_right _ (by simp))
  rw[hg v,if_neg hvw]at h0;rw[hg v,if_neg hvw];have h1:=h.done v hv h0 (fun hm=>hn (bw _ hm)) y hy;rw[hsame y h1.1];exact h1
 .rw [hsame u (by rw[h.ER];exact gJ _)];exact h.ER
 .rw [eT]at hv|-;rw[hg];split
  .have:=h.I3 hd hhl;omega
  .have:=h.I3 v hv;omega
 .have:=h.count;rw[aA,eT,aP];omega
theorem Gc(r9:Sl aD)(i15:Int)(d q:List Int):mY r9 (i15,Sl.mk d,Sl.mk q)=(
 bif decide (i15<(r9.l.length:Int))then(((cD i15 r9.l.length).bind fun n18=>
 (cD (aD.To (gt r9.l n18)) d.length).bind fun n19=>
 bif decide ((gt d n19)<0)then((cD 0 q.length).bind fun n20=>
 (cD (gt q n20) d.length).bind fun n21=>
 (cD (aD.To (gt r9.l n18)) d.length).bind fun n22=>
 (ic (q++[aD.To (gt r9.l n18)])).bind fun l23=>
 some ((Sl.mk (d.set n22 (wr .i64 ((gt d n21)+1)))),(Sl.mk l23)))else
 (some (Sl.mk d,Sl.mk q)):Option (Sl Int×Sl Int)).bind fun(s24,s25)=>
 some (.inl (wr .i64 (i15+1),s24,s25)))else
 (some (.inr (Sl.mk d,Sl.mk q)))):=rfl
theorem LV(t_0:ao)(d q:List Int):mX t_0 (Sl.mk d,Sl.mk q)=(
 bif decide ((q.length:Int)>0)then((cD 0 q.length).bind fun n8=>
 (mW t_0 (gt q n8)).bind fun r9=>
 (aU (mY r9) (0,Sl.mk d,Sl.mk q)).bind fun(s26,s27)=>
 (nD s27.l 1 s27.l.length).bind fun l28=>
 some (.inl (s26,(s27.to l28))))else
 (some (.inr (Sl.mk d)))):=rfl
theorem Kp{t:ao}(hV:fB t){u:Nat}{d q:List Int}(hI:Oz t u d q){hd:Nat}(hq:q.head?=some (hd:Int)){r:Sl aD}(hr:r.l=f9 t hd)(hrl:r.l.length<=8):
  ∃d' q',aU (mY r) (0,Sl.mk d,Sl.mk q)=some (Sl.mk d',Sl.mk q')/\Oz t u d' q'/\q'.head?=some (hd:Int)/\q'.length+nA d'=q.length+nA d/\∀w:Nat,V_ t hd w->0<=gt d' w/\gt d' w<=gt d' hd+1:=by
 have e0:((0:Nat):Int)=0:=rfl;have h8:t.au<=8:=hV.sw.2
 refine Xo (f:=mY r) (fun i(s:List Int×List Int)=>((i:Int),Sl.mk s.1,Sl.mk s.2)) r.l.length
  (fun i s=>Oz t u s.1 s.2/\s.2.head?=some (hd:Int)/\s.2.length+nA s.1=q.length+nA d/\∀x∈r.l.take i,0<=gt s.1 x.To.toNat/\gt s.1 x.To.toNat<=gt s.1 hd+1)
  (fun b=>∃d1 q1,b=(Sl.mk d1,Sl.mk q1)/\Oz t u d1 q1/\q1.head?=some (hd:Int)/\q1.length+nA d1=q.length+nA d/\∀x∈r.l,0<=gt d1 x.To.toNat/\gt d1 x.To.toNat<=gt d1 hd+1) ?_ ?_ 0 (d,q) (Nat.zero_le _) ⟨hI,hq,rfl,fun x hx=>by simp at hx⟩ (fun b q1 q2=>?_)
 .rintro i ⟨d1,q1⟩ hi ⟨h1,h2,h3,h4⟩;left;simp only at h1 h2 h3 h4;have hm:gt r.l i∈f9 t hd:=by rw[<-hr,cU hi];exact aX _
  have ha:=Qm hV hm;have hin:=ha.zJ hV;obtain⟨w,hw⟩:∃w:Nat,(gt r.l i).To=(w:Int):=⟨(gt r.l i).To.toNat,by omega⟩
  have hwl:w<d1.length:=by have:=h1.len;omega
  have hhm:(hd:Int)∈q1:=List.mem_of_head? h2;obtain⟨n0,e1,hhl,hh0⟩:=h1.JM _ hhm;obtain rfl:hd=n0:=by omega
  have et:r.l.take (i+1)=r.l.take i++[gt r.l i]:=by rw[cU hi,List.take_append_getElem hi]
  have i1:cD (gt r.l i).To d1.length=some w:=by rw[hw];exact bS hwl
  have w3:=yV (show i<9223372036854775807 by omega);by_cases hc:gt d1 w<0
  .have hd1:decide (gt d1 w<0)=true:=decide_eq_true hc;have hne:q1≠[]:=by rintro rfl;simp at h2
   have hqpos:0<q1.length:=List.length_pos_iff.2 hne;have i2:cD 0 q1.length=some 0:=bS (i:=0) hqpos;have hg0:gt q1 0=(hd:Int):=by cases q1 with|nil=>exact absurd rfl hne|cons a q1=>simpa[gt]using h2
   have i3:cD (gt q1 0) d1.length=some hd:=by rw[hg0];exact bS hhl
   have hb:=h1.I3 hd hhl;have hlen:=h1.len;have hcnt:=h1.count;have hcap:ic (q1++[(gt r.l i).To])=some (q1++[(w:Int)]):=by rw[hw];exact nm (by rw[aA,aP];omega)
   have hwr:wr .i64 (gt d1 hd+1)=gt d1 hd+1:=iQ (by omega) (by omega);obtain⟨p1,p2,p3⟩:=h1.push h2 hwl hc (hw▸ha);refine⟨(d1.set w (gt d1 hd+1),q1++[(w:Int)]),by simp only[Gc,zh,m9 hi,cond_true,bS hi,ad,i1,hd1,i2,i3,hcap,hwr,w3],p1,?_,?_,fun x hx=>?_⟩
   .cases q1 with|nil=>exact absurd rfl hne|cons a q1=>simpa using h2
   .simp only[aA,aP];omega
   .simp only;rw[et]at hx;rw[p3 hd hh0];rcases aF.1 hx with hx|hx
    .have:=h4 x hx;rw[p3 _ this.1];exact this
    .obtain rfl:=az.1 hx;rw[hw,il,Kq hwl,if_pos rfl];omega
  .have hd1:decide (gt d1 w<0)=false:=decide_eq_false hc;refine⟨(d1,q1),by simp only[Gc,zh,m9 hi,cond_true,bS hi,ad,i1,hd1,cond_false,w3],h1,h2,h3,fun x hx=>?_⟩;rw[et]at hx;rcases aF.1 hx with hx|hx
   .exact h4 x hx
   .obtain rfl:=az.1 hx;rw[hw,il];have:=h1.top _ h2 w hwl;rw[il]at this;simp only;omega
 .rintro ⟨d1,q1⟩ ⟨h1,h2,h3,h4⟩;rw[List.take_length]at h4;exact⟨_,by simp only[Gc,rS,cond_false],d1,q1,rfl,h1,h2,h3,h4⟩
 .rw [e0]at q1;obtain⟨d1,p1,rfl,h1,h2,h3,h4⟩:=q2;refine⟨d1,p1,q1,h1,h2,h3,fun w hw=>?_⟩;obtain⟨x,hx,he⟩:=R4 hV hw;have:=h4 x (by rw[hr];exact hx);rwa[he,il]at this
theorem NU{t:ao}(hV:fB t){u:Nat}{d q:List Int}(hI:Oz t u d q):∃d',aU (mX t) (Sl.mk d,Sl.mk q)=some (Sl.mk d')/\Oz t u d' []:=by
 refine Wg (f:=mX t) (fun s=>s.2.l.length+nA s.1.l) (fun s=>∃d1 q1,s=(Sl.mk d1,Sl.mk q1)/\Oz t u d1 q1) (fun b=>∃d',b=Sl.mk d'/\Oz t u d' []) ?_ (Sl.mk d,Sl.mk q) ⟨d,q,rfl,hI⟩ fun b h1 h2=>by obtain⟨d',rfl,h2⟩:=h2;exact⟨d',h1,h2⟩
 rintro _ ⟨d1,q1,rfl,h⟩;cases q1 with
 |nil=>right;exact⟨Sl.mk d1,by simp only[LV];rfl,d1,rfl,h⟩
 |cons a q1=>
  left;obtain⟨hd,rfl,_,_⟩:=h.JM a (List.mem_cons_self ..);obtain⟨s,hs,hsl⟩:=Dc hV (hd:Int);have hs8:s.l.length<=8:=by rw[hsl];exact Nat.le_trans (List.length_filterMap_le _ _) (by simp)
  obtain⟨d',q',k1,k2,k3,k4,k5⟩:=Kp hV h rfl hsl hs8;have hdec:decide ((((((hd:Int)::q1).length:Nat)):Int)>0)=true:=by rw[decide_eq_true_eq];simp only[ck];omega
  have i1:cD 0 (((hd:Int)::q1).length)=some 0:=bS (i:=0) (by simp);cases q' with
  |nil=>simp at k3
  |cons b q'=>
   obtain rfl:b=(hd:Int):=by simpa using k3
   have hcut:nD ((hd:Int)::q') 1 (((hd:Int)::q').length)=some q':=by refine u5.2 ⟨by simp only[ck];omega,?_⟩;simp
   refine⟨(Sl.mk d',Sl.mk q'),by simp only[LV,zh,Sl.to,hdec,cond_true,i1,ad,show gt ((hd:Int)::q1) 0=(hd:Int)from rfl,hs,k1,hcut],⟨d',q',rfl,?_⟩,?_⟩
   .refine ⟨k2.len,k2.Wo,k2.lo,k2.OQ,fun x hx=>k2.JM x (List.mem_cons_of_mem _ hx),(fD.1 k2.mono).2,fun x hx v hv=>?_,fun v hv h0 hn w hw=>?_,k2.ER,k2.I3,?_⟩
    .have h1:=k2.top _ rfl v hv;have h2:=(fD.1 k2.mono).1 x (List.mem_of_head? hx);omega
    .by_cases he:v=hd
     .subst he;exact k5 w hw
     .exact k2.done v hv h0 (fun hm=>by
       rcases List.mem_cons.1 hm with h|h
       .omega
       .exact hn h) w hw
    .have:=k2.count;simp only[ck]at this;omega
   .simp only[zh,ck]at k4|-;omega
theorem ED.zJ{t:ao}(hV:fB t){n:Nat}{u v:Int}(h:ED t n u v)(hu:0<=u/\u<t.au):0<=v/\v<t.au:=by cases h with|zero=>exact hu|gM _ ha=>exact ha.zJ hV
theorem RN{t:ao}(hV:fB t){u:Nat}{d:List Int}(h:Oz t u d []):GI t u d:=by
 have h8:=hV.sw.2;have hl:=h.len;refine⟨h.len,fun v hv=>⟨h.lo v hv,?_⟩,h.OQ,?_⟩
 .have:=h.I3 v hv;omega
 .have key:∀(n:Nat)(w:Int),ED t n (u:Int) w->∀v:Nat,w=(v:Int)->0<=gt d v/\gt d v<=n:=by
   intro n;induction n with
   |zero=>
    intro w hw v hv;cases hw;obtain rfl:u=v:=by omega
    rw[h.ER];omega
   |succ n ih=>
    intro w hw v hv;cases hw with
    |@gM _ _ x _ hx ha=>
     have hxm:=hx.zJ hV ⟨by omega,by have:=h.Wo;omega⟩;have e:x=((x.toNat:Nat):Int):=by omega
     have h1:=ih x hx x.toNat e;have h2:=h.done x.toNat (by omega) h1.1 (by simp) v (by rw[<-e,<-hv];exact ha);omega
  exact fun n v hv hw=>key n v hw v rfl
theorem Hl{s:Int}(h1:1<=s)(h2:s<=8):dK (Sl.mk [(-1)]) s=some (Sl.mk (ay s.toNat (-1))):=by have:=CT (x:=-1) (n:=s.toNat) (by omega) (by omega);rwa[show((s.toNat:Nat):Int)=s by omega]at this
theorem QV{n v:Nat}(h:v<n):gt (ay n (-1:Int)) v=-1:=by rw[cU (by simpa using h)];simp
theorem NT{t:ao}(hV:fB t){sw:Int}(h:0<=sw/\sw<t.au):∃d,oT t sw=some (.mk d)/\GI t sw d:=by
 have e:(if 0>t.au then 0 else t.au)=t.au:=if_neg (by have:=hV.sw;omega);have hc:((decide (sw<0))||(decide (sw>=t.au)))=false:=by simp only[Bool.or_eq_false_iff,decide_eq_false_iff_not];omega
 obtain⟨u,rfl⟩:∃u:Nat,sw=(u:Int):=⟨sw.toNat,by omega⟩
 have hul:u<(ay t.au.toNat (-1:Int)).length:=by simp;omega
 have i1:cD (u:Int) (ay t.au.toNat (-1:Int)).length=some u:=bS hul;have hlen:((ay t.au.toNat (-1:Int)).set u 0).length=t.au.toNat:=by simp
 have hg:∀v:Nat,v<t.au.toNat->gt ((ay t.au.toNat (-1:Int)).set u 0) v=if u=v then 0 else-1:=fun v hv=>by rw[Kq hul,QV hv]
 have hun:nA ((ay t.au.toNat (-1:Int)).set u 0)+1=t.au.toNat:=by rw[CB hul (by rw[QV (by simpa using hul)];decide) (gJ 0)];simp[nA,List.countP_replicate]
 have hB:Oz t u ((ay t.au.toNat (-1:Int)).set u 0) [(u:Int)]:=by
  refine⟨by rw[hlen];omega,by rw[hlen];omega,fun v hv=>?_,fun v hv h0=>?_,fun x hx=>?_,by simp,fun x hx v hv=>?_,fun v hv h0 hn=>?_,?_,fun v hv=>?_,?_⟩
  .rw [hlen]at hv;rw[hg v hv];split<;>omega
  .rw [hlen]at hv;rw[hg v hv]at h0|-;split
   .rename_i e;subst e;exact .zero _
   .rename_i e;rw[if_neg e]at h0;omega
  .obtain rfl:=az.1 hx;exact⟨u,rfl,by rw[hlen];omega,by rw[hg u (by omega),if_pos rfl];exact gJ _⟩
  .obtain rfl:(u:Int)=x:=by simpa using hx
   rw[hlen]at hv;rw[hg v hv,il,hg u (by omega),if_pos rfl];split<;>omega
  .rw [hlen]at hv;rw[hg v hv]at h0;split at h0
   .rename_i e;subst e;exact absurd (az.2 rfl) hn
   .omega
  .rw [hg u (by omega),if_pos rfl]
  .rw [hlen]at hv|-;rw[hg v hv];split<;>omega
  .rw [hlen,aP];omega
 obtain⟨d,h1,h2⟩:=NU hV hB;exact⟨d,by simp only[oT,e,Hl hV.sw.1 hV.sw.2,ad,hc,cond_false,zh,i1,h1],RN hV h2⟩
end Go.Proofs.YtoekkpmeeclpeaaGreat.S
open Go.Ev Go
namespace Go.Proofs.YtoekkpmeeclpeaaGreat.S
theorem Ko{t:ao}(hV:fB t){sw:Int}(h:0<=sw/\sw<t.au):∃s:Sl Int,oT t sw=some s/\GI t sw s.l:=
 let⟨d,h1,h2⟩:=NT hV h
 ⟨.mk d,h1,h2⟩
def T_(n:Int)(s:Sl Int)(x y:Nat):Sl Int:=if gt s.l x=n/\gt s.l y=-1 then .mk (s.l.set y (n+1))else s
theorem Jr{t:ao}(hV:fB t):∃s:Sl Int,oT t 0=some s/\GI t 0 s.l/\qe t=some (decide (∀x∈s.l,0<=x)):=by
 have hS:=hV.sw;obtain⟨s,h1,h2⟩:=Ko hV (sw:=0) ⟨by omega,by omega⟩;have hlen:=h2.len
 have h3:=x5 (f:=cG s (-1)) s.l (fun i x=>if x=-1 then some (i:Int)else none) () (by omega) (fun i hi=>by
  simp only[cG,m9 hi,cond_true,bS hi,ad];by_cases hc:gt s.l i=-1
  .rw [if_pos hc,hc];rfl
  .have:((-1:Int)==gt s.l i)=false:=by simpa using fun h=>hc h.symm
   rw[if_neg hc,this];rfl) (by simp only[cG,rS,cond_false])
 refine⟨s,h1,h2,?_⟩;simp only[qe,h1,ad,bJ,fx,h3]
 have hall:(∀x∈s.l,0<=x)<->lF (fun i x=>if x=(-1:Int)then some (i:Int)else none) s.l 0=none:=by
  rw[qj];constructor
  .intro h j x hj;have:=h x (bj hj);rw[if_neg (by omega)]
  .intro h x hx;obtain⟨j,hj,rfl⟩:=fU hx;have h4:=h j s.l[j] (bf hj);have h5:=(h2.lo j hj).1;rw[cU hj]at h5;split at h4
   .simp at h4
   .omega
 cases hc:lF (fun i x=>if x=(-1:Int)then some (i:Int)else none) s.l 0 with
 |none=>rw[decide_eq_true (hall.2 hc)];rfl
 |some q=>
  obtain⟨j,x,_,h5,_⟩:=m7 hc
  have hq:q=(j:Int):=by
   simp only[Nat.zero_add]at h5;split at h5
   .simpa using h5.symm
   .simp at h5
  rw[decide_eq_false (fun h=>by rw[hall.1 h]at hc;simp at hc)];simp only[hq,ad];have:decide ((j:Int)>=0)=true:=decide_eq_true (by omega);rw[this];rfl
end Go.Proofs.YtoekkpmeeclpeaaGreat.S
