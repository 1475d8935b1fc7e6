/- Topologies: how far switches are apart, and what Hops answers. Conditions: a topology that may be. -/
import Derived.Test.YtoekkpmeeclpeaaGreatSK
open Int renaming le_refl->gR,toNat_natCast->iD
open List renaming getElem?_eq_getElem->bf,getElem_mem->aZ,getElem_of_mem->ga,length_append->aA,length_cons->ck,length_set->eW,length_singleton->aR,mem_append->aG,mem_append_left->bw,mem_flatMap->cA,mem_of_getElem?->bl,mem_singleton->az,pairwise_cons->fG,replicate->ay
open Option renaming bind_some->af
open Option.some renaming injEq->fo
open Go.Ev Go
namespace Go.Proofs.YtoekkpmeeclpeaaGreat.S
theorem K3{α:Type}[Inhabited α]{l:List α}{n m:Nat}{x:α}(hn:n<l.length):gt (l.set n x) m=if n=m then x else gt l m:=by
 simp only[gt,List.getD_eq_getElem?_getD,List.getElem?_set];by_cases h:n=m
 .subst h;simp[hn]
 .simp [h]
def WL(t:ao)(v w:Int):Prop:=∃l∈t.a7.l,(l.A=v/\l.B=w)\/(l.B=v/\l.A=w)
theorem Uv{t:ao}(hV:fF t){l:a_}(hl:l∈t.a7.l):(0<=l.A/\l.A<t.au)/\0<=l.B/\l.B<t.au:=by have h1:=hV.ic ⟨l.A,l.mq⟩ (by rw[pL];exact bw _ (cA.2 ⟨l,hl,by simp[zF]⟩));have h2:=hV.ic ⟨l.B,l.mo⟩ (by rw[pL];exact bw _ (cA.2 ⟨l,hl,by simp[zF]⟩));exact⟨h1.1,h2.1⟩
theorem WL.AA{t:ao}(hV:fF t){v w:Int}(h:WL t v w):0<=w/\w<t.au:=by
 obtain⟨l,hl,h⟩:=h;obtain⟨h1,h2⟩:=Uv hV hl;rcases h with⟨_,rfl⟩|⟨_,rfl⟩
 .exact h2
 .exact h1
theorem Q1{t:ao}(hV:fF t){v:Int}{x:aD}(h:x∈gj t v):WL t v x.To:=by
 obtain⟨i,l,b,h1,h2,_⟩:=(qk hV).1 h;refine⟨l,bl h1,?_⟩;rcases h2 with⟨rfl,_,h3,_⟩|⟨rfl,_,h3,_⟩
 .exact .inl ⟨rfl,h3.symm⟩
 .exact .inr ⟨rfl,h3.symm⟩
theorem SP{t:ao}(hV:fF t){v w:Int}(h:WL t v w):∃x∈gj t v,x.To=w:=by
 obtain⟨l,hl,h⟩:=h;obtain⟨i,hi,rfl⟩:=ga hl;have e:t.a7.l[i]?=some t.a7.l[i]:=bf hi;rcases h with⟨rfl,rfl⟩|⟨rfl,rfl⟩
 .exact ⟨⟨t.a7.l[i].mq,t.a7.l[i].B,(i:Int)⟩,(qk hV).2 ⟨i,_,_,e,.inl ⟨rfl,rfl,rfl,rfl⟩,rfl⟩,rfl⟩
 .exact ⟨⟨t.a7.l[i].mo,t.a7.l[i].A,(i:Int)⟩,(qk hV).2 ⟨i,_,_,e,.inr ⟨rfl,rfl,rfl,rfl⟩,rfl⟩,rfl⟩
inductive EB(t:ao):Nat->Int->Int->Prop
 |zero (u:Int):EB t 0 u u
 |gP {n:Nat} {u v w:Int} (h:EB t n u v) (ha:WL t v w):EB t (n+1) u w
structure Hq(t:ao)(u:Int)(d:List Int):Prop where
 len:(d.length:Int)=t.au
 lo:∀v:Nat,v<d.length->-1<=gt d v/\gt d v<d.length
 Pu:∀v:Nat,v<d.length->0<=gt d v->EB t (gt d v).toNat u v
 Rm:∀(n v:Nat),v<d.length->EB t n u v->0<=gt d v/\gt d v<=n
def oj(d:List Int):Nat:=d.countP (fun x=>decide (x<0))
theorem Da{d:List Int}{n:Nat}{x:Int}(hn:n<d.length)(h:gt d n<0)(hx:0<=x):oj (d.set n x)+1=oj d:=by unfold oj;rw[List.countP_set hn,<-dc hn];have h1:decide (gt d n<0)=true:=decide_eq_true h;have h2:decide (x<0)=false:=decide_eq_false (by omega);have h3:0<d.countP (fun x=>decide (x<0)):=List.countP_pos_iff.2 ⟨gt d n,by rw[dc hn];exact aZ _,h1⟩;simp only[h1,h2,if_true,Bool.false_eq_true,if_false];omega
structure Pb(t:ao)(u:Nat)(d q:List Int):Prop where
 len:(d.length:Int)=t.au
 WY:u<d.length
 lo:∀v:Nat,v<d.length->-1<=gt d v
 Pu:∀v:Nat,v<d.length->0<=gt d v->EB t (gt d v).toNat (u:Int) v
 Kr:∀x∈q,∃n:Nat,x=(n:Int)/\n<d.length/\0<=gt d n
 mono:q.Pairwise (fun x y=>gt d x.toNat<=gt d y.toNat)
 top:∀h,q.head?=some h->∀v:Nat,v<d.length->gt d v<=gt d h.toNat+1
 done:∀v:Nat,v<d.length->0<=gt d v->(v:Int)∉q->∀w:Nat,WL t v w->0<=gt d w/\gt d w<=gt d v+1
 Fv:gt d u=0
 JF:∀v:Nat,v<d.length->gt d v+oj d+1<=d.length
 count:q.length+oj d<=d.length
theorem Pb.push{t:ao}{u:Nat}{d q:List Int}(h:Pb t u d q){hd:Nat}(hq:q.head?=some (hd:Int)){w:Nat}(hw:w<d.length)(hlt:gt d w<0)(ha:WL t hd w):
  Pb t u (d.set w (gt d hd+1)) (q++[(w:Int)])/\oj (d.set w (gt d hd+1))+1=oj d/\∀v:Nat,0<=gt d v->gt (d.set w (gt d hd+1)) v=gt d v:=by
 have hhm:(hd:Int)∈q:=List.mem_of_head? hq;obtain⟨n0,e0,hhl,hh0⟩:=h.Kr _ hhm;obtain rfl:hd=n0:=by omega
 have hu:=Da hw hlt (show 0<=gt d hd+1 by omega);have hg:∀v:Nat,gt (d.set w (gt d hd+1)) v=if w=v then gt d hd+1 else gt d v:=fun v=>K3 hw;have hsame:∀v:Nat,0<=gt d v->gt (d.set w (gt d hd+1)) v=gt d v:=fun v hv=>by rw[hg,if_neg];rintro rfl;omega
 have hqs:∀x∈q,gt (d.set w (gt d hd+1)) x.toNat=gt d x.toNat:=fun x hx=>by obtain⟨n,rfl,_,hn⟩:=h.Kr x hx;exact hsame _ (by simpa using hn)
 refine⟨⟨by rw[eW];exact h.len,by rw[eW];exact h.WY,fun v hv=>?_,fun v hv h0=>?_,fun x hx=>?_,?_,fun x hx v hv=>?_,fun v hv h0 hn y hy=>?_,?_,fun v hv=>?_,?_⟩,hu,hsame⟩
 .rw [eW]at hv;rw[hg];split
  .omega
  .exact h.lo v hv
 .rw [eW]at hv;rw[hg]at h0|-;split
  .rename_i e;subst e;have:=EB.gP (h.Pu hd hhl hh0) ha;have e:(gt d hd+1).toNat=(gt d hd).toNat+1:=by omega
   rw[e];exact this
  .rename_i e;rw[if_neg e]at h0;exact h.Pu v hv h0
 .rcases aG.1 hx with hx|hx
  .obtain ⟨n,rfl,h1,h2⟩:=h.Kr x hx;exact⟨n,rfl,by rw[eW];exact h1,by rw[hsame n h2];exact h2⟩
  .obtain rfl:=az.1 hx;exact⟨w,rfl,by rw[eW];exact hw,by rw[hg,if_pos rfl];omega⟩
 .rw [List.pairwise_append];refine⟨?_,by simp,fun x hx y hy=>?_⟩
  .refine List.Pairwise.imp_of_mem (fun{x y}hx hy hxy=>?_) h.mono;rw[hqs x hx,hqs y hy];exact hxy
  .obtain rfl:=az.1 hy;rw[hqs x hx,iD,hg,if_pos rfl];obtain⟨n,rfl,h1,_⟩:=h.Kr x hx;have:=h.top _ hq n h1;simpa using this
 .rw [eW]at hv;have hx2:x=(hd:Int):=by cases q with|nil=>simp at hq|cons a q=>simp only[List.cons_append,List.head?_cons,fo]at hx hq;omega
  subst hx2;rw[hqs _ hhm,hg];split
  .simp
  .exact h.top _ hq v hv
 .rw [eW]at hv;have hvw:w≠v:=by rintro rfl;exact hn (List.mem_append_right _ (by simp))
  rw[hg v,if_neg hvw]at h0;rw[hg v,if_neg hvw];have h1:=h.done v hv h0 (fun hm=>hn (bw _ hm)) y hy;rw[hsame y h1.1];exact h1
 .rw [hsame u (by rw[h.Fv];exact gR _)];exact h.Fv
 .rw [eW]at hv|-;rw[hg];split
  .have:=h.JF hd hhl;omega
  .have:=h.JF v hv;omega
 .have:=h.count;rw[aA,eW,aR];omega
theorem GQ(r9:Sl aD)(i15:Int)(d q:List Int):nG r9 (i15,Sl.mk d,Sl.mk q)=(
 bif decide (i15<(r9.l.length:Int))then(((cH i15 r9.l.length).bind fun n18=>
 (cH (aD.To (gt r9.l n18)) d.length).bind fun n19=>
 bif decide ((gt d n19)<0)then((cH 0 q.length).bind fun n20=>
 (cH (gt q n20) d.length).bind fun n21=>
 (cH (aD.To (gt r9.l n18)) d.length).bind fun n22=>
 (g_ (q++[aD.To (gt r9.l n18)])).bind fun l23=>
 some ((Sl.mk (d.set n22 (wr .i64 ((gt d n21)+1)))),(Sl.mk l23)))else
 (some (Sl.mk d,Sl.mk q)):Option (Sl Int×Sl Int)).bind fun(s24,s25)=>
 some (.inl (wr .i64 (i15+1),s24,s25)))else
 (some (.inr (Sl.mk d,Sl.mk q)))):=rfl
theorem Mz(t_0:ao)(d q:List Int):nF t_0 (Sl.mk d,Sl.mk q)=(
 bif decide ((q.length:Int)>0)then((cH 0 q.length).bind fun n8=>
 (nE t_0 (gt q n8)).bind fun r9=>
 (aU (nG r9) (0,Sl.mk d,Sl.mk q)).bind fun(s26,s27)=>
 (ou s27.l 1 s27.l.length).bind fun l28=>
 some (.inl (s26,(s27.to l28))))else
 (some (.inr (Sl.mk d)))):=rfl
theorem K2{t:ao}(hV:fF t){u:Nat}{d q:List Int}(hI:Pb t u d q){hd:Nat}(hq:q.head?=some (hd:Int)){r:Sl aD}(hr:r.l=gj t hd)(hrl:r.l.length<=8):
  ∃d' q',aU (nG r) (0,Sl.mk d,Sl.mk q)=some (Sl.mk d',Sl.mk q')/\Pb t u d' q'/\q'.head?=some (hd:Int)/\q'.length+oj d'=q.length+oj d/\∀w:Nat,WL t hd w->0<=gt d' w/\gt d' w<=gt d' hd+1:=by
 have e0:((0:Nat):Int)=0:=rfl;have h8:t.au<=8:=hV.sw.2
 refine XV (f:=nG r) (fun i(s:List Int×List Int)=>((i:Int),Sl.mk s.1,Sl.mk s.2)) r.l.length
  (fun i s=>Pb t u s.1 s.2/\s.2.head?=some (hd:Int)/\s.2.length+oj s.1=q.length+oj d/\∀x∈r.l.take i,0<=gt s.1 x.To.toNat/\gt s.1 x.To.toNat<=gt s.1 hd+1)
  (fun b=>∃d1 q1,b=(Sl.mk d1,Sl.mk q1)/\Pb t u d1 q1/\q1.head?=some (hd:Int)/\q1.length+oj d1=q.length+oj d/\∀x∈r.l,0<=gt d1 x.To.toNat/\gt d1 x.To.toNat<=gt d1 hd+1) ?_ ?_ 0 (d,q) (Nat.zero_le _) ⟨hI,hq,rfl,fun x hx=>by simp at hx⟩ (fun b q1 q2=>?_)
 .rintro i ⟨d1,q1⟩ hi ⟨h1,h2,h3,h4⟩;left;simp only at h1 h2 h3 h4;have hm:gt r.l i∈gj t hd:=by rw[<-hr,dc hi];exact aZ _
  have ha:=Q1 hV hm;have hin:=ha.AA hV;obtain⟨w,hw⟩:∃w:Nat,(gt r.l i).To=(w:Int):=⟨(gt r.l i).To.toNat,by omega⟩
  have hwl:w<d1.length:=by have:=h1.len;omega
  have hhm:(hd:Int)∈q1:=List.mem_of_head? h2;obtain⟨n0,e1,hhl,hh0⟩:=h1.Kr _ hhm;obtain rfl:hd=n0:=by omega
  have et:r.l.take (i+1)=r.l.take i++[gt r.l i]:=by rw[dc hi,List.take_append_getElem hi]
  have i1:cH (gt r.l i).To d1.length=some w:=by rw[hw];exact bV hwl
  have w3:=zS (show i<9223372036854775807 by omega);by_cases hc:gt d1 w<0
  .have hd1:decide (gt d1 w<0)=true:=decide_eq_true hc;have hne:q1≠[]:=by rintro rfl;simp at h2
   have hqpos:0<q1.length:=List.length_pos_iff.2 hne;have i2:cH 0 q1.length=some 0:=bV (i:=0) hqpos;have hg0:gt q1 0=(hd:Int):=by cases q1 with|nil=>exact absurd rfl hne|cons a q1=>simpa[gt]using h2
   have i3:cH (gt q1 0) d1.length=some hd:=by rw[hg0];exact bV hhl
   have hb:=h1.JF hd hhl;have hlen:=h1.len;have hcnt:=h1.count;have hcap:g_ (q1++[(gt r.l i).To])=some (q1++[(w:Int)]):=by rw[hw];exact nX (by rw[aA,aR];omega)
   have hwr:wr .i64 (gt d1 hd+1)=gt d1 hd+1:=iY (by omega) (by omega);obtain⟨p1,p2,p3⟩:=h1.push h2 hwl hc (hw▸ha);refine⟨(d1.set w (gt d1 hd+1),q1++[(w:Int)]),by simp only[GQ,z8,nM hi,cond_true,bV hi,af,i1,hd1,i2,i3,hcap,hwr,w3],p1,?_,?_,fun x hx=>?_⟩
   .cases q1 with|nil=>exact absurd rfl hne|cons a q1=>simpa using h2
   .simp only[aA,aR];omega
   .simp only;rw[et]at hx;rw[p3 hd hh0];rcases aG.1 hx with hx|hx
    .have:=h4 x hx;rw[p3 _ this.1];exact this
    .obtain rfl:=az.1 hx;rw[hw,iD,K3 hwl,if_pos rfl];omega
  .have hd1:decide (gt d1 w<0)=false:=decide_eq_false hc;refine⟨(d1,q1),by simp only[GQ,z8,nM hi,cond_true,bV hi,af,i1,hd1,cond_false,w3],h1,h2,h3,fun x hx=>?_⟩;rw[et]at hx;rcases aG.1 hx with hx|hx
   .exact h4 x hx
   .obtain rfl:=az.1 hx;rw[hw,iD];have:=h1.top _ h2 w hwl;rw[iD]at this;simp only;omega
 .rintro ⟨d1,q1⟩ ⟨h1,h2,h3,h4⟩;rw[List.take_length]at h4;exact⟨_,by simp only[GQ,sS,cond_false],d1,q1,rfl,h1,h2,h3,h4⟩
 .rw [e0]at q1;obtain⟨d1,p1,rfl,h1,h2,h3,h4⟩:=q2;refine⟨d1,p1,q1,h1,h2,h3,fun w hw=>?_⟩;obtain⟨x,hx,he⟩:=SP hV hw;have:=h4 x (by rw[hr];exact hx);rwa[he,iD]at this
theorem OC{t:ao}(hV:fF t){u:Nat}{d q:List Int}(hI:Pb t u d q):∃d',aU (nF t) (Sl.mk d,Sl.mk q)=some (Sl.mk d')/\Pb t u d' []:=by
 refine WR (f:=nF t) (fun s=>s.2.l.length+oj s.1.l) (fun s=>∃d1 q1,s=(Sl.mk d1,Sl.mk q1)/\Pb t u d1 q1) (fun b=>∃d',b=Sl.mk d'/\Pb t u d' []) ?_ (Sl.mk d,Sl.mk q) ⟨d,q,rfl,hI⟩ fun b h1 h2=>by obtain⟨d',rfl,h2⟩:=h2;exact⟨d',h1,h2⟩
 rintro _ ⟨d1,q1,rfl,h⟩;cases q1 with
 |nil=>right;exact⟨Sl.mk d1,by simp only[Mz];rfl,d1,rfl,h⟩
 |cons a q1=>
  left;obtain⟨hd,rfl,_,_⟩:=h.Kr a (List.mem_cons_self ..);obtain⟨s,hs,hsl⟩:=DK hV (hd:Int);have hs8:s.l.length<=8:=by rw[hsl];exact Nat.le_trans (List.length_filterMap_le _ _) (by simp)
  obtain⟨d',q',k1,k2,k3,k4,k5⟩:=K2 hV h rfl hsl hs8;have hdec:decide ((((((hd:Int)::q1).length:Nat)):Int)>0)=true:=by rw[decide_eq_true_eq];simp only[ck];omega
  have i1:cH 0 (((hd:Int)::q1).length)=some 0:=bV (i:=0) (by simp);cases q' with
  |nil=>simp at k3
  |cons b q'=>
   obtain rfl:b=(hd:Int):=by simpa using k3
   have hcut:ou ((hd:Int)::q') 1 (((hd:Int)::q').length)=some q':=by refine vM.2 ⟨by simp only[ck];omega,?_⟩;simp
   refine⟨(Sl.mk d',Sl.mk q'),by simp only[Mz,z8,Sl.to,hdec,cond_true,i1,af,show gt ((hd:Int)::q1) 0=(hd:Int)from rfl,hs,k1,hcut],⟨d',q',rfl,?_⟩,?_⟩
   .refine ⟨k2.len,k2.WY,k2.lo,k2.Pu,fun x hx=>k2.Kr x (List.mem_cons_of_mem _ hx),(fG.1 k2.mono).2,fun x hx v hv=>?_,fun v hv h0 hn w hw=>?_,k2.Fv,k2.JF,?_⟩
    .have h1:=k2.top _ rfl v hv;have h2:=(fG.1 k2.mono).1 x (List.mem_of_head? hx);omega
    .by_cases he:v=hd
     .subst he;exact k5 w hw
     .exact k2.done v hv h0 (fun hm=>by
       rcases List.mem_cons.1 hm with h|h
       .omega
       .exact hn h) w hw
    .have:=k2.count;simp only[ck]at this;omega
   .simp only[z8,ck]at k4|-;omega
theorem EB.AA{t:ao}(hV:fF t){n:Nat}{u v:Int}(h:EB t n u v)(hu:0<=u/\u<t.au):0<=v/\v<t.au:=by cases h with|zero=>exact hu|gP _ ha=>exact ha.AA hV
theorem SG{t:ao}(hV:fF t){u:Nat}{d:List Int}(h:Pb t u d []):Hq t u d:=by
 have h8:=hV.sw.2;have hl:=h.len;refine⟨h.len,fun v hv=>⟨h.lo v hv,?_⟩,h.Pu,?_⟩
 .have:=h.JF v hv;omega
 .have key:∀(n:Nat)(w:Int),EB t n (u:Int) w->∀v:Nat,w=(v:Int)->0<=gt d v/\gt d v<=n:=by
   intro n;induction n with
   |zero=>
    intro w hw v hv;cases hw;obtain rfl:u=v:=by omega
    rw[h.Fv];omega
   |succ n ih=>
    intro w hw v hv;cases hw with
    |@gP _ _ x _ hx ha=>
     have hxm:=hx.AA hV ⟨by omega,by have:=h.WY;omega⟩;have e:x=((x.toNat:Nat):Int):=by omega
     have h1:=ih x hx x.toNat e;have h2:=h.done x.toNat (by omega) h1.1 (by simp) v (by rw[<-e,<-hv];exact ha);omega
  exact fun n v hv hw=>key n v hw v rfl
theorem If{s:Int}(h1:1<=s)(h2:s<=8):dN (Sl.mk [(-1)]) s=some (Sl.mk (ay s.toNat (-1))):=by have:=Dr (x:=-1) (n:=s.toNat) (by omega) (by omega);rwa[show((s.toNat:Nat):Int)=s by omega]at this
theorem RD{n v:Nat}(h:v<n):gt (ay n (-1:Int)) v=-1:=by rw[dc (by simpa using h)];simp
theorem OB{t:ao}(hV:fF t){sw:Int}(h:0<=sw/\sw<t.au):∃d,pI t sw=some (.mk d)/\Hq t sw d:=by
 have e:(if 0>t.au then 0 else t.au)=t.au:=if_neg (by have:=hV.sw;omega);have hc:((decide (sw<0))||(decide (sw>=t.au)))=false:=by simp only[Bool.or_eq_false_iff,decide_eq_false_iff_not];omega
 obtain⟨u,rfl⟩:∃u:Nat,sw=(u:Int):=⟨sw.toNat,by omega⟩
 have hul:u<(ay t.au.toNat (-1:Int)).length:=by simp;omega
 have i1:cH (u:Int) (ay t.au.toNat (-1:Int)).length=some u:=bV hul;have hlen:((ay t.au.toNat (-1:Int)).set u 0).length=t.au.toNat:=by simp
 have hg:∀v:Nat,v<t.au.toNat->gt ((ay t.au.toNat (-1:Int)).set u 0) v=if u=v then 0 else-1:=fun v hv=>by rw[K3 hul,RD hv]
 have hun:oj ((ay t.au.toNat (-1:Int)).set u 0)+1=t.au.toNat:=by rw[Da hul (by rw[RD (by simpa using hul)];decide) (gR 0)];simp[oj,List.countP_replicate]
 have hB:Pb t u ((ay t.au.toNat (-1:Int)).set u 0) [(u:Int)]:=by
  refine⟨by rw[hlen];omega,by rw[hlen];omega,fun v hv=>?_,fun v hv h0=>?_,fun x hx=>?_,by simp,fun x hx v hv=>?_,fun v hv h0 hn=>?_,?_,fun v hv=>?_,?_⟩
  .rw [hlen]at hv;rw[hg v hv];split<;>omega
  .rw [hlen]at hv;rw[hg v hv]at h0|-;split
   .rename_i e;subst e;exact .zero _
   .rename_i e;rw[if_neg e]at h0;omega
  .obtain rfl:=az.1 hx;exact⟨u,rfl,by rw[hlen];omega,by rw[hg u (by omega),if_pos rfl];exact gR _⟩
  .obtain rfl:(u:Int)=x:=by simpa using hx
   rw[hlen]at hv;rw[hg v hv,iD,hg u (by omega),if_pos rfl];split<;>omega
  .rw [hlen]at hv;rw[hg v hv]at h0;split at h0
   .rename_i e;subst e;exact absurd (az.2 rfl) hn
   .omega
  .rw [hg u (by omega),if_pos rfl]
  .rw [hlen]at hv|-;rw[hg v hv];split<;>omega
  .rw [hlen,aR];omega
 obtain⟨d,h1,h2⟩:=OC hV hB;exact⟨d,by simp only[pI,e,If hV.sw.1 hV.sw.2,af,hc,cond_false,z8,i1,h1],SG hV h2⟩
end Go.Proofs.YtoekkpmeeclpeaaGreat.S
open Go.Ev Go
namespace Go.Proofs.YtoekkpmeeclpeaaGreat.S
theorem K1{t:ao}(hV:fF t){sw:Int}(h:0<=sw/\sw<t.au):∃s:Sl Int,pI t sw=some s/\Hq t sw s.l:=
 let⟨d,h1,h2⟩:=OB hV h
 ⟨.mk d,h1,h2⟩
def UL(n:Int)(s:Sl Int)(x y:Nat):Sl Int:=if gt s.l x=n/\gt s.l y=-1 then .mk (s.l.set y (n+1))else s
theorem J7{t:ao}(hV:fF t):∃s:Sl Int,pI t 0=some s/\Hq t 0 s.l/\qT t=some (decide (∀x∈s.l,0<=x)):=by
 have hS:=hV.sw;obtain⟨s,h1,h2⟩:=K1 hV (sw:=0) ⟨by omega,by omega⟩;have hlen:=h2.len
 have h3:=yL (f:=cJ s (-1)) s.l (fun i x=>if x=-1 then some (i:Int)else none) () (by omega) (fun i hi=>by
  simp only[cJ,nM hi,cond_true,bV hi,af];by_cases hc:gt s.l i=-1
  .rw [if_pos hc,hc];rfl
  .have:((-1:Int)==gt s.l i)=false:=by simpa using fun h=>hc h.symm
   rw[if_neg hc,this];rfl) (by simp only[cJ,sS,cond_false])
 refine⟨s,h1,h2,?_⟩;simp only[qT,h1,af,bJ,fC,h3]
 have hall:(∀x∈s.l,0<=x)<->lZ (fun i x=>if x=(-1:Int)then some (i:Int)else none) s.l 0=none:=by
  rw[qY];constructor
  .intro h j x hj;have:=h x (bl hj);rw[if_neg (by omega)]
  .intro h x hx;obtain⟨j,hj,rfl⟩:=ga hx;have h4:=h j s.l[j] (bf hj);have h5:=(h2.lo j hj).1;rw[dc hj]at h5;split at h4
   .simp at h4
   .omega
 cases hc:lZ (fun i x=>if x=(-1:Int)then some (i:Int)else none) s.l 0 with
 |none=>rw[decide_eq_true (hall.2 hc)];rfl
 |some q=>
  obtain⟨j,x,_,h5,_⟩:=nI hc
  have hq:q=(j:Int):=by
   simp only[Nat.zero_add]at h5;split at h5
   .simpa using h5.symm
   .simp at h5
  rw[decide_eq_false (fun h=>by rw[hall.1 h]at hc;simp at hc)];simp only[hq,af];have:decide ((j:Int)>=0)=true:=decide_eq_true (by omega);rw[this];rfl
end Go.Proofs.YtoekkpmeeclpeaaGreat.S
