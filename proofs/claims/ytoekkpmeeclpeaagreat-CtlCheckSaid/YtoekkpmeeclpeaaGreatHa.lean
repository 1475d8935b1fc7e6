/- Topologies: how far switches are apart, and what Hops answers. Conditions: a topology that may be. -/
import Derived.Test.YtoekkpmeeclpeaaGreatSH
open Int renaming toNat_natCast->gw
open List renaming getElem_mem->eN,length_append->ap,length_cons->bN,length_set->bF,length_singleton->kR,mem_append->aC,mem_append_left->aU,mem_flatMap->cm,mem_singleton->aq,pairwise_cons->fW,replicate->aj
open Option renaming bind_some->ae
open Option.some renaming injEq->eY
open Go.Ev Go
namespace Go.Proofs.YtoekkpmeeclpeaaGreat.S
theorem Du{α:Type}[Inhabited α]{l:List α}{n m:Nat}{x:α}(hn:n<l.length):gt (l.set n x) m=if n=m then x else gt l m:=by
 simp only[gt,List.getD_eq_getElem?_getD,List.getElem?_set];by_cases h:n=m
 .subst h;simp[hn]
 .simp [h]
def JN(t:ai)(v w:Int):Prop:=∃l∈t.aE.l,(l.A=v/\l.B=w)\/(l.B=v/\l.A=w)
theorem JN.symm{t:ai}{v w:Int}(h:JN t v w):JN t w v:=by obtain⟨l,hl,h⟩:=h;exact⟨l,hl,h.elim (fun h=>.inr ⟨h.2,h.1⟩) fun h=>.inl ⟨h.2,h.1⟩⟩
theorem Je{t:ai}(hV:gi t){l:aS}(hl:l∈t.aE.l):(0<=l.A/\l.A<t.ah)/\0<=l.B/\l.B<t.ah:=by have h1:=hV.gZ ⟨l.A,l.iB⟩ (by rw[jS];exact aU _ (cm.2 ⟨l,hl,by simp[kw]⟩));have h2:=hV.gZ ⟨l.B,l.iA⟩ (by rw[jS];exact aU _ (cm.2 ⟨l,hl,by simp[kw]⟩));exact⟨h1.1,h2.1⟩
theorem JN.xW{t:ai}(hV:gi t){v w:Int}(h:JN t v w):0<=w/\w<t.ah:=by
 obtain⟨l,hl,h⟩:=h;obtain⟨h1,h2⟩:=Je hV hl;rcases h with⟨_,rfl⟩|⟨_,rfl⟩
 .exact h2
 .exact h1
theorem M7{t:ai}(hV:gi t){v:Int}{x:aw}(h:x∈eC t v):JN t v x.To:=by
 obtain⟨i,l,b,h1,h2,_⟩:=(qh hV).1 h;refine⟨l,List.mem_of_getElem? h1,?_⟩;rcases h2 with⟨rfl,_,h3,_⟩|⟨rfl,_,h3,_⟩
 .exact .inl ⟨rfl,h3.symm⟩
 .exact .inr ⟨rfl,h3.symm⟩
theorem OR{t:ai}(hV:gi t){v w:Int}(h:JN t v w):∃x∈eC t v,x.To=w:=by
 obtain⟨l,hl,h⟩:=h;obtain⟨i,hi,rfl⟩:=List.getElem_of_mem hl;have e:t.aE.l[i]?=some t.aE.l[i]:=List.getElem?_eq_getElem hi;rcases h with⟨rfl,rfl⟩|⟨rfl,rfl⟩
 .exact ⟨⟨t.aE.l[i].iB,t.aE.l[i].B,(i:Int)⟩,(qh hV).2 ⟨i,_,_,e,.inl ⟨rfl,rfl,rfl,rfl⟩,rfl⟩,rfl⟩
 .exact ⟨⟨t.aE.l[i].iA,t.aE.l[i].A,(i:Int)⟩,(qh hV).2 ⟨i,_,_,e,.inr ⟨rfl,rfl,rfl,rfl⟩,rfl⟩,rfl⟩
inductive BH(t:ai):Nat->Int->Int->Prop
 |zero (u:Int):BH t 0 u u
 |ld {n:Nat} {u v w:Int} (h:BH t n u v) (ha:JN t v w):BH t (n+1) u w
structure oJ(t:ai)(u:Int)(d:List Int):Prop where
 len:(d.length:Int)=t.ah
 lo:∀v:Nat,v<d.length->-1<=gt d v/\gt d v<d.length
 D_:∀v:Nat,v<d.length->0<=gt d v->BH t (gt d v).toNat u v
 Jg:∀(n v:Nat),v<d.length->BH t n u v->0<=gt d v/\gt d v<=n
def ml(d:List Int):Nat:=d.countP (fun x=>decide (x<0))
theorem zG{d:List Int}{n:Nat}{x:Int}(hn:n<d.length)(h:gt d n<0)(hx:0<=x):ml (d.set n x)+1=ml d:=by unfold ml;rw[List.countP_set hn,<-ju hn];have h1:decide (gt d n<0)=true:=decide_eq_true h;have h2:decide (x<0)=false:=decide_eq_false (by omega);have h3:0<d.countP (fun x=>decide (x<0)):=List.countP_pos_iff.2 ⟨gt d n,by rw[ju hn];exact eN _,h1⟩;simp only[h1,h2,if_true,Bool.false_eq_true,if_false];omega
structure LM(t:ai)(u:Nat)(d q:List Int):Prop where
 len:(d.length:Int)=t.ah
 RZ:u<d.length
 lo:∀v:Nat,v<d.length->-1<=gt d v
 D_:∀v:Nat,v<d.length->0<=gt d v->BH t (gt d v).toNat (u:Int) v
 Hd:∀x∈q,∃n:Nat,x=(n:Int)/\n<d.length/\0<=gt d n
 mono:q.Pairwise (fun x y=>gt d x.toNat<=gt d y.toNat)
 top:∀h,q.head?=some h->∀v:Nat,v<d.length->gt d v<=gt d h.toNat+1
 done:∀v:Nat,v<d.length->0<=gt d v->(v:Int)∉q->∀w:Nat,JN t v w->0<=gt d w/\gt d w<=gt d v+1
 yv:gt d u=0
 Gj:∀v:Nat,v<d.length->gt d v+ml d+1<=d.length
 count:q.length+ml d<=d.length
theorem LM.push{t:ai}{u:Nat}{d q:List Int}(h:LM t u d q){hd:Nat}(hq:q.head?=some (hd:Int)){w:Nat}(hw:w<d.length)(hlt:gt d w<0)(ha:JN t hd w):
  LM t u (d.set w (gt d hd+1)) (q++[(w:Int)])/\ml (d.set w (gt d hd+1))+1=ml d/\∀v:Nat,0<=gt d v->gt (d.set w (gt d hd+1)) v=gt d v:=by
 have hhm:(hd:Int)∈q:=List.mem_of_head? hq;obtain⟨n0,e0,hhl,hh0⟩:=h.Hd _ hhm;obtain rfl:hd=n0:=by omega
 have hu:=zG hw hlt (show 0<=gt d hd+1 by omega);have hg:∀v:Nat,gt (d.set w (gt d hd+1)) v=if w=v then gt d hd+1 else gt d v:=fun v=>Du hw;have hsame:∀v:Nat,0<=gt d v->gt (d.set w (gt d hd+1)) v=gt d v:=fun v hv=>by rw[hg,if_neg];rintro rfl;omega
 have hqs:∀x∈q,gt (d.set w (gt d hd+1)) x.toNat=gt d x.toNat:=fun x hx=>by obtain⟨n,rfl,_,hn⟩:=h.Hd x hx;exact hsame _ (by simpa using hn)
 refine⟨⟨by rw[bF];exact h.len,by rw[bF];exact h.RZ,fun v hv=>?_,fun v hv h0=>?_,fun x hx=>?_,?_,fun x hx v hv=>?_,fun v hv h0 hn y hy=>?_,?_,fun v hv=>?_,?_⟩,hu,hsame⟩
 .rw [bF]at hv;rw[hg];split
  .omega
  .exact h.lo v hv
 .rw [bF]at hv;rw[hg]at h0|-;split
  .rename_i e;subst e;have:=BH.ld (h.D_ hd hhl hh0) ha;have e:(gt d hd+1).toNat=(gt d hd).toNat+1:=by omega
   rw[e];exact this
  .rename_i e;rw[if_neg e]at h0;exact h.D_ v hv h0
 .rcases aC.1 hx with hx|hx
  .obtain ⟨n,rfl,h1,h2⟩:=h.Hd x hx;exact⟨n,rfl,by rw[bF];exact h1,by rw[hsame n h2];exact h2⟩
  .obtain rfl:=aq.1 hx;exact⟨w,rfl,by rw[bF];exact hw,by rw[hg,if_pos rfl];omega⟩
 .rw [List.pairwise_append];refine⟨?_,by simp,fun x hx y hy=>?_⟩
  .refine List.Pairwise.imp_of_mem (fun{x y}hx hy hxy=>?_) h.mono;rw[hqs x hx,hqs y hy];exact hxy
  .obtain rfl:=aq.1 hy;rw[hqs x hx,gw,hg,if_pos rfl];obtain⟨n,rfl,h1,_⟩:=h.Hd x hx;have:=h.top _ hq n h1;simpa using this
 .rw [bF]at hv;have hx2:x=(hd:Int):=by cases q with|nil=>simp at hq|cons a q=>simp only[List.cons_append,List.head?_cons,eY]at hx hq;omega
  subst hx2;rw[hqs _ hhm,hg];split
  .simp
  .exact h.top _ hq v hv
 .rw [bF]at hv;have hvw:w≠v:=by rintro rfl;exact hn (List.mem_append_right _ (by simp))
  rw[hg v,if_neg hvw]at h0;rw[hg v,if_neg hvw];have h1:=h.done v hv h0 (fun hm=>hn (aU _ hm)) y hy;rw[hsame y h1.1];exact h1
 .rw [hsame u (by rw[h.yv];exact Int.le_refl _)];exact h.yv
 .rw [bF]at hv|-;rw[hg];split
  .have:=h.Gj hd hhl;omega
  .have:=h.Gj v hv;omega
 .have:=h.count;rw[ap,bF,kR];omega
theorem Dt(r9:Sl aw)(i15:Int)(d q:List Int):nw r9 (i15,Sl.mk d,Sl.mk q)=(
 bif decide (i15<(r9.l.length:Int))then(((cC i15 r9.l.length).bind fun n18=>
 (cC (aw.To (gt r9.l n18)) d.length).bind fun n19=>
 bif decide ((gt d n19)<0)then((cC 0 q.length).bind fun n20=>
 (cC (gt q n20) d.length).bind fun n21=>
 (cC (aw.To (gt r9.l n18)) d.length).bind fun n22=>
 (kc (q++[aw.To (gt r9.l n18)])).bind fun l23=>
 some ((Sl.mk (d.set n22 (wr .i64 ((gt d n21)+1)))),(Sl.mk l23)))else
 (some (Sl.mk d,Sl.mk q)):Option (Sl Int×Sl Int)).bind fun(s24,s25)=>
 some (.inl (wr .i64 (i15+1),s24,s25)))else
 (some (.inr (Sl.mk d,Sl.mk q)))):=rfl
theorem Jq(t_0:ai)(d q:List Int):pF t_0 (Sl.mk d,Sl.mk q)=(
 bif decide ((q.length:Int)>0)then((cC 0 q.length).bind fun n8=>
 (ot t_0 (gt q n8)).bind fun r9=>
 (aP (nw r9) (0,Sl.mk d,Sl.mk q)).bind fun(s26,s27)=>
 (nR s27.l 1 s27.l.length).bind fun l28=>
 some (.inl (s26,(s27.to l28))))else
 (some (.inr (Sl.mk d)))):=rfl
theorem HP{t:ai}(hV:gi t){u:Nat}{d q:List Int}(hI:LM t u d q){hd:Nat}(hq:q.head?=some (hd:Int)){r:Sl aw}(hr:r.l=eC t hd)(hrl:r.l.length<=8):
  ∃d' q',aP (nw r) (0,Sl.mk d,Sl.mk q)=some (Sl.mk d',Sl.mk q')/\LM t u d' q'/\q'.head?=some (hd:Int)/\q'.length+ml d'=q.length+ml d/\∀w:Nat,JN t hd w->0<=gt d' w/\gt d' w<=gt d' hd+1:=by
 have e0:((0:Nat):Int)=0:=rfl;have h8:t.ah<=8:=hV.sw.2
 refine FQ (f:=nw r) (fun i(s:List Int×List Int)=>((i:Int),Sl.mk s.1,Sl.mk s.2)) r.l.length
  (fun i s=>LM t u s.1 s.2/\s.2.head?=some (hd:Int)/\s.2.length+ml s.1=q.length+ml d/\∀x∈r.l.take i,0<=gt s.1 x.To.toNat/\gt s.1 x.To.toNat<=gt s.1 hd+1)
  (fun b=>∃d1 q1,b=(Sl.mk d1,Sl.mk q1)/\LM t u d1 q1/\q1.head?=some (hd:Int)/\q1.length+ml d1=q.length+ml d/\∀x∈r.l,0<=gt d1 x.To.toNat/\gt d1 x.To.toNat<=gt d1 hd+1) ?_ ?_ 0 (d,q) (Nat.zero_le _) ⟨hI,hq,rfl,fun x hx=>by simp at hx⟩ (fun b q1 q2=>?_)
 .rintro i ⟨d1,q1⟩ hi ⟨h1,h2,h3,h4⟩;left;simp only at h1 h2 h3 h4;have hm:gt r.l i∈eC t hd:=by rw[<-hr,ju hi];exact eN _
  have ha:=M7 hV hm;have hin:=ha.xW hV;obtain⟨w,hw⟩:∃w:Nat,(gt r.l i).To=(w:Int):=⟨(gt r.l i).To.toNat,by omega⟩
  have hwl:w<d1.length:=by have:=h1.len;omega
  have hhm:(hd:Int)∈q1:=List.mem_of_head? h2;obtain⟨n0,e1,hhl,hh0⟩:=h1.Hd _ hhm;obtain rfl:hd=n0:=by omega
  have et:r.l.take (i+1)=r.l.take i++[gt r.l i]:=by rw[ju hi,List.take_append_getElem hi]
  have i1:cC (gt r.l i).To d1.length=some w:=by rw[hw];exact dA hwl
  have w3:=u_ (show i<9223372036854775807 by omega);by_cases hc:gt d1 w<0
  .have hd1:decide (gt d1 w<0)=true:=decide_eq_true hc;have hne:q1≠[]:=by rintro rfl;simp at h2
   have hqpos:0<q1.length:=List.length_pos_iff.2 hne;have i2:cC 0 q1.length=some 0:=dA (i:=0) hqpos;have hg0:gt q1 0=(hd:Int):=by cases q1 with|nil=>exact absurd rfl hne|cons a q1=>simpa[gt]using h2
   have i3:cC (gt q1 0) d1.length=some hd:=by rw[hg0];exact dA hhl
   have hb:=h1.Gj hd hhl;have hlen:=h1.len;have hcnt:=h1.count;have hcap:kc (q1++[(gt r.l i).To])=some (q1++[(w:Int)]):=by rw[hw];exact u4 (by rw[ap,kR];omega)
   have hwr:wr .i64 (gt d1 hd+1)=gt d1 hd+1:=tK (by omega) (by omega);obtain⟨p1,p2,p3⟩:=h1.push h2 hwl hc (hw▸ha);refine⟨(d1.set w (gt d1 hd+1),q1++[(w:Int)]),by simp only[Dt,p_,nm hi,cond_true,dA hi,ae,i1,hd1,i2,i3,hcap,hwr,w3],p1,?_,?_,fun x hx=>?_⟩
   .cases q1 with|nil=>exact absurd rfl hne|cons a q1=>simpa using h2
   .simp only[ap,kR];omega
   .simp only;rw[et]at hx;rw[p3 hd hh0];rcases aC.1 hx with hx|hx
    .have:=h4 x hx;rw[p3 _ this.1];exact this
    .obtain rfl:=aq.1 hx;rw[hw,gw,Du hwl,if_pos rfl];omega
  .have hd1:decide (gt d1 w<0)=false:=decide_eq_false hc;refine⟨(d1,q1),by simp only[Dt,p_,nm hi,cond_true,dA hi,ae,i1,hd1,cond_false,w3],h1,h2,h3,fun x hx=>?_⟩;rw[et]at hx;rcases aC.1 hx with hx|hx
   .exact h4 x hx
   .obtain rfl:=aq.1 hx;rw[hw,gw];have:=h1.top _ h2 w hwl;rw[gw]at this;simp only;omega
 .rintro ⟨d1,q1⟩ ⟨h1,h2,h3,h4⟩;rw[List.take_length]at h4;exact⟨_,by simp only[Dt,qw,cond_false],d1,q1,rfl,h1,h2,h3,h4⟩
 .rw [e0]at q1;obtain⟨d1,p1,rfl,h1,h2,h3,h4⟩:=q2;refine⟨d1,p1,q1,h1,h2,h3,fun w hw=>?_⟩;obtain⟨x,hx,he⟩:=OR hV hw;have:=h4 x (by rw[hr];exact hx);rwa[he,gw]at this
theorem K1{t:ai}(hV:gi t){u:Nat}{d q:List Int}(hI:LM t u d q):∃d',aP (pF t) (Sl.mk d,Sl.mk q)=some (Sl.mk d')/\LM t u d' []:=by
 refine RP (f:=pF t) (fun s=>s.2.l.length+ml s.1.l) (fun s=>∃d1 q1,s=(Sl.mk d1,Sl.mk q1)/\LM t u d1 q1) (fun b=>∃d',b=Sl.mk d'/\LM t u d' []) ?_ (Sl.mk d,Sl.mk q) ⟨d,q,rfl,hI⟩ fun b h1 h2=>by obtain⟨d',rfl,h2⟩:=h2;exact⟨d',h1,h2⟩
 rintro _ ⟨d1,q1,rfl,h⟩;cases q1 with
 |nil=>right;exact⟨Sl.mk d1,by simp only[Jq];rfl,d1,rfl,h⟩
 |cons a q1=>
  left;obtain⟨hd,rfl,_,_⟩:=h.Hd a (List.mem_cons_self ..);obtain⟨s,hs,hsl⟩:=Aq hV (hd:Int);have hs8:s.l.length<=8:=by rw[hsl];exact Nat.le_trans (List.length_filterMap_le _ _) (by simp)
  obtain⟨d',q',k1,k2,k3,k4,k5⟩:=HP hV h rfl hsl hs8;have hdec:decide ((((((hd:Int)::q1).length:Nat)):Int)>0)=true:=by rw[decide_eq_true_eq];simp only[bN];omega
  have i1:cC 0 (((hd:Int)::q1).length)=some 0:=dA (i:=0) (by simp);cases q' with
  |nil=>simp at k3
  |cons b q'=>
   obtain rfl:b=(hd:Int):=by simpa using k3
   have hcut:nR ((hd:Int)::q') 1 (((hd:Int)::q').length)=some q':=by refine pY.2 ⟨by simp only[bN];omega,?_⟩;simp
   refine⟨(Sl.mk d',Sl.mk q'),by simp only[Jq,p_,Sl.to,hdec,cond_true,i1,ae,show gt ((hd:Int)::q1) 0=(hd:Int)from rfl,hs,k1,hcut],⟨d',q',rfl,?_⟩,?_⟩
   .refine ⟨k2.len,k2.RZ,k2.lo,k2.D_,fun x hx=>k2.Hd x (List.mem_cons_of_mem _ hx),(fW.1 k2.mono).2,fun x hx v hv=>?_,fun v hv h0 hn w hw=>?_,k2.yv,k2.Gj,?_⟩
    .have h1:=k2.top _ rfl v hv;have h2:=(fW.1 k2.mono).1 x (List.mem_of_head? hx);omega
    .by_cases he:v=hd
     .subst he;exact k5 w hw
     .exact k2.done v hv h0 (fun hm=>by
       rcases List.mem_cons.1 hm with h|h
       .omega
       .exact hn h) w hw
    .have:=k2.count;simp only[bN]at this;omega
   .simp only[p_,bN]at k4|-;omega
theorem BH.xW{t:ai}(hV:gi t){n:Nat}{u v:Int}(h:BH t n u v)(hu:0<=u/\u<t.ah):0<=v/\v<t.ah:=by cases h with|zero=>exact hu|ld _ ha=>exact ha.xW hV
theorem OH{t:ai}(hV:gi t){u:Nat}{d:List Int}(h:LM t u d []):oJ t u d:=by
 have h8:=hV.sw.2;have hl:=h.len;refine⟨h.len,fun v hv=>⟨h.lo v hv,?_⟩,h.D_,?_⟩
 .have:=h.Gj v hv;omega
 .have key:∀(n:Nat)(w:Int),BH t n (u:Int) w->∀v:Nat,w=(v:Int)->0<=gt d v/\gt d v<=n:=by
   intro n;induction n with
   |zero=>
    intro w hw v hv;cases hw;obtain rfl:u=v:=by omega
    rw[h.yv];omega
   |succ n ih=>
    intro w hw v hv;cases hw with
    |@ld _ _ x _ hx ha=>
     have hxm:=hx.xW hV ⟨by omega,by have:=h.RZ;omega⟩;have e:x=((x.toNat:Nat):Int):=by omega
     have h1:=ih x hx x.toNat e;have h2:=h.done x.toNat (by omega) h1.1 (by simp) v (by rw[<-e,<-hv];exact ha);omega
  exact fun n v hv hw=>key n v hw v rfl
theorem EK{s:Int}(h1:1<=s)(h2:s<=8):eQ (Sl.mk [(-1)]) s=some (Sl.mk (aj s.toNat (-1))):=by have:=z_ (x:=-1) (n:=s.toNat) (by omega) (by omega);rwa[show((s.toNat:Nat):Int)=s by omega]at this
theorem NP{n v:Nat}(h:v<n):gt (aj n (-1:Int)) v=-1:=by rw[ju (by simpa using h)];simp
theorem KZ{t:ai}(hV:gi t){sw:Int}(h:0<=sw/\sw<t.ah):∃d,pV t sw=some (.mk d)/\oJ t sw d:=by
 have e:(if 0>t.ah then 0 else t.ah)=t.ah:=if_neg (by have:=hV.sw;omega);have hc:((decide (sw<0))||(decide (sw>=t.ah)))=false:=by simp only[Bool.or_eq_false_iff,decide_eq_false_iff_not];omega
 obtain⟨u,rfl⟩:∃u:Nat,sw=(u:Int):=⟨sw.toNat,by omega⟩
 have hul:u<(aj t.ah.toNat (-1:Int)).length:=by simp;omega
 have i1:cC (u:Int) (aj t.ah.toNat (-1:Int)).length=some u:=dA hul;have hlen:((aj t.ah.toNat (-1:Int)).set u 0).length=t.ah.toNat:=by simp
 have hg:∀v:Nat,v<t.ah.toNat->gt ((aj t.ah.toNat (-1:Int)).set u 0) v=if u=v then 0 else-1:=fun v hv=>by rw[Du hul,NP hv]
 have hun:ml ((aj t.ah.toNat (-1:Int)).set u 0)+1=t.ah.toNat:=by rw[zG hul (by rw[NP (by simpa using hul)];decide) (Int.le_refl 0)];simp[ml,List.countP_replicate]
 have hB:LM t u ((aj t.ah.toNat (-1:Int)).set u 0) [(u:Int)]:=by
  refine⟨by rw[hlen];omega,by rw[hlen];omega,fun v hv=>?_,fun v hv h0=>?_,fun x hx=>?_,by simp,fun x hx v hv=>?_,fun v hv h0 hn=>?_,?_,fun v hv=>?_,?_⟩
  .rw [hlen]at hv;rw[hg v hv];split<;>omega
  .rw [hlen]at hv;rw[hg v hv]at h0|-;split
   .rename_i e;subst e;exact .zero _
   .rename_i e;rw[if_neg e]at h0;omega
  .obtain rfl:=aq.1 hx;exact⟨u,rfl,by rw[hlen];omega,by rw[hg u (by omega),if_pos rfl];exact Int.le_refl _⟩
  .obtain rfl:(u:Int)=x:=by simpa using hx
   rw[hlen]at hv;rw[hg v hv,gw,hg u (by omega),if_pos rfl];split<;>omega
  .rw [hlen]at hv;rw[hg v hv]at h0;split at h0
   .rename_i e;subst e;exact absurd (aq.2 rfl) hn
   .omega
  .rw [hg u (by omega),if_pos rfl]
  .rw [hlen]at hv|-;rw[hg v hv];split<;>omega
  .rw [hlen,kR];omega
 obtain⟨d,h1,h2⟩:=K1 hV hB;exact⟨d,by simp only[pV,e,EK hV.sw.1 hV.sw.2,ae,hc,cond_false,p_,i1,h1],OH hV h2⟩
end Go.Proofs.YtoekkpmeeclpeaaGreat.S
