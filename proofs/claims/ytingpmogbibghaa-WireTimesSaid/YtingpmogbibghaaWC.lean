/- WireTimes: who is taken, or due, comes neither too early nor too late. Conditions: none. -/
import Derived.Test.YtingpmogbibghaaWB
open List renaming getD_eq_getElem?_getD->fr,getElem?_eq_some_iff->af,length_append->bh,map_append->LZ,mem_append->ah,mem_cons_of_mem->aq,mem_cons_self->cM,mem_filter->RF,mem_map->c8,mem_singleton->ao,nodup_append->bR
open Option renaming bind_some->aR
open Option.some renaming inj->aa
open Go.Ev Go
namespace Go.Proofs.Ytingpmogbibghaa.W
theorem TS{α:Type}[DecidableEq α]{lt:α->α->Bool}(hs:NP lt){a b:List α}(h:LP lt a b):a.Perm b:=by rw[List.perm_iff_count];intro x;have e:∀l:List α,List.count x (l.filter (NU lt x))=List.count x l:=fun l=>List.count_filter (Oa hs x);rw[<-e a,<-e b,h x]
def S4(t:l8)(x:nn)(f s:Int):Prop:=∃(j:Nat)(l:qb)(p:Int),t.qa.l[j]?=some l/\Tl l f p x.Sw x.RP/\x.Sn=s+l.Rl/\x.QQ=s+l.RX
structure Inv(t:l8)(now:Int)(sent iT:List Int)(come:List Bool)(L:List nn):Prop where
 f:iT.length=sent.length
 c:come.length=sent.length
 all:∀k,k<sent.length->0<=gt sent k/\gt sent k<=now
 Fu:∀x∈L,∃k:Nat,k<sent.length/\x.Id=(k:Int)/\gt come k=false/\S4 t x (gt iT k) (gt sent k)
 one:(L.map fun x=>x.Id).Nodup
theorem T8{t:l8}(hV:R_ t){x:nn}{f s now:Int}(h:S4 t x f s)(h1:x.Sn<=now)(h2:now<=x.QQ):Sj t x f (now-s)=some true:=by
 obtain⟨j,l,p,hl,hj,he,hL⟩:=h;unfold Sj;have hb:=hV.TP;rw[SJ _ _ (by omega),aR];unfold Te;rw[(Ts hV).2 ⟨j,l,hl,hj.symm,rfl⟩];have hj2:=(af.1 hl).1;have hg:gt t.qa.l j=l:=by rw[NO hj2];exact(af.1 hl).2
 simp only[Bool.true_and,beq_self_eq_true,cond_true];rw[M7 hj2,aR,aR,hg,decide_eq_true (show now-s>=l.Rl by omega),decide_eq_true (show now-s<=l.RX by omega)];rfl
theorem Uc{α:Type}[Inhabited α]{l:List α}{i j:Nat}{v:α}(h:i<l.length):gt (l.set i v) j=if i=j then v else gt l j:=by
 unfold gt;rw[fr,fr,List.getElem?_set];split
 .rename_i e;simp[h]
 .rfl
theorem Tj{α:Type}[Inhabited α]{l:List α}{i:Nat}{v:α}(h:i<l.length):gt (l++[v]) i=gt l i:=PB h
theorem TB{t:l8}(hV:R_ t){now:Int}{sent iT:Sl Int}{ku:Sl nn}(hf:iT.l.length=sent.l.length)(hb:ku.l.length<9223372036854775807)(hs:∀k,k<sent.l.length->0<=gt sent.l k/\gt sent.l k<=now)(hn:now<9223372036854775807):
  ∀(R A:List nn)(come:Sl Bool),ku.l=A++R->come.l.length=sent.l.length->(R.map fun x=>x.Id).Nodup->
   (∀x∈R,∃k:Nat,k<sent.l.length/\x.Id=(k:Int)/\gt come.l k=false/\S4 t x (gt iT.l k) (gt sent.l k)/\x.Sn<=now/\now<=x.QQ)->
   ∃come':Sl Bool,zu (Q0 t now sent iT ku) ((A.length:Int),come)=some (.inr come')/\come'.l.length=sent.l.length/\∀m:Nat,(∀x∈R,x.Id≠(m:Int))->gt come'.l m=gt come.l m
 |[],A,come,e,hc,_,_=>by refine⟨come,LJ ?_,hc,fun m _=>rfl⟩;simp only[Q0];rw[decide_eq_false (by rw[e];simp),cond_false]
 |x::R,A,come,e,hc,hN,hR=>by
  have hi:A.length<ku.l.length:=by rw[e];simp
  have hz:gt ku.l A.length=x:=by rw[e];exact Nk
  obtain⟨k,k1,k2,k3,k4,k5,k6⟩:=hR x cM;have hN2:=List.nodup_cons.1 hN;have hck:k<come.l.length:=by omega
  obtain⟨come',i1,i2,i3⟩:=TB hV hf hb hs hn R (A++[x]) (Sl.mk (come.l.set k true)) (by rw[e];simp) (by rw[Po,List.length_set,hc]) hN2.2 (fun y hy=>by obtain⟨j,j1,j2,j3,j4⟩:=hR y (aq _ hy);refine⟨j,j1,j2,?_,j4⟩;rw[Po,Uc hck,if_neg,j3];intro h;refine hN2.1 (c8.2 ⟨y,hy,?_⟩);show y.Id=x.Id;rw[k2,j2,h]);refine⟨come',(LK (a':=(((A++[x]).length:Int),Sl.mk (come.l.set k true))) ?_).trans i1,i2,fun m hm=>?_⟩
  .simp only[Q0];have hsk:=hs k k1;have hov:=T8 hV k4 k5 k6;have hg:((decide (((k:Nat):Int)<0))||(decide (((k:Nat):Int)>=(sent.l.length:Int))))=false:=by rw[decide_eq_false (by omega),decide_eq_false (by omega)];rfl
   rw[decide_eq_true (by omega),cond_true,M7 hi,aR,hz,k2,hg,cond_false,M7 hck,aR,k3,cond_false,aR,M7 (by omega),aR,M7 k1,aR,hz,S_ (by omega) (by omega),hov,aR,Bool.not_true,aR,cond_false,aR,Sx (by omega),bh];rfl
  .rw [i3 m fun y hy=>hm y (aq _ hy),Po,Uc hck,if_neg];intro h;exact hm x cM (by rw[k2,h])
theorem TL{t:l8}(hV:R_ t){l:qb}{j:Nat}(h:t.qa.l[j]?=some l):1<=l.Rl/\l.Rl<=l.RX/\l.RX<=1000:=by have:=hV.Ug l (List.mem_of_getElem? h);exact⟨this.2.1,this.2.2.1,this.2.2.2⟩
theorem SU{t:l8}(hV:R_ t)(l:Sl rx):∀(k i:Nat)(now:Int)(sent iT:Sl Int)(come:Sl Bool)(s:Sl nn),i+k=min l.l.length 60->0<=now->now<=7*(i:Int)->sent.l.length<=i->
  Inv t now sent.l iT.l come.l s.l->(∀x∈s.l,now<x.QQ)->s.l.length<=256->∃z:Bool⊕Unit,zu (QJ t l) (now,(i:Int),t,sent,iT,come,s)=some z/\(z=.inl true\/z=.inr ()):=by
 intro k;induction k with
 |zero=>
  intro i now sent iT come s hi _ _ _ _ _ _;refine⟨_,LJ (b:=.inr ()) ?_,.inr rfl⟩;simp only[QJ]
  have:(decide ((i:Int)<(l.l.length:Int))&&decide ((i:Int)<60))=false:=by
   rw[Bool.and_eq_false_iff];by_cases h:i<l.l.length
   .right;exact decide_eq_false (by omega)
   .left;exact decide_eq_false (by omega)
  rw[this];rfl
 |succ k ih=>
  intro i now sent iT come s hi h0 hn hsl hI hL hb;have hlt:i<l.l.length:=by omega
  have h60:i<60:=by omega
  have hguard:((decide ((i:Int)<(l.l.length:Int)))&&(decide ((i:Int)<60)))=true:=by rw[decide_eq_true (by omega),decide_eq_true (by omega)];rfl
  by_cases hbad:(rx.TC (gt l.l i))<0\/(rx.TC (gt l.l i))>10000
  .refine ⟨_,LJ (b:=.inl true) ?_,.inl rfl⟩;simp only[QJ]
   have hbb:(bif decide ((rx.TC (gt l.l i))<0)then(some true)else(some (decide ((rx.TC (gt l.l i))>10000))):Option Bool)=some true:=by
    by_cases h:(rx.TC (gt l.l i))<0
    .rw [decide_eq_true h];rfl
    .rw [decide_eq_false h,decide_eq_true (by omega)];rfl
   rw[hguard,cond_true,M7 hlt,aR,aR,hbb,aR,cond_true,Sd];rfl
  .have hN0:0<=rx.TC (gt l.l i):=by omega
   have hN1:rx.TC (gt l.l i)<=10000:=by omega
   obtain⟨dd,hdd,hd7⟩:∃dd:Int,(rx.TC (gt l.l i)).tmod 8=dd/\0<=dd/\dd<=7:=⟨_,rfl,Int.tmod_nonneg _ hN0,by have:=Int.tmod_lt_of_pos (rx.TC (gt l.l i)) (show(0:Int)<8 by decide);omega⟩
   have w1:wr .i64 (now+dd)=now+dd:=S_ (by omega) (by omega)
   -- when it is now
   obtain⟨now',hnow,hge,hle,hlate⟩:∃now':Int,(bif((decide (SK s.l>=0))&&(decide (SK s.l<now+dd)))then(some (SK s.l))else(some (now+dd)):Option Int)=some now'/\now<=now'/\now'<=now+7/\∀x∈s.l,now'<=x.QQ:=by
    by_cases he:s.l=[]
    .rw [he];refine⟨now+dd,?_,by omega,by omega,by simp⟩;rw[decide_eq_false (show¬SK []>=0 by decide)];rfl
    .obtain ⟨y,hy,hyl⟩:=TY he;have hpos:=hL y hy;by_cases hc:SK s.l<now+dd
     .refine ⟨SK s.l,?_,by omega,by omega,fun x hx=>Tt hx⟩;rw[decide_eq_true (by omega),decide_eq_true hc];rfl
     .refine ⟨now+dd,?_,by omega,by omega,fun x hx=>by have:=Tt hx;omega⟩;rw[decide_eq_false hc,Bool.and_false];rfl
   obtain⟨d,s1,a1,a2⟩:=Ui (t:=t) hb now';obtain⟨a3,a4,a5⟩:=a2;have hperm:(d.l++s1.l).Perm s.l:=by refine((TS Ti a4).append_right s1.l).trans ?_;rw[a5];have:=List.filter_append_perm (SH now') s.l;simpa using this
   -- what comes, what is left
   obtain⟨ku,s2,b1,b2,b3,b4⟩:∃ku s2:Sl nn,(bif((rx.T2 (gt l.l i))==3)then((QI t s1 now' (rx.K (gt l.l i))).bind fun(r36,r37,q38,s39)=>
 bif(r37==0)then((pO (d.l++[r36])).bind fun l40=>
 some (q38,(Sl.mk l40),s39))else
 (some (q38,d,s39)))else
 (some (t,d,s1)):Option (l8×Sl nn×Sl nn))=some (t,ku,s2)/\(ku.l++s2.l).Perm s.l/\(∀x∈ku.l,x.Sn<=now')/\(∀x∈s2.l,now'<x.QQ):=by
       have hd:∀x∈d.l,x.Sn<=now':=by intro x hx;have hx2:=RF.1 ((a4.Oz Ti).1 hx);obtain⟨_,_,_,_,j,lk,_,hlk,_,hE,hLt⟩:=hI.Fu x hx2.1;have:=TL hV hlk;have h3:x.QQ<=now':=of_decide_eq_true hx2.2;omega
       have hs1:∀x∈s1.l,now'<x.QQ:=by
        intro x hx;rw[a5]at hx;have h3:(!SH now' x)=true:=(RF.1 hx).2;have h4:decide (x.QQ<=now')=false:=by rw[Bool.not_eq_true']at h3;exact h3
        have:=of_decide_eq_false h4;omega
       have hs1b:s1.l.length<=256:=by have:=hperm.length_eq;rw[bh]at this;omega
       cases hk:((rx.T2 (gt l.l i))==3)with
       |false=>exact⟨d,s1,rfl,hperm,hd,hs1⟩
       |true=>
        obtain⟨x,r,s2,_,c1,_,_,_,c2,c3⟩:=T5 (t:=t) (s:=s1) (q:=s1) rfl hs1b now' (rx.K (gt l.l i));rw[cond_true,c1,aR];by_cases hr:r=0
        .obtain ⟨j,j1,j2,j3,j4⟩:=c2 hr;subst hr;have hlen:=hperm.length_eq;rw[bh]at hlen;simp only[beq_self_eq_true,cond_true];rw[QZ.2 ⟨rfl,by rw[bh];simp;omega⟩,aR];refine⟨_,s2,rfl,?_,?_,?_⟩
         .rw [Po,j4,j2,List.append_assoc];refine(List.Perm.append_left d.l ?_).trans hperm;have e1:s1.l=s1.l.take j++gt s1.l j::s1.l.drop (j+1):=by rw[NO j1,<-List.drop_eq_getElem_cons j1,List.take_append_drop]
          rw[List.eraseIdx_eq_take_drop_succ];have e2:(gt s1.l j::(s1.l.take j++s1.l.drop (j+1))).Perm (s1.l.take j++gt s1.l j::s1.l.drop (j+1)):=List.perm_middle.symm;rw[<-e1]at e2;exact e2
         .intro y hy;rw[Po]at hy;rcases ah.1 hy with hy|hy
          .exact hd y hy
          .rw [ao.1 hy];exact j3
         .intro y hy;rw[j4]at hy;exact hs1 y (List.mem_of_mem_eraseIdx hy)
        .have hr2:=c3 hr;subst hr2;simp only[beq_eq_false_iff_ne.2 hr,cond_false];exact⟨d,s2,rfl,hperm,hd,hs1⟩
   have hmem:∀x,x∈ku.l\/x∈s2.l->x∈s.l:=fun x hx=>b2.mem_iff.1 (ah.2 hx);have hnd:((ku.l++s2.l).map fun x=>x.Id).Nodup:=((b2.map _).nodup_iff).2 hI.one;rw[LZ]at hnd;obtain⟨nd1,nd2,nd3⟩:=bR.1 hnd;have hlen:=b2.length_eq;rw[bh]at hlen;have hall:∀k,k<sent.l.length->0<=gt sent.l k/\gt sent.l k<=now':=fun k hk=>by have:=hI.all k hk;omega
   obtain⟨come',c1,c2,c3⟩:=TB hV hI.f (ku:=ku) (by omega) hall (by omega) ku.l [] come rfl hI.c nd1 (fun x hx=>by obtain⟨k,k1,k2,k3,k4⟩:=hI.Fu x (hmem x (.inl hx));exact⟨k,k1,k2,k3,k4,b3 x hx,hlate x (hmem x (.inl hx))⟩);have c1':zu (Q0 t now' sent iT ku) (0,come)=some (.inr come'):=c1
   -- those that are left
   have hleft:∀x∈s2.l,∃k:Nat,k<sent.l.length/\x.Id=(k:Int)/\gt come'.l k=false/\S4 t x (gt iT.l k) (gt sent.l k):=fun x hx=>by obtain⟨k,k1,k2,k3,k4⟩:=hI.Fu x (hmem x (.inr hx));refine⟨k,k1,k2,?_,k4⟩;rw[c3 k fun y hy he=>nd3 _ (c8.2 ⟨y,hy,rfl⟩) _ (c8.2 ⟨x,hx,rfl⟩) (by show y.Id=x.Id;rw[he,k2])];exact k3
   have hI2:Inv t now' sent.l iT.l come'.l s2.l:=⟨hI.f,c2,hall,hleft,nd2⟩
   have hs2b:s2.l.length<=256:=by omega
   have hbb:(bif decide ((rx.TC (gt l.l i))<0)then(some true)else(some (decide ((rx.TC (gt l.l i))>10000))):Option Bool)=some false:=by rw[decide_eq_false (show¬(rx.TC (gt l.l i))<0 by omega),decide_eq_false (show¬(rx.TC (gt l.l i))>10000 by omega)];rfl
   -- whether one is sent
   obtain⟨ok,s3,p1,p2,p3⟩:∃(ok:Bool)(s3:Sl nn),(bif decide ((rx.T2 (gt l.l i))<3)then((QR t s2 now' (rx.Sw (gt l.l i)) (rx.RP (gt l.l i)) (sent.l.length:Int) (rx.P (gt l.l i))).bind fun(r63,q64,s65)=>
 some ((r63==0),q64,s65))else
 (some (false,t,s2)):Option (Bool×l8×Sl nn))=some (ok,t,s3)/\(ok=false->s3=s2)/\
     (ok=true->s3.l.length<=256/\∃x:nn,s3.l=s2.l++[x]/\x.Id=(sent.l.length:Int)/\S4 t x (rx.Sw (gt l.l i)) now'/\now'<x.QQ):=by
    cases hk:decide ((rx.T2 (gt l.l i))<3)with
    |false=>exact⟨false,s2,rfl,(fun _=>rfl),(fun h=>by cases h)⟩
    |true=>
     obtain⟨r,s3,_,e1,_,_,e2,e3,e4⟩:=O8 (t:=t) (s:=s2) (q:=s2) rfl hs2b (by have:=hV.TP;omega) now' (rx.Sw (gt l.l i)) (rx.RP (gt l.l i)) (sent.l.length:Int) (rx.P (gt l.l i));rw[cond_true,e1,aR];by_cases hr:r=0
     .subst hr;obtain⟨a,b,kk,lk,f1,f2,f3⟩:=e3 rfl;obtain⟨j,lj,g1,g2,g3⟩:=(Ts hV).1 f1;have hkj:kk=j:=by omega
      subst hkj;obtain rfl:lk=lj:=by rw[f2]at g1;exact aa g1
      have ht:=TL hV f2;refine⟨true,s3,rfl,(fun h=>by cases h),fun _=>⟨e2,_,f3,rfl,⟨kk,lk,_,f2,g2,?_,?_⟩,?_⟩⟩
      .show wr .i64 (now'+lk.Rl)=_;rw[S_ (by omega) (by omega)]
      .show wr .i64 (now'+lk.RX)=_;rw[S_ (by omega) (by omega)]
      .show now'<wr .i64 (now'+lk.RX);rw[S_ (by omega) (by omega)];omega
     .refine ⟨false,s3,?_,(fun _=>e4 hr),(fun h=>by cases h)⟩;simp only[beq_eq_false_iff_ne.2 hr]
   have jQ:∀(z:(Int×l8×Sl Int×Sl Int×Sl Bool×Sl nn)),(bif ok then((pO (sent.l++[now'])).bind fun l69=>
 (rM (i:Int) l.l.length).bind fun n70=>
 (pO (iT.l++[rx.Sw (gt l.l n70)])).bind fun l71=>
 (pO (come'.l++[false])).bind fun l72=>
 some (.inl (now',t,(Sl.mk l69),(Sl.mk l71),(Sl.mk l72),s3)))else
 (some (.inl (now',t,sent,iT,come',s3))):Option ((Int×l8×Sl Int×Sl Int×Sl Bool×Sl nn)⊕Bool))=some (.inl z)->
     QJ t l (now,(i:Int),t,sent,iT,come,s)=some (.inl (z.1,((i+1:Nat):Int),z.2.1,z.2.2.1,z.2.2.2.1,z.2.2.2.2.1,z.2.2.2.2.2)):=by
    intro z hz;simp only[QJ];rw[hguard,cond_true,M7 hlt,aR,aR,hbb,aR,cond_false,aR,T9 (by omega),aR,hdd,w1,hnow,aR,a1,aR];simp only[aR];rw[b1,aR];simp only[];rw[c1',aR];simp only[aR];rw[p1,aR];simp only[];rw[M7 hlt]at hz;simp only[aR]at hz;rw[hz,aR];simp only[];rw[Sx (by omega)]
   cases hok:ok with
   |false=>have h3:=p2 hok;subst h3;obtain⟨z,i1,i2⟩:=ih (i+1) now' sent iT come' s3 (by omega) (by omega) (by omega) (by omega) hI2 b4 hs2b;exact⟨z,(LK (jQ (now',t,sent,iT,come',s3) (by rw[hok];rfl))).trans i1,i2⟩
   |true=>
    obtain⟨h3b,x,h3,h4,h5,h6⟩:=p3 hok
    have hI3:Inv t now' (sent.l++[now']) (iT.l++[rx.Sw (gt l.l i)]) (come'.l++[false]) s3.l:=by
     have hf:=hI.f;refine⟨by rw[bh,bh,hI.f];rfl,by rw[bh,bh,c2];rfl,fun k hk=>?_,fun y hy=>?_,?_⟩
     .rw [bh]at hk;by_cases hk2:k<sent.l.length
      .rw [Tj hk2];exact hall k hk2
      .have hk3:k=sent.l.length:=by simp at hk;omega
       rw[hk3,Nk];omega
     .rw [h3]at hy;rcases ah.1 hy with hy|hy
      .obtain ⟨k,k1,k2,k3,k4⟩:=hleft y hy;refine⟨k,by rw[bh];omega,k2,?_,?_⟩
       .rw [Tj (by omega)];exact k3
       .rw [Tj (by omega),Tj k1];exact k4
      .rw [ao.1 hy];refine⟨sent.l.length,by rw[bh];simp,h4,?_,?_⟩
       .rw [<-c2,Nk]
       .have e1:gt (iT.l++[rx.Sw (gt l.l i)]) sent.l.length=rx.Sw (gt l.l i):=by rw[<-hI.f,Nk]
        rw[e1,Nk];exact h5
     .rw [h3,LZ];refine bR.2 ⟨nd2,List.pairwise_singleton _ _,fun a ha b hb he=>?_⟩;obtain⟨y,hy,rfl⟩:=c8.1 ha;obtain⟨k,k1,k2,_⟩:=hleft y hy;have hb2:b=x.Id:=ao.1 hb;have he:y.Id=b:=he;omega
    have hsl2:sent.l.length+1<=i+1:=by omega
    obtain⟨z,i1,i2⟩:=ih (i+1) now' (Sl.mk (sent.l++[now'])) (Sl.mk (iT.l++[rx.Sw (gt l.l i)])) (Sl.mk (come'.l++[false])) s3 (by omega) (by omega) (by omega) (by rw[Po,bh];exact hsl2) hI3 (fun y hy=>by
     rw[h3]at hy;rcases ah.1 hy with hy|hy
     .exact b4 y hy
     .rw [ao.1 hy];exact h6) h3b
    refine⟨z,(LK (jQ (now',t,Sl.mk (sent.l++[now']),Sl.mk (iT.l++[rx.Sw (gt l.l i)]),Sl.mk (come'.l++[false]),s3) ?_)).trans i1,i2⟩;have hf:=hI.f;rw[hok,cond_true,QZ.2 ⟨rfl,by rw[bh];simp;omega⟩,aR,M7 hlt,aR,QZ.2 ⟨rfl,by rw[bh];simp;omega⟩,aR,QZ.2 ⟨rfl,by rw[bh];simp;omega⟩,aR]
theorem S6(t:l8)(l:Sl rx):RZ t l=some true:=by
 unfold RZ;rw[Sd];by_cases hb:t.qa.l.length<=30/\t.Qy.l.length<=12
 .have hc:((decide ((((l8.qa t).l).length:Int)>30))||(decide ((((l8.Qy t).l).length:Int)>12)))=false:=by rw[decide_eq_false (by omega),decide_eq_false (by omega)];rfl
  rw[hc,cond_false,TT hb.1 hb.2,aR,aR,Uf];by_cases hV:R_ t
  .have e0:(((0:Int)) !=0)=false:=rfl;rw[decide_eq_true hV,if_pos hV];simp only[aR,Bool.not_true,cond_false,e0];obtain⟨z,k1,k2⟩:=SU hV l (min l.l.length 60) 0 0 Sl.nil Sl.nil Sl.nil Sl.nil (by omega) (by omega) (by omega) (by simp[Sl.l]) ⟨rfl,rfl,by simp[Sl.l],by simp[Sl.l],by simp[Sl.l]⟩ (by simp[Sl.l]) (by simp[Sl.l]);have k1':zu (QJ t l) (0,0,t,Sl.nil,Sl.nil,Sl.nil,Sl.nil)=some z:=k1;rw[k1'];rcases k2 with k2|k2<;>rw[k2]<;>rfl
  .rw [decide_eq_false hV];rfl
 .have hc:((decide ((((l8.qa t).l).length:Int)>30))||(decide ((((l8.Qy t).l).length:Int)>12)))=true:=by
   rw[Bool.or_eq_true];by_cases h:t.qa.l.length<=30
   .right;exact decide_eq_true (by omega)
   .left;exact decide_eq_true (by omega)
  rw[hc];rfl
end Go.Proofs.Ytingpmogbibghaa.W
