/- Wires: what they hold, and what is due, is the reference's. Conditions: as stated. -/
import Derived.Test.YtingpmogbibghaaWT
import Derived.Test.YtingpmogbibghaaWt
import Derived.Test.YtingpmogbibghaaSm
open Bool renaming or_eq_true->dE
open List renaming append_nil->be,eraseIdx_of_length_le->Rs,filter_append->L8,getElem?_eq_some_iff->af,length_append->bh,mem_cons->aE,mem_cons_of_mem->aq,mem_cons_self->cM
open Option renaming bind_some->aR
open Go.Ev Go
namespace Go.Proofs.Ytingpmogbibghaa.W
theorem NY:∀n,rE n=MP QE n
 |0=>rfl
 |n+1=>by show Qz (rE n)=NZ QE (MP QE n);rw[NY n];rfl
theorem O3(n i:Int):Qv n i=M0 QE 8 n i:=by unfold Qv;rw[NY];rfl
theorem O2(n:Int):QA n=MZ QE 8 n:=by unfold QA;rw[NY];have:Qv n=M0 QE 8 n:=funext fun i=>O3 n i;rw[this];rfl
theorem Ph(s:Sl nn):Fl s=Ow QE 8 s:=by unfold Fl QD;rw[O2];rfl
def TH(a b:nn):Bool:=decide (a.QQ<b.QQ)
theorem Ti:NP TH:=⟨fun x=>decide_eq_false (by omega),fun x y z h1 h2=>by
 have h1:=of_decide_eq_true h1;have h2:=of_decide_eq_true h2;exact decide_eq_true (by omega),fun x y z h1 h2=>by
 have h1:=of_decide_eq_false h1;have h2:=of_decide_eq_false h2;exact decide_eq_false (by omega)⟩
theorem Tz(a b:nn):QE a b=some (bif decide (a.QQ<b.QQ)then-1 else bif decide (a.QQ>b.QQ)then 1 else 0):=by
 unfold QE Mm ME;have h:∀c:Int,(c !=c)=false:=fun c=>by simp
 rw[h,h];simp only[aR,cond_false];cases decide (a.QQ<b.QQ)<;>cases decide (a.QQ>b.QQ)<;>rfl
theorem TA(a b:nn):decide ((bif decide (a.QQ<b.QQ)then-1 else bif decide (a.QQ>b.QQ)then 1 else 0:Int)<0)=TH a b:=by unfold TH;cases decide (a.QQ<b.QQ)<;>cases decide (a.QQ>b.QQ)<;>rfl
theorem Pq:Pc QE TH (fun _=>True):=fun x y _ _=>⟨_,Tz x y,TA x y⟩
theorem Po{α:Type}(l:List α):(Sl.mk l).l=l:=rfl
def S8(x:nn):List nn->nn
 |[]=>x
 |y::r=>S8 (bif TH y x then y else x) r
def SK:List nn->Int
 |[]=>-1
 |x::r=>(S8 x r).QQ
theorem TO:∀(l:List nn)(x:nn),(S8 x l).QQ<=x.QQ/\∀y∈l,(S8 x l).QQ<=y.QQ
 |[],x=>⟨Int.le_refl _,by simp⟩
 |y::r,x=>by
  obtain⟨h1,h2⟩:=TO r (bif TH y x then y else x)
  have h3:(bif TH y x then y else x).QQ<=x.QQ/\(bif TH y x then y else x).QQ<=y.QQ:=by
   unfold TH;by_cases h:y.QQ<x.QQ
   .rw [decide_eq_true h];exact⟨Int.le_of_lt h,Int.le_refl _⟩
   .rw [decide_eq_false h];exact⟨Int.le_refl _,by show x.QQ<=y.QQ;omega⟩
  refine⟨Int.le_trans h1 h3.1,fun z hz=>?_⟩;rcases aE.1 hz with hz|hz
  .rw [hz];exact Int.le_trans h1 h3.2
  .exact h2 z hz
theorem Tv:∀(l:List nn)(x:nn),S8 x l=x\/S8 x l∈l
 |[],x=>.inl rfl
 |y::r,x=>by
  simp only[S8];rcases Tv r (bif TH y x then y else x)with h|h
  .rw [h];cases TH y x
   .exact .inl rfl
   .exact .inr cM
  .exact .inr (aq _ h)
theorem Tt{l:List nn}{x:nn}(h:x∈l):SK l<=x.QQ:=by
 cases l with
 |nil=>cases h
 |cons y r=>
  obtain⟨h1,h2⟩:=TO r y;rcases aE.1 h with h|h
  .rw [h];exact h1
  .exact h2 x h
theorem TY{l:List nn}(h:l≠[]):∃x∈l,x.QQ=SK l:=by
 cases l with
 |nil=>exact absurd rfl h
 |cons y r=>
  rcases Tv r y with h1|h1
  .exact ⟨y,cM,by show y.QQ=(S8 y r).QQ;rw[h1]⟩
  .exact ⟨_,aq _ h1,rfl⟩
theorem T9{t:l8}{s:Sl nn}(hb:s.l.length<9223372036854775807):QM (⟨t,s⟩:sy)=some (SK s.l):=by
 unfold QM Rf wi;have e0:(sy.l ((t,s):sy))=s:=rfl;rw[e0,aR];cases hl:s.l with
 |nil=>rfl
 |cons x r=>
  have hlen:s.l.length=r.length+1:=by rw[hl];rfl
  have hlen2:(x::r).length=r.length+1:=rfl;have e1:((((x::r).length:Nat):Int)==0)=false:=by rw[beq_eq_false_iff_ne,hlen2];omega
  have e2:decide ((((x::r).length:Nat):Int)<1)=false:=decide_eq_false (by rw[hlen2];omega);have e3:rM 0 (x::r).length=some 0:=M7 (n:=0) (by rw[hlen2];omega);rw[e1,cond_false,e2,cond_false,e3,aR]
  have key:∀(R A:List nn)(y:nn),x::r=A++R->zu (su s) ((A.length:Int),y)=some (S8 y R):=by
   intro R;induction R with
   |nil=>intro A y e;refine LJ ?_;simp only[su];rw[decide_eq_false (by rw[hl,e];simp),cond_false];rfl
   |cons z R ih=>
    intro A y e;have hi:A.length<s.l.length:=by rw[hl,e];simp
    have hz:gt s.l A.length=z:=by rw[hl,e];exact Nk
    refine(LK (a':=(((A++[z]).length:Int),bif TH z y then z else y)) ?_).trans (ih (A++[z]) _ (by rw[e];simp));simp only[su];rw[decide_eq_true (by omega),cond_true,M7 hi,aR,hz,Tz,aR,TA,aR,hz,Sx (by omega),bh];cases TH z y<;>rfl
  have:=key r [x] x rfl;have e4:zu (su s) (1,gt (x::r) 0)=some (S8 x r):=this;rw[e4];rfl
theorem O8{t:l8}{s:Sl nn}{q:Sl sx}(he:s.l=q.l)(hb:s.l.length<=256)(ht:t.qa.l.length<9223372036854775808)(now sw Sr id:Int)(p:Arr 4 Int):
  ∃(r:Int)(s' q':Sl nn),QR t s now sw Sr id p=some (r,t,s')/\Sm t q now sw Sr id p=some (r,t,q')/\s'.l=q'.l/\s'.l.length<=256/\
   (r=0->∃(a b:Int)(k:Nat)(l:qb),R8 (R6 sw Sr) t.qa.l 0=some (a,b,(k:Int))/\t.qa.l[k]?=some l/\s'.l=s.l++[((id,a,b,p,wr .i64 (now+l.Rl),wr .i64 (now+l.RX)):nn)])/\(r≠0->s'=s):=by
 unfold QR Sm;rw[TW sw Sr ht,SJ sw Sr ht,aR,aR];unfold Te;cases hs:R8 (R6 sw Sr) t.qa.l 0 with
 |none=>exact⟨7,s,q,rfl,rfl,he,hb,(fun h=>by cases h),(fun _=>rfl)⟩
 |some z=>
  obtain⟨a,b,c⟩:=z;obtain⟨k,l,hk,hp⟩:∃(k:Nat)(l:qb),t.qa.l[k]?=some l/\c=(k:Int):=by obtain⟨j,x,h1,h2,_⟩:=Sv hs;rw[Nat.zero_add]at h2;exact⟨j,x,h1,(SG h2).2⟩
  subst hp;have hk2:=(af.1 hk).1;have hg:gt t.qa.l k=l:=by rw[NO hk2];exact(af.1 hk).2
  simp only[Bool.not_true,cond_false];by_cases hf:s.l.length<256
  .have hl1:s.l.length+1<=256:=by omega
   rw[decide_eq_false (show¬(s.l.length:Int)>=256 by omega),cond_false,decide_eq_false (show¬(q.l.length:Int)>255 by rw[<-he];omega),cond_false,M7 hk2,aR,aR,aR,hg,
    QZ.2 ⟨rfl,by simp;omega⟩,aR,QZ.2 ⟨rfl,by rw[<-he];simp;omega⟩,aR]
   exact⟨0,_,_,rfl,rfl,by rw[Po,Po,he],by rw[Po];simp;omega,(fun _=>⟨a,b,k,l,rfl,hk,rfl⟩),(fun h=>absurd rfl h)⟩
  .rw [decide_eq_true (show(s.l.length:Int)>=256 by omega),cond_true,decide_eq_true (show(q.l.length:Int)>255 by rw[<-he];omega),cond_true];exact⟨6,s,q,rfl,rfl,he,hb,(fun h=>by cases h),(fun _=>rfl)⟩
def T4:nn:=(0,0,0,(lX (.ar 4 (.i .i64))),0,0)
def Tw(l:List nn)(k:Int):nn×Int:=if 0<=k/\k<l.length then(gt l k.toNat,0)else(T4,7)
theorem Ub{t:l8}{s:Sl nn}(k:Int):RE (⟨t,s⟩:sy) k=some (Tw s.l k):=by
 unfold RE Tw;have e0:(sy.l ((t,s):sy))=s:=rfl;rw[e0];by_cases h:0<=k/\k<s.l.length
 .rw [if_pos h,decide_eq_false (by omega),decide_eq_false (show¬k>=(s.l.length:Int)by omega),Bool.or_false,cond_false];obtain⟨n,rfl⟩:∃n:Nat,k=n:=⟨k.toNat,by omega⟩
  rw[M7 (by omega)];rfl
 .rw [if_neg h]
  have:(decide (k<0)||decide (k>=(s.l.length:Int)))=true:=by
   rw[dE];by_cases h1:k<0
   .exact .inl (decide_eq_true h1)
   .exact .inr (decide_eq_true (by omega))
  rw[this];rfl
theorem TZ{t:l8}{s:Sl sx}(k:Int):RU (⟨t,s⟩:sy) k=some (Tw s.l k):=by
 unfold RU Tw;have e0:(Q5.L ((t,s):sy))=s:=rfl;rw[e0];by_cases h:0<=k/\k<s.l.length
 .rw [if_pos h,decide_eq_false (by omega),decide_eq_false (show¬k>=(s.l.length:Int)by omega),Bool.or_false,cond_false];obtain⟨n,rfl⟩:∃n:Nat,k=n:=⟨k.toNat,by omega⟩
  rw[M7 (by omega)];rfl
 .rw [if_neg h]
  have:(decide (k<0)||decide (k>=(s.l.length:Int)))=true:=by
   rw[dE];by_cases h1:k<0
   .exact .inl (decide_eq_true h1)
   .exact .inr (decide_eq_true (by omega))
  rw[this];rfl
theorem T1{s:Sl nn}(hb:s.l.length<=256)(hn:s.l≠[]):QF s=some (Sl.mk s.l):=by
 unfold QF;cases s with
 |nil=>exact absurd rfl hn
 |mk l=>have:(Sl.mk l:Sl nn).QH=false:=rfl;rw[this,cond_false,Po,List.nil_append,QZ.2 ⟨rfl,by rw[Po]at hb;omega⟩];cases l with|nil=>exact absurd rfl hn|cons=>rfl
theorem Uj{l:List nn}{k:Nat}(h:k<l.length)(hb:l.length<=256):TJ (Sl.mk l) (k:Int) (wr .i64 ((k:Int)+1))=some (Sl.mk (l.eraseIdx k)):=by
 rw[Sx (by omega)];simp only[TJ];have hc:(decide ((0:Int)<=(k:Int))&&decide ((k:Int)<=((k+1:Nat):Int))&&decide (((k+1:Nat):Int)<=(l.length:Int))&&Nat.ble l.length 2147483648)=true:=by rw[decide_eq_true (by omega),decide_eq_true (by omega),decide_eq_true (by omega),Nat.ble_eq_true_of_le (by omega)];rfl
 rw[hc,cond_true];rw[List.eraseIdx_eq_take_drop_succ];have e1:((k:Nat):Int).toNat=k:=by omega
 have e2:(((k+1:Nat)):Int).toNat=k+1:=by omega
 rw[e1,e2]
theorem Tm{t:l8}{s:Sl sx}(hb:s.l.length<=256)(k:Nat):∃s':Sl sx,Rv t s (k:Int)=some (t,s')/\s'.l=s.l.eraseIdx k:=by
 unfold Rv
 have key:∀(R A:List nn)(T:Sl sx),s.l=A++R->T.l=A.eraseIdx k->∃T',zu (QG s (k:Int)) ((A.length:Int),T)=some T'/\T'.l=s.l.eraseIdx k:=by
  intro R;induction R with
  |nil=>intro A T e hT;refine⟨T,LJ ?_,by rw[hT,e,be]⟩;simp only[QG];rw[decide_eq_false (by rw[e];simp),cond_false]
  |cons z R ih=>
   intro A T e hT;have hi:A.length<s.l.length:=by rw[e];simp
   have hz:gt s.l A.length=z:=by rw[e];exact Nk
   have hle:=List.length_eraseIdx_le A k;by_cases hk:A.length=k
   .obtain ⟨T',i1,i2⟩:=ih (A++[z]) T (by rw[e];simp) (by rw[hT,Rs (by omega),<-hk,List.eraseIdx_append_of_length_le (Nat.le_refl _),Nat.sub_self];simp);refine⟨T',(LK (a':=(((A++[z]).length:Int),T)) ?_).trans i1,i2⟩;simp only[QG];have:(((A.length:Nat):Int) !=(k:Int))=false:=by rw[hk];simp
    rw[decide_eq_true (by omega),cond_true,this,cond_false,aR,Sx (by omega),bh];rfl
   .obtain ⟨T',i1,i2⟩:=ih (A++[z]) (Sl.mk (T.l++[z])) (by rw[e];simp) (by
     rw[Po,hT];rcases Nat.lt_or_ge k A.length with h1|h1
     .rw [List.eraseIdx_append_of_lt_length h1]
     .rw [Rs h1,Rs (by simp;omega)])
    refine⟨T',(LK (a':=(((A++[z]).length:Int),Sl.mk (T.l++[z]))) ?_).trans i1,i2⟩;simp only[QG];have:(((A.length:Nat):Int) !=(k:Int))=true:=by rw[bne_iff_ne];omega
    rw[decide_eq_true (by omega),cond_true,this,cond_true,M7 hi,aR,hz,QZ.2 ⟨rfl,by rw[hT];simp;omega⟩,aR,aR,Sx (by omega),bh];rfl
 obtain⟨T',i1,i2⟩:=key s.l [] Sl.nil rfl (by simp[Sl.l]);have i1':zu (QG s (k:Int)) (0,Sl.nil)=some T':=i1;rw[i1'];exact⟨T',rfl,i2⟩
theorem T5{t:l8}{s:Sl nn}{q:Sl sx}(he:s.l=q.l)(hb:s.l.length<=256)(now k:Int):
  ∃(x:nn)(r:Int)(s' q':Sl nn),QI t s now k=some (x,r,t,s')/\Sb t q now k=some (x,r,t,q')/\s'.l=q'.l/\s'.l.length<=256/\
   (r=0->∃j:Nat,j<s.l.length/\x=gt s.l j/\x.Sn<=now/\s'.l=s.l.eraseIdx j)/\(r≠0->s'=s):=by
 unfold QI Sb;rw[Ub,TZ,<-he,aR,aR];unfold Tw;by_cases h:0<=k/\k<s.l.length
 .rw [if_pos h];obtain⟨n,rfl⟩:∃n:Nat,k=n:=⟨k.toNat,by omega⟩
  have hn:n<s.l.length:=by omega
  have e1:((n:Nat):Int).toNat=n:=by omega
  rw[e1];simp only[];have e2:(((0:Int)) !=0)=false:=rfl;rw[e2,cond_false,cond_false];by_cases hl:now<nn.Sn (gt s.l n)
  .rw [decide_eq_true hl,cond_true,cond_true];exact⟨T4,15,s,q,rfl,rfl,he,hb,(fun h=>by cases h),(fun _=>rfl)⟩
  .have hne:s.l≠[]:=by intro h0;rw[h0]at hn;simp at hn
   obtain⟨q',w1,w2⟩:=Tm (t:=t) (s:=q) (by rw[<-he];exact hb) n;rw[decide_eq_false hl,cond_false,cond_false,T1 hb hne,aR,Uj hn hb,aR,w1,aR];have hle:=List.length_eraseIdx_le s.l n;exact⟨_,0,_,q',rfl,rfl,by rw[Po,w2,he],by rw[Po];omega,(fun _=>⟨n,hn,rfl,by show nn.Sn (gt s.l n)<=now;omega,rfl⟩),(fun h=>absurd rfl h)⟩
 .rw [if_neg h];exact⟨T4,7,s,q,rfl,rfl,he,hb,(fun h=>by cases h),(fun _=>rfl)⟩
def SH(now:Int)(x:nn):Bool:=decide (x.QQ<=now)
def UH(now:Int)(L S R:List nn):Prop:=MK TH S/\LP TH S (L.filter (SH now))/\R=L.filter (fun x=>!SH now x)
theorem T7{s:Sl nn}(hb:s.l.length<=256)(now:Int):∃a b:Sl nn,zu (QS s now) (0,Sl.nil,Sl.nil)=some (a,b)/\a.l=s.l.filter (SH now)/\b.l=s.l.filter (fun x=>!SH now x)/\(a=Sl.nil\/a=Sl.mk a.l):=by
 have key:∀(R A:List nn)(a b:Sl nn),s.l=A++R->a.l=A.filter (SH now)->b.l=A.filter (fun x=>!SH now x)->(a=Sl.nil\/a=Sl.mk a.l)->∃a' b',zu (QS s now) ((A.length:Int),a,b)=some (a',b')/\a'.l=s.l.filter (SH now)/\b'.l=s.l.filter (fun x=>!SH now x)/\(a'=Sl.nil\/a'=Sl.mk a'.l):=by
  intro R;induction R with
  |nil=>intro A a b e h1 h2 h3;refine⟨a,b,LJ ?_,by rw[h1,e,be],by rw[h2,e,be],h3⟩;simp only[QS];rw[decide_eq_false (by rw[e];simp),cond_false]
  |cons z R ih=>
   intro A a b e h1 h2 h3;have hi:A.length<s.l.length:=by rw[e];simp
   have hz:gt s.l A.length=z:=by rw[e];exact Nk
   have l1:=List.length_filter_le (SH now) A;have l2:=List.length_filter_le (fun x=>!SH now x) A;cases hd:SH now z with|true=>obtain⟨a',b',i1,i2⟩:=ih (A++[z]) (Sl.mk (a.l++[z])) b (by rw[e];simp) (by rw[Po,h1,L8];simp[hd]) (by rw[h2,L8];simp[hd]) (.inr rfl);refine⟨a',b',(LK (a':=(((A++[z]).length:Int),Sl.mk (a.l++[z]),b)) ?_).trans i1,i2⟩;simp only[QS];have hd':decide (nn.QQ z<=now)=true:=hd;rw[decide_eq_true (by omega),cond_true,M7 hi,aR,hz,hd',cond_true,QZ.2 ⟨rfl,by rw[h1];simp;omega⟩,aR,aR];simp only[];rw[Sx (by omega),bh];rfl|false=>obtain⟨a',b',i1,i2⟩:=ih (A++[z]) a (Sl.mk (b.l++[z])) (by rw[e];simp) (by rw[h1,L8];simp[hd]) (by rw[Po,h2,L8];simp[hd]) h3;refine⟨a',b',(LK (a':=(((A++[z]).length:Int),a,Sl.mk (b.l++[z]))) ?_).trans i1,i2⟩;simp only[QS];have hd':decide (nn.QQ z<=now)=false:=hd;rw[decide_eq_true (by omega),cond_true,M7 hi,aR,hz,hd',cond_false,QZ.2 ⟨rfl,by rw[h2];simp;omega⟩,aR,aR];simp only[];rw[Sx (by omega),bh];rfl
 exact key s.l [] Sl.nil Sl.nil rfl rfl rfl (.inl rfl)
theorem Ui{t:l8}{s:Sl nn}(hb:s.l.length<=256)(now:Int):∃d s':Sl nn,RJ t s now=some (d,t,s')/\UH now s.l d.l s'.l:=by
 unfold RJ;obtain⟨a,b,i1,i2,i3,i4⟩:=T7 hb now;have hl:=List.length_filter_le (SH now) s.l;rw[i1,aR];simp only[];rw[Ph];rcases i4 with i4|i4
 .subst i4;rw[O4,aR];have hn:AK (Sl.nil:Sl nn) Sl.nil=some ():=rfl;rw[hn,aR];have i2':s.l.filter (SH now)=[]:=i2.symm;exact⟨_,_,rfl,.nil,by rw[i2'];exact .refl _,i3⟩
 .obtain ⟨M,m1,m2,m3,m4⟩:=OJ Ti Pq (f:=8) (l:=a.l) (by rw[i2];omega) (by rw[i2];omega) (fun _ _=>trivial);rw[i4,m1,aR,Nu m2,aR];exact⟨_,_,rfl,m3,by rw[Po];rw[i2]at m4;exact m4,i3⟩
end Go.Proofs.Ytingpmogbibghaa.W
