/- Texts, parsed. Conditions: as stated. -/
import Derived.Test.YtbcmbckpebpijaaDoorCq
open Bool renaming not_true->fH
open List renaming drop_of_length_le->dR,length_drop->bR
open Option renaming bind_some->af
open Go.Ev Go
noncomputable section
namespace Go.Proofs.YtbcmbckpebpijaaDoor.C
open Classical in
def LB(l:List UInt8):Option S3:=if h:∃s,gG s/\f_ s=l then some h.choose else none
theorem Fy{s t:S3}(h1:gG s)(h2:gG t)(h:f_ s=f_ t):s=t:=by obtain⟨x,ok,_,hr⟩:=BO (f_ t) (by have:=tC h2;omega);rw[<-(hr.n s h1 h).2,(hr.n t h2 rfl).2]
theorem xZ{s:S3}(h:gG s):LB (f_ s)=some s:=by
 have he:∃t,gG t/\f_ t=f_ s:=⟨s,h,rfl⟩
 unfold LB;rw[dif_pos he,Fy he.choose_spec.1 h he.choose_spec.2]
theorem BP{l:List UInt8}{x:S3}{ok:Bool}(h:Rd l x ok):LB l=if ok=true then some x else none:=by cases ok with|true=>obtain⟨h1,h2⟩:=h.y rfl;rw[if_pos rfl,<-h2,xZ h1]|false=>rw[if_neg (by simp)];unfold LB;rw[dif_neg];rintro⟨s,h1,h2⟩;exact absurd (h.n s h1 h2).1 (by simp)
def Hj(l:List UInt8):Bool:=match l with|[]=>true|c::_=>decide (c=35)
def ur:Nat->Nat->List UInt8->Nat⊕List S3
 |0,_,_=>.inr []
 |f+1,n,s=>if s=[]then .inr []else
  bif Hj (di 10 s)then ur f (n+1) (s.drop ((di 10 s).length+1))else
  match LB (di 10 s)with
  |none=>.inl n
  |some x=>match ur f (n+1) (s.drop ((di 10 s).length+1))with|.inl m=>.inl m|.inr l=>.inr (x::l)
theorem wd(f n:Nat):ur f n []=.inr []:=by
 cases f
 .rfl
 .rw [ur,if_pos rfl]
theorem ED{l:List UInt8}:(bif((B l).toList==(⟨#[]⟩:ByteArray).toList)then(some true)else((zA (B l) 0).bind fun b12=>some (b12==35)):Option Bool)=some (Hj l):=by rw[show(⟨#[]⟩:ByteArray)=B []from rfl,xk];cases l with|nil=>rfl|cons c l=>rw[decide_eq_false (by simp),cond_false,show zA (B (c::l)) 0=some (c.toNat:Int)from zy (i:=0) rfl];show some ((c.toNat:Int)==35)=some (decide (c=35));have:=wY (x:=c) (c:=35);unfold bne at this;rw[Bool.not_eq_eq_eq_not,Bool.not_not]at this;rw[<-this];rfl
theorem KM{s:List UInt8}(hs:s.length<=100000):∃b,Gl (B s) (⟨#[10]⟩:ByteArray)=some (B (di 10 s),B (s.drop ((di 10 s).length+1)),b):=by
 show∃b,(if(B s).size<4294967281 then some (qm (B s) 10)else none)=some (_,_,b);rw[if_pos (by rw[eR];omega)];unfold qm;rw[nA];rcases zi s 10 with h|⟨a,b,rfl,h⟩
 .rw [AR h,if_pos rfl,BA h,dR (by omega)];exact⟨false,rfl⟩
 .rw [wy h,if_neg (by omega),pW h,show((a.length:Int)).toNat=a.length from rfl,vp,vp,eR];refine⟨true,?_⟩;congr 3
  .simp
  .congr 1;rw[List.take_of_length_le (by rw[bR];omega)]
def Lh{α:Type}(r:(Int×Int)⊕(Sl α))(acc:List α):Nat⊕List α->Prop
 |.inl m=>r=.inl ((m:Int),10)
 |.inr l=>∃sl,r=.inr sl/\sl.l=acc++l
theorem pJ:∀(f n:Nat)(s:List UInt8)(acc:Sl az),s.length<=f->n+f<=100000->acc.l.length+f<=100000->∃r,dP ge (B s,(n:Int),acc)=some r/\Lh r acc.l (ur f n s)
 |f,n,[],acc,hs,hn,ha=>by rw[wd];refine⟨.inr acc,eF ?_,acc,rfl,by simp⟩;simp only[ge];rw[show(⟨#[]⟩:ByteArray)=B []from rfl,xk];rfl
 |0,n,c::s,acc,hs,hn,ha=>by simp at hs
 |f+1,n,c::s,acc,hs,hn,ha=>by
  generalize hcs:c::s=t at*;have ht:t≠[]:=by rw[<-hcs];simp
  have hup:=su 10 t;have hrest:(t.drop ((di 10 t).length+1)).length<=f:=by rw[bR];omega
  obtain⟨b,hcut⟩:=KM (s:=t) (by omega);rw[ur,if_neg ht]
  have hbody:∀v,(bif Hj (di 10 t)then(some (.inl (B (t.drop ((di 10 t).length+1)),acc)))else
    ((kp (B (di 10 t))).bind fun(r14,r15)=>
    bif(!r15)then(some (.inr ((n:Int),10)))else
    ((nv (acc.l++[r14])).bind fun l16=>
    some (.inl (B (t.drop ((di 10 t).length+1)),(Sl.mk l16))))):Option ((ByteArray×Sl az)⊕(Int×Int)))=some v->
    ge (B t,(n:Int),acc)=(match v with
     |.inl (s17,s18)=>(some (.inl (s17,((n+1:Nat):Int),s18)))
     |.inr (i19,i20)=>(some (.inr (.inl (i19,i20))))):=fun v hv=>by
   simp only[ge];rw[show(⟨#[]⟩:ByteArray)=B []from rfl,xk,decide_eq_false ht];simp only[Bool.not_false,cond_true];rw[hcut];simp only[af];have hsk:=ED (l:=di 10 t);rw[show(⟨#[]⟩:ByteArray)=B []from rfl]at hsk;rw[hsk];simp only[af];rw[hv];simp only[af];rw[rS (by omega)];rcases v with⟨_,_⟩|⟨_,_⟩<;>rfl
  cases hk:Hj (di 10 t)with
  |true=>rw[hk]at hbody;obtain⟨r,h1,h2⟩:=pJ f (n+1) (t.drop ((di 10 t).length+1)) acc hrest (by omega) (by omega);exact⟨r,(gf (hbody _ rfl)).trans h1,h2⟩
  |false=>
   rw[hk]at hbody;simp only[cond_false]at hbody|-;obtain⟨x,ok,hx,hr⟩:=BO (di 10 t) (by omega);rw[hx]at hbody;rw[BP hr];cases ok with
   |false=>exact⟨_,eF (hbody _ rfl),rfl⟩
   |true=>simp only[af,fH,cond_false]at hbody;rw[wX (by simp;omega)]at hbody;obtain⟨r,h1,h2⟩:=pJ f (n+1) (t.drop ((di 10 t).length+1)) (.mk (acc.l++[x])) hrest (by omega) (by simp;omega);refine⟨r,(gf (hbody _ rfl)).trans h1,?_⟩;rw[if_pos rfl];simp only;generalize ur f (n+1) (t.drop ((di 10 t).length+1))=p at h2|-;cases p with|inl m=>exact h2|inr l=>obtain⟨sl,e1,e2⟩:=h2;exact⟨sl,e1,by rw[e2];simp⟩
theorem EV{s:List UInt8}(hl:s.length<=100000){i:Nat}(hi:i<=s.length):dP (iz (B s)) (i:Int)=some ((i+(di 10 (s.drop i)).length:Nat):Int):=
 v6 (f:=iz (B s)) (l:=s) (c:=10) (fun i x hx=>by
  obtain⟨hi,_⟩:=List.getElem?_eq_some_iff.1 hx;simp only[iz];rw[decide_eq_true (by rw[eR];omega),cond_true,zy hx];simp only[af];rw[show((x.toNat:Int) !=10)=!decide (x=10)from wY (c:=10),rS (by omega)];by_cases hc:x=10
  .rw [decide_eq_true hc,if_pos hc];rfl
  .rw [decide_eq_false hc,if_neg hc];rfl) (by
  simp only[iz];rw[decide_eq_false (by rw[eR];omega)];rfl) (s.length-i) i (by omega)
theorem nX{s:List UInt8}(hl:s.length<=50000):∀(f n i:Nat)(acc:Sl aE),(s.drop i).length<=f->i<=s.length+1->n+f<=100000->acc.l.length+f<=100000->∃r,dP (gC (B s)) ((i:Int),(n:Int),acc)=some r/\Lh r acc.l (ur f (n+1) (s.drop i))
 |f,n,i,acc,hs,hi,hn,ha=>by
  by_cases hlt:i<s.length
  case neg=>rw[dR (by omega),wd];refine⟨.inr acc,eF ?_,acc,rfl,by simp⟩;simp only[gC];rw[decide_eq_false (by rw[eR];omega),cond_false]
  match f,hs with
  |0,hs=>rw[bR]at hs;omega
  |f+1,hs=>
   have ht:s.drop i≠[]:=fun e=>by have:=congrArg List.length e;rw[bR]at this;simp at this;omega
   have hup:=su 10 (s.drop i);rw[bR]at hup hs;have hdd:(s.drop i).drop ((di 10 (s.drop i)).length+1)=s.drop (i+(di 10 (s.drop i)).length+1):=by rw[List.drop_drop];congr 1
   have hrest:(s.drop (i+(di 10 (s.drop i)).length+1)).length<=f:=by rw[bR];omega
   have hsub:mY (B s) (i:Int) ((i+(di 10 (s.drop i)).length:Nat):Int)=some (B (di 10 (s.drop i))):=by rw[Eu (by omega) (by omega),Nat.add_sub_cancel_left];unfold di;rw[<-List.prefix_iff_eq_take.1 (List.takeWhile_prefix _)]
   rw[ur,if_neg ht,hdd]
   have hstep:∀v,(bif Hj (di 10 (s.drop i))then(some (.inl (((i+(di 10 (s.drop i)).length+1:Nat):Int),((n+1:Nat):Int),acc)))else
     ((lp (B (di 10 (s.drop i)))).bind fun(r17,r18)=>
     bif(!r18)then(some (.inr (.inl (((n+1:Nat):Int),10))))else
     ((nv (acc.l++[r17])).bind fun l19=>
     some (.inl (((i+(di 10 (s.drop i)).length+1:Nat):Int),((n+1:Nat):Int),(Sl.mk l19))))):Option ((Int×Int×Sl aE)⊕((Int×Int)⊕(Sl aE))))=v->
     gC (B s) ((i:Int),(n:Int),acc)=v:=fun v hv=>by
    simp only[gC];rw[decide_eq_true (by rw[eR];omega),cond_true,EV (by omega) (by omega)];simp only[af];rw[hsub];simp only[af];have hsk:=ED (l:=di 10 (s.drop i));rw[hsk];simp only[af];rw[rS (by omega),rS (by omega)];exact hv
   cases hk:Hj (di 10 (s.drop i))with
   |true=>rw[hk]at hstep;obtain⟨r,h1,h2⟩:=nX hl f (n+1) (i+(di 10 (s.drop i)).length+1) acc hrest (by omega) (by omega) (by omega);exact⟨r,(gf (hstep _ rfl)).trans h1,h2⟩
   |false=>
    rw[hk]at hstep;simp only[cond_false]at hstep|-;obtain⟨x,ok,hx,hr⟩:=EN (di 10 (s.drop i)) (by omega);rw[hx]at hstep;rw[BP hr];cases ok with
    |false=>exact⟨_,eF (hstep _ rfl),rfl⟩
    |true=>simp only[af,fH,cond_false]at hstep;rw[wX (by simp;omega)]at hstep;obtain⟨r,h1,h2⟩:=nX hl f (n+1) (i+(di 10 (s.drop i)).length+1) (.mk (acc.l++[x])) hrest (by omega) (by omega) (by simp;omega);refine⟨r,(gf (hstep _ rfl)).trans h1,?_⟩;rw[if_pos rfl];simp only;generalize ur f (n+1+1) (s.drop (i+(di 10 (s.drop i)).length+1))=p at h2|-;cases p with|inl m=>exact h2|inr l=>obtain⟨sl,e1,e2⟩:=h2;exact⟨sl,e1,by rw[e2];simp⟩
def Mr(a:List S3×Int×Int):Nat⊕List S3->Prop
 |.inl m=>a=([],(m:Int),10)
 |.inr l=>a=(l,0,0)
theorem x8{s:List UInt8}(hl:s.length<=40000):∃(sl:Sl az)(n e:Int),jP (B s)=some (sl,n,e)/\Mr (sl.l,n,e) (ur s.length 1 s):=by obtain⟨r,h1,h2⟩:=pJ s.length 1 s Sl.nil (Nat.le_refl _) (by omega) (by show 0+_<=_;omega);have h1:dP ge (B s,(1:Int),Sl.nil)=some r:=h1;unfold jP;rw[h1];generalize ur s.length 1 s=p at h2;cases p with|inl m=>have h2:r=_:=h2;subst h2;exact⟨Sl.nil,m,10,rfl,rfl⟩|inr l=>obtain⟨sl,rfl,e⟩:=h2;exact⟨sl,0,0,rfl,by show(sl.l,(0:Int),(0:Int))=(l,0,0);rw[e];rfl⟩
theorem CW{s:List UInt8}(hl:s.length<=40000):∃(sl:Sl aE)(n e:Int),lU (B s)=some (sl,n,e)/\Mr (sl.l,n,e) (ur s.length 1 s):=by obtain⟨r,h1,h2⟩:=nX (s:=s) (by omega) s.length 0 0 Sl.nil (by simp) (by omega) (by omega) (by show 0+_<=_;omega);have h1:dP (gC (B s)) ((0:Int),(0:Int),Sl.nil)=some r:=h1;rw[List.drop_zero]at h2;have h2:Lh r Sl.nil.l (ur s.length 1 s):=h2;unfold lU;rw[h1];generalize ur s.length 1 s=p at h2;cases p with|inl m=>have h2:r=_:=h2;subst h2;exact⟨Sl.nil,m,10,rfl,rfl⟩|inr l=>obtain⟨sl,rfl,e⟩:=h2;exact⟨sl,0,0,rfl,by show(sl.l,(0:Int),(0:Int))=(l,0,0);rw[e];rfl⟩
theorem GK{a b:List S3×Int×Int}{p:Nat⊕List S3}(h1:Mr a p)(h2:Mr b p):a=b:=by cases p with|inl m=>exact(show a=_ from h1).trans (show b=_ from h2).symm|inr l=>exact(show a=_ from h1).trans (show b=_ from h2).symm
end Go.Proofs.YtbcmbckpebpijaaDoor.C
