/- Texts, parsed. Conditions: as stated. -/
import Derived.Test.YtbcmbckpebpijaaDoorCq
open List renaming length_drop->bR
open Option renaming bind_some->af
open Go.Ev Go
noncomputable section
namespace Go.Proofs.YtbcmbckpebpijaaDoor.C
open Classical in
def LB(l:List UInt8):Option S3:=if h:∃s,gG s/\f_ s=l then some h.choose else none
theorem Fy{s t:S3}(h1:gG s)(h2:gG t)(h:f_ s=f_ t):s=t:=by obtain⟨x,ok,_,hr⟩:=BO (f_ t) (by have:=tC h2;omega);rw[<-(hr.n s h1 h).2,(hr.n t h2 rfl).2]
theorem xZ{s:S3}(h:gG s):LB (f_ s)=some s:=by
 have he:∃t,gG t/\f_ t=f_ s:=⟨s,h,rfl⟩
 unfold LB;rw[dif_pos he,Fy he.choose_spec.1 h he.choose_spec.2]
theorem BP{l:List UInt8}{x:S3}{ok:Bool}(h:Rd l x ok):LB l=if ok=true then some x else none:=by cases ok with|true=>obtain⟨h1,h2⟩:=h.y rfl;rw[if_pos rfl,<-h2,xZ h1]|false=>rw[if_neg (by simp)];unfold LB;rw[dif_neg];rintro⟨s,h1,h2⟩;exact absurd (h.n s h1 h2).1 (by simp)
def Hj(l:List UInt8):Bool:=match l with|[]=>true|c::_=>decide (c=35)
def ur:Nat->Nat->List UInt8->Nat⊕List S3
 |0,_,_=>.inr []
 |f+1,n,s=>if s=[]then .inr []else
  bif Hj (di 10 s)then ur f (n+1) (s.drop ((di 10 s).length+1))else
  match LB (di 10 s)with
  |none=>.inl n
  |some x=>match ur f (n+1) (s.drop ((di 10 s).length+1))with|.inl m=>.inl m|.inr l=>.inr (x::l)
theorem wd(f n:Nat):ur f n []=.inr []:=by
 cases f
 .rfl
 .rw [ur,if_pos rfl]
theorem ED{l:List UInt8}:(bif((B l).toList==(⟨#[]⟩:ByteArray).toList)then(some true)else((zA (B l) 0).bind fun b12=>some (b12==35)):Option Bool)=some (Hj l):=by rw[show(⟨#[]⟩:ByteArray)=B []from rfl,xk];cases l with|nil=>rfl|cons c l=>rw[decide_eq_false (by simp),cond_false,show zA (B (c::l)) 0=some (c.toNat:Int)from zy (i:=0) rfl];show some ((c.toNat:Int)==35)=some (decide (c=35));have:=wY (x:=c) (c:=35);unfold bne at this;rw[Bool.not_eq_eq_eq_not,Bool.not_not]at this;rw[<-this];rfl
theorem KM{s:List UInt8}(hs:s.length<=100000):∃b,Gl (B s) (⟨#[10]⟩:ByteArray)=some (B (di 10 s),B (s.drop ((di 10 s).length+1)),b):=by
 show∃b,(if(B s).size<4294967281 then some (qm (B s) 10)else none)=some (_,_,b);rw[if_pos (by rw[eR];omega)];unfold qm;rw[nA];rcases zi s 10 with h|⟨a,b,rfl,h⟩
 .rw [AR h,if_pos rfl,BA h,List.drop_of_length_le (by omega)];exact⟨false,rfl⟩
 .rw [wy h,if_neg (by omega),pW h,show((a.length:Int)).toNat=a.length from rfl,vp,vp,eR];refine⟨true,?_⟩;congr 3
  .simp
  .congr 1;rw[List.take_of_length_le (by rw[bR];omega)]
def Lh{α:Type}(r:(Int×Int)⊕(Sl α))(acc:List α):Nat⊕List α->Prop
 |.inl m=>r=.inl ((m:Int),10)
 |.inr l=>∃sl,r=.inr sl/\sl.l=acc++l
theorem pJ:∀(f n:Nat)(s:List UInt8)(acc:Sl az),s.length<=f->n+f<=100000->acc.l.length+f<=100000->∃r,dP ge (B s,(n:Int),acc)=some r/\Lh r acc.l (ur f n s)
 |f,n,[],acc,hs,hn,ha=>by rw[wd];refine⟨.inr acc,eF ?_,acc,rfl,by simp⟩;simp only[ge];rw[show(⟨#[]⟩:ByteArray)=B []from rfl,xk];rfl
 |0,n,c::s,acc,hs,hn,ha=>by simp at hs
 |f+1,n,c::s,acc,hs,hn,ha=>by
  generalize hcs:c::s=t at*;have ht:t≠[]:=by rw[<-hcs];simp
  have hup:=su 10 t;have hrest:(t.drop ((di 10 t).length+1)).length<=f:=by rw[bR];omega
  obtain⟨b,hcut⟩:=KM (s:=t) (by omega);rw[ur,if_neg ht]
  have hbody:∀v,(bif Hj (di 10 t)then(some (.inl (B (t.drop ((di 10 t).length+1)),acc)))else
    ((kp (B (di 10 t))).bind fun(r14,r15)=>
    bif(!r15)then(some (.inr ((n:Int),10)))else
    ((nv (acc.l++[r14])).bind fun l16=>
    some (.inl (B (t.drop ((di 10 t).length+1)),(Sl.mk l16))))):Option ((ByteArray×Sl az)⊕(Int×Int)))=some v->
    ge (B t,(n:Int),acc)=(match v with
     |.inl (s17,s18)=>(some (.inl (s17,((n+1:Nat):Int),s18)))
     |.inr (i19,i20)=>(some (.inr (.inl (i19,i20))))):=fun v hv=>by
   simp only[ge];rw[show(⟨#[]⟩:ByteArray)=B []from rfl,xk,decide_eq_false ht];simp only[Bool.not_false,cond_true];rw[hcut];simp only[af];have hsk:=ED (l:=di 10 t);rw[show(⟨#[]⟩:ByteArray)=B []from rfl]at hsk;rw[hsk];simp only[af];rw[hv];simp only[af];rw[rS (by omega)];rcases v with⟨_,_⟩|⟨_,_⟩<;>rfl
  cases hk:Hj (di 10 t)with
  |true=>rw[hk]at hbody;obtain⟨r,h1,h2⟩:=pJ f (n+1) (t.drop ((di 10 t).length+1)) acc hrest (by omega) (by omega);exact⟨r,(gf (hbody _ rfl)).trans h1,h2⟩
  |false=>
   rw[hk]at hbody;simp only[cond_false]at hbody|-;obtain⟨x,ok,hx,hr⟩:=BO (di 10 t) (by omega);rw[hx]at hbody;rw[BP hr];cases ok with
   |false=>exact⟨_,eF (hbody _ rfl),rfl⟩
   |true=>simp only[af,Bool.not_true,cond_false]at hbody;rw[wX (by simp;omega)]at hbody;obtain⟨r,h1,h2⟩:=pJ f (n+1) (t.drop ((di 10 t).length+1)) (.mk (acc.l++[x])) hrest (by omega) (by simp;omega);refine⟨r,(gf (hbody _ rfl)).trans h1,?_⟩;rw[if_pos rfl];simp only;generalize ur f (n+1) (t.drop ((di 10 t).length+1))=p at h2|-;cases p with|inl m=>exact h2|inr l=>obtain⟨sl,e1,e2⟩:=h2;exact⟨sl,e1,by rw[e2];simp⟩
def Mr(a:List S3×Int×Int):Nat⊕List S3->Prop
 |.inl m=>a=([],(m:Int),10)
 |.inr l=>a=(l,0,0)
theorem x8{s:List UInt8}(hl:s.length<=40000):∃(sl:Sl az)(n e:Int),jP (B s)=some (sl,n,e)/\Mr (sl.l,n,e) (ur s.length 1 s):=by obtain⟨r,h1,h2⟩:=pJ s.length 1 s Sl.nil (Nat.le_refl _) (by omega) (by show 0+_<=_;omega);have h1:dP ge (B s,(1:Int),Sl.nil)=some r:=h1;unfold jP;rw[h1];generalize ur s.length 1 s=p at h2;cases p with|inl m=>have h2:r=_:=h2;subst h2;exact⟨Sl.nil,m,10,rfl,rfl⟩|inr l=>obtain⟨sl,rfl,e⟩:=h2;exact⟨sl,0,0,rfl,by show(sl.l,(0:Int),(0:Int))=(l,0,0);rw[e];rfl⟩
end Go.Proofs.YtbcmbckpebpijaaDoor.C
