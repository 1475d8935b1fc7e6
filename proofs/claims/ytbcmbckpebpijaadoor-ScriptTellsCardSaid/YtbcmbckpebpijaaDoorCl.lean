/- ScriptTells, ScriptBack: the laws over their programs. Conditions: as stated. -/
import Derived.Test.YtbcmbckpebpijaaDoorCp
open Bool renaming not_true->fH
open List renaming getElem?_eq_getElem->ai,getElem_mem->eT,length_append->aZ,length_cons->cz,mem_append->aj,mem_cons_of_mem->av,mem_cons_self->bG,mem_singleton->am,take_add_one->rm,take_length->iL
open Nat renaming zero_le->dK
open Option renaming bind_some->af
open Prod.mk renaming injEq->bO
open Go.Ev Go
namespace Go.Proofs.YtbcmbckpebpijaaDoor.C
theorem B5(l:Sl aE)(hn:l.l.length<=1000000):∃sl:Sl az,lx l=some sl/\sl.l=l.l:=by
 obtain⟨s,h1,h2⟩:=AY (f:=iY l) (fun i(s:Sl az)=>(((i:Nat):Int),s)) l.l.length (fun i s=>s.l=l.l.take i) (fun s=>s.l=l.l) (fun i s hi hI=>by
  simp only[iY];rw[decide_eq_true (by omega),cond_true,oq hi,rS (by omega)];simp only[af,ly];rw[wX (by rw[aZ,hI];simp;omega)];refine .inl ⟨_,rfl,?_⟩;show s.l++[gt l.l i]=_;rw[hI,yV hi,rm,ai hi];rfl) (fun s hI=>by
  simp only[iY];rw[decide_eq_false (by omega),cond_false];exact⟨_,rfl,by rw[hI,iL]⟩) 0 Sl.nil (dK _) rfl
 have h1:dP (iY l) ((0:Int),Sl.nil)=some s:=h1;unfold lx;rw[h1];exact⟨s,rfl,h2⟩
theorem Ia(a:Sl az)(b:Sl aE)(h:a.l=b.l)(hn:a.l.length<=1000000):nf a b=some true:=by
 obtain⟨m,h1,h2⟩:=B5 b (by rw[<-h];exact hn);unfold nf;rw[h1];simp only[af];rw[show((a.l.length:Int) !=(m.l.length:Int))=false by rw[h2,h];simp,cond_false]
 obtain⟨r,h3,h4⟩:=AY (f:=iZ a m) (fun i(_:Unit)=>((i:Nat):Int)) a.l.length (fun _ _=>True) (fun r=>r=.inr ()) (fun i s hi _=>by
  simp only[iZ];rw[decide_eq_true (by omega),cond_true,oq hi,oq (show i<m.l.length by rw[h2,<-h];exact hi),rS (by omega)];simp only[af];rw[show gt m.l i=gt a.l i by rw[h2,<-h],decide_eq_true rfl];exact .inl ⟨(),rfl,trivial⟩) (fun s _=>by
  simp only[iZ];rw[decide_eq_false (by omega),cond_false];exact⟨_,rfl,rfl⟩) 0 () (dK _) trivial
 have h3:dP (iZ a m) (0:Int)=some r:=h3;rw[h3,h4];rfl
def ql(l:List S3):List UInt8:=l.flatMap fun s=>f_ s++[10]
theorem vk(s:S3)(l:List S3):ql (s::l)=f_ s++10::ql l:=by unfold ql;rw[List.flatMap_cons,List.append_assoc];rfl
theorem F7(a b:List S3):ql (a++b)=ql a++ql b:=by unfold ql;rw[List.flatMap_append]
theorem mI:∀{l:List S3},(∀s∈l,gG s)->(ql l).length<=41*l.length
 |[],_=>by decide
 |s::l,h=>by have h1:=tC (h s (bG ..));have h2:=mI fun t ht=>h t (av _ ht);rw[vk,aZ,cz,cz];omega
def dM(l:List S3):Prop:=∃s∈l,¬gG s
instance(l:List S3):Decidable (dM l):=by unfold dM;infer_instance
theorem wj{l:List S3}:¬dM l<->∀s∈l,gG s:=by
 unfold dM;constructor
 .intro h s hs;exact Decidable.byContradiction fun hn=>h ⟨s,hs,hn⟩
 .rintro h ⟨s,hs,hn⟩;exact hn (h s hs)
theorem Ma(l:Sl az)(hn:l.l.length<=1000000):bk l=some (decide (dM l.l)):=by
 obtain⟨r,h1,h2⟩:=AY (f:=bi l) (fun i(_:Unit)=>((i:Nat):Int)) l.l.length (fun i _=>∀s∈l.l.take i,gG s) (fun r=>(r=.inr ()/\¬dM l.l)\/∃i:Nat,r=.inl (i:Int)/\dM l.l) (fun i s hi hI=>by
  simp only[bi];rw[decide_eq_true (by omega),cond_true,oq hi,rS (by omega)];simp only[af];unfold mg;rw[tj];simp only[af];have hg:gt l.l i=l.l[i]:=yV hi;by_cases hm:gG (gt l.l i)
  .rw [decide_eq_true hm];refine .inl ⟨(),rfl,fun s hs=>?_⟩;rw[rm,ai hi]at hs;rcases aj.1 hs with hs|hs
   .exact hI s hs
   .obtain rfl:=am.1 (show s∈[l.l[i]]from hs);rw[<-hg];exact hm
  .rw [decide_eq_false hm];exact .inr ⟨_,rfl,.inr ⟨i,rfl,l.l[i],eT _,by rw[<-hg];exact hm⟩⟩) (fun s hI=>by
  simp only[bi];rw[decide_eq_false (by omega),cond_false];rw[iL]at hI;exact⟨_,rfl,.inl ⟨rfl,wj.2 hI⟩⟩) 0 () (dK _) (fun s hs=>by simp at hs)
 have h1:dP (bi l) (0:Int)=some r:=h1;unfold bk ci;rw[h1];rcases h2 with⟨rfl,hb⟩|⟨i,rfl,hb⟩
 .rw [decide_eq_false hb];rfl
 .rw [decide_eq_true hb];simp only[af];rw[decide_eq_true (by omega)]
theorem yK:∀{l:List S3},(∀s∈l,gG s)->gE dH l=some (ql l)
 |[],_=>rfl
 |s::l,h=>by show(dH s).bind (fun x=>(gE dH l).bind fun y=>some (x.data.toList++10::y))=_;rw[rZ (h s (bG ..)),yK fun t ht=>h t (av _ ht),vk];simp only[af,nA]
theorem Hd(l:Sl az)(hn:l.l.length<=10000):Es l=some (B (if dM l.l then[]else ql l.l)):=by
 unfold Es uN;rw[Ma l (by omega)];simp only[af];by_cases hb:dM l.l
 .rw [decide_eq_true hb,if_pos hb];rfl
 .have hm:=wj.1 hb;have hl:=mI hm;rw[decide_eq_false hb,if_neg hb,cond_false,yK hm];simp only[af];rw[if_pos ⟨by omega,by omega⟩]
theorem xW(l:Sl aE)(hn:l.l.length<=10000):m8 l=some (B (if dM l.l then[]else ql l.l)):=by
 obtain⟨r,h1,h2⟩:=AY (f:=iX l) (fun i(_:Unit)=>(B (ql (l.l.take i)),((i:Nat):Int))) l.l.length (fun i _=>∀s∈l.l.take i,gG s) (fun r=>(r=.inr (B (ql l.l))/\¬dM l.l)\/(r=.inl (B [])/\dM l.l)) (fun i s hi hI=>by
  simp only[iX];rw[decide_eq_true (by omega),cond_true,oq hi,rS (by omega)];simp only[af];rw[lm];simp only[af];have hg:gt l.l i=l.l[i]:=yV hi;by_cases hm:gG (gt l.l i)
  .have hl:=mI hI;have hl2:=tC hm;rw[List.length_take]at hl;rw[decide_eq_true hm];simp only[fH,cond_false,af];rw[oc hm];simp only[af];rw[mO (by omega)];simp only[af];rw[show(⟨#[10]⟩:ByteArray)=B [10]from rfl,mO (by simp;omega)];refine .inl ⟨(),?_,fun s hs=>?_⟩
   .rw [rm,ai hi,hg,Option.toList_some,F7];simp[ql]
   .rw [rm,ai hi]at hs;rcases aj.1 hs with hs|hs
    .exact hI s hs
    .obtain rfl:=am.1 (show s∈[l.l[i]]from hs);rw[<-hg];exact hm
  .rw [decide_eq_false hm];exact .inr ⟨_,rfl,.inr ⟨rfl,l.l[i],eT _,by rw[<-hg];exact hm⟩⟩) (fun s hI=>by
  simp only[iX];rw[decide_eq_false (by omega),cond_false];rw[iL]at hI|-;exact⟨_,rfl,.inl ⟨rfl,wj.2 hI⟩⟩) 0 () (dK _) (fun s hs=>by simp at hs)
 have h1:dP (iX l) ((⟨#[]⟩:ByteArray),(0:Int))=some r:=h1;unfold m8;rw[h1];rcases h2 with⟨rfl,hb⟩|⟨rfl,hb⟩
 .rw [if_neg hb];rfl
 .rw [if_pos hb];rfl
theorem ww:f_ (2,1,-30)=[116,117,114,110,32,49,32,45,51,48]:=by
 have h1:Lib.itoa 1=[49]:=by rw[show(1:Int)=((1:Nat):Int)from rfl,sd,lF (by decide)];rfl
 have h2:Lib.itoa (-30)=[45,51,48]:=by rw[show(-30:Int)=-((30:Nat):Int)from rfl,se (by decide),oB (by decide),lF (by decide)];rfl
 unfold f_;rw[show hI ((2,1,-30):S3).1=true from rfl,show hN ((2,1,-30):S3).1=true from rfl,cond_true,cond_true,h1,h2];rfl
theorem Fm:gG (2,1,-30):=by decide
theorem ub:kx=some true:=by
 have hp:ur 20 1 ([35,32,115,108,111,119,101,114,10,116,117,114,110,32,49,32,45,51,48,10]:List UInt8)=.inr [(2,1,-30)]:=by
  rw[ur,if_neg (by simp),show di 10 ([35,32,115,108,111,119,101,114,10,116,117,114,110,32,49,32,45,51,48,10]:List UInt8)=[35,32,115,108,111,119,101,114]from rfl,show Hj [35,32,115,108,111,119,101,114]=true from rfl,cond_true,
   show([35,32,115,108,111,119,101,114,10,116,117,114,110,32,49,32,45,51,48,10]:List UInt8).drop (([35,32,115,108,111,119,101,114]:List UInt8).length+1)=[116,117,114,110,32,49,32,45,51,48,10]from rfl,
   ur,if_neg (by simp),show di 10 ([116,117,114,110,32,49,32,45,51,48,10]:List UInt8)=[116,117,114,110,32,49,32,45,51,48]from rfl,show Hj [116,117,114,110,32,49,32,45,51,48]=false from rfl,cond_false,<-ww,xZ Fm]
  simp only;rw[ww,show([116,117,114,110,32,49,32,45,51,48,10]:List UInt8).drop (([116,117,114,110,32,49,32,45,51,48]:List UInt8).length+1)=[]from rfl,wd]
 obtain⟨sl,n,e,h1,h2⟩:=x8 (s:=[35,32,115,108,111,119,101,114,10,116,117,114,110,32,49,32,45,51,48,10]) (by decide);rw[show([35,32,115,108,111,119,101,114,10,116,117,114,110,32,49,32,45,51,48,10]:List UInt8).length=20 from rfl,hp]at h2;have h2:(sl.l,n,e)=([(2,1,-30)],0,0):=h2;simp only[bO]at h2;obtain⟨hl,rfl,rfl⟩:=h2;unfold kx;rw[show(⟨#[35,32,115,108,111,119,101,114,10,116,117,114,110,32,49,32,45,51,48,10]⟩:ByteArray)=B [35,32,115,108,111,119,101,114,10,116,117,114,110,32,49,32,45,51,48,10]from rfl,h1];simp only[af];rw[hl];show((bif decide (((2,1,-30):az)=(⟨2,1,(-30)⟩:az))then((dH (2,1,-30)).bind fun r6=>some (r6.toList==(⟨#[116,117,114,110,32,49,32,45,51,48]⟩:ByteArray).toList))else some false:Option Bool).bind fun b7=>some b7)=_;rw[decide_eq_true rfl,cond_true,rZ Fm,ww];simp only[af];rw[show(⟨#[116,117,114,110,32,49,32,45,51,48]⟩:ByteArray)=B [116,117,114,110,32,49,32,45,51,48]from rfl,xk];rfl
theorem CI(l:Sl aE)(s:ByteArray)(kind:Int):jS l s kind=some true:=by
 unfold jS;cases hc:((decide ((l.l.length:Int)>60))||(decide ((s.size:Int)>1000)))with
 |true=>rw[cond_true,ub];rfl
 |false=>
  rw[cond_false];simp only[Bool.or_eq_false_iff,decide_eq_false_iff_not]at hc;have hs:s.data.toList.length<=1000:=by have:=JF s;omega
  obtain⟨w,w1,w2⟩:=zM kind;rw[w1,w2];simp only[af,beq_self_eq_true,fH,cond_false]
  obtain⟨r,h1,h2⟩:=AY (f:=e9 l) (fun i(_:Unit)=>((i:Nat):Int)) l.l.length (fun _ _=>True) (fun r=>r=.inr ()) (fun i _ hi _=>by
   obtain⟨v,v1,v2⟩:=AJ (gt l.l i);refine .inl ⟨(),?_,trivial⟩;simp only[e9];rw[decide_eq_true (by omega),cond_true,oq hi,rS (by omega)];simp only[af,ly];rw[tj,lm];simp only[af,beq_self_eq_true,fH,cond_false];rw[v1,v2];simp only[af,beq_self_eq_true,fH,cond_false]) (fun _ _=>by
   simp only[e9];rw[decide_eq_false (by omega),cond_false];exact⟨_,rfl,rfl⟩) 0 () (dK _) trivial
  have h1:dP (e9 l) (0:Int)=some r:=h1;rw[h1,h2];simp only[af];obtain⟨a,n,e,p1,p2⟩:=x8 (s:=s.data.toList) (by omega);obtain⟨b,m,f,q1,q2⟩:=CW (s:=s.data.toList) (by omega);rw[GW]at p1 q1;have hu:=GK p2 q2;simp only[bO]at hu;obtain⟨hab,rfl,rfl⟩:=hu;rw[p1,q1];simp only[af];obtain⟨mi,m1,m2⟩:=B5 l (by omega)
  have hal:a.l.length<=1000000:=by
   have key:∀(f n:Nat)(t:List UInt8)(x:List S3),ur f n t=.inr x->x.length<=f:=by
    intro f;induction f with
    |zero=>intro n t x h;obtain rfl:=Sum.inr.inj h;simp
    |succ f ih=>
     intro n t x h;rw[ur]at h;split at h
     .obtain rfl:=Sum.inr.inj h;simp
     .cases hk:Hj (di 10 t)with
      |true=>rw[hk,cond_true]at h;have:=ih _ _ _ h;omega
      |false=>
       rw[hk,cond_false]at h;split at h
       .cases h
       .split at h
        .cases h
        .rename_i l' hl';obtain rfl:=Sum.inr.inj h;have:=ih _ _ _ hl';rw[cz];omega
   generalize hpq:ur s.data.toList.length 1 s.data.toList=pq at p2;cases pq with|inl m=>have p2:(a.l,n,e)=_:=p2;simp only[bO]at p2;rw[p2.1];simp|inr x=>have p2:(a.l,n,e)=_:=p2;simp only[bO]at p2;rw[p2.1];have:=key _ _ _ _ hpq;omega
  rw[m1];simp only[af];rw[Hd mi (by rw[m2];omega),xW l (by omega),m2];simp only[af,beq_self_eq_true,cond_true];rw[Ia a b hab hal];simp only[af,Bool.and_self,cond_true];rw[ub];rfl
end Go.Proofs.YtbcmbckpebpijaaDoor.C
