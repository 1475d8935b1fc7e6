/- ScriptTells, ScriptBack: the laws over their programs. Conditions: as stated. -/
import Derived.Test.YtbcmbckpebpijaaDoorCp
open List renaming append_assoc->aO,append_nil->aW,getElem?_eq_getElem->ai,length_append->aZ,length_cons->cz,length_drop->bR,length_take->dp,mem_append->aj,mem_cons_of_mem->av,mem_cons_self->bG,mem_singleton->am,take_add_one->pq,take_append_drop->ic,take_length->iL
open Nat renaming le_refl->ak,zero_le->dK
open Option renaming bind_some->af
open Prod.mk renaming injEq->bO
open Go.Ev Go
namespace Go.Proofs.YtbcmbckpebpijaaDoor.C
theorem B5(l:Sl aE)(hn:l.l.length<=1000000):∃sl:Sl az,lx l=some sl/\sl.l=l.l:=by
 obtain⟨s,h1,h2⟩:=AY (f:=iY l) (fun i(s:Sl az)=>(((i:Nat):Int),s)) l.l.length (fun i s=>s.l=l.l.take i) (fun s=>s.l=l.l) (fun i s hi hI=>by
  simp only[iY];rw[decide_eq_true (by omega),cond_true,oq hi,rS (by omega)];simp only[af,ly];rw[wX (by rw[aZ,hI];simp;omega)];refine .inl ⟨_,rfl,?_⟩;show s.l++[gt l.l i]=_;rw[hI,yV hi,pq,ai hi];rfl) (fun s hI=>by
  simp only[iY];rw[decide_eq_false (by omega),cond_false];exact⟨_,rfl,by rw[hI,iL]⟩) 0 Sl.nil (dK _) rfl
 have h1:dP (iY l) ((0:Int),Sl.nil)=some s:=h1;unfold lx;rw[h1];exact⟨s,rfl,h2⟩
theorem Ia(a:Sl az)(b:Sl aE)(h:a.l=b.l)(hn:a.l.length<=1000000):nf a b=some true:=by
 obtain⟨m,h1,h2⟩:=B5 b (by rw[<-h];exact hn);unfold nf;rw[h1];simp only[af];rw[show((a.l.length:Int) !=(m.l.length:Int))=false by rw[h2,h];simp,cond_false]
 obtain⟨r,h3,h4⟩:=AY (f:=iZ a m) (fun i(_:Unit)=>((i:Nat):Int)) a.l.length (fun _ _=>True) (fun r=>r=.inr ()) (fun i s hi _=>by
  simp only[iZ];rw[decide_eq_true (by omega),cond_true,oq hi,oq (show i<m.l.length by rw[h2,<-h];exact hi),rS (by omega)];simp only[af];rw[show gt m.l i=gt a.l i by rw[h2,<-h],decide_eq_true rfl];exact .inl ⟨(),rfl,trivial⟩) (fun s _=>by
  simp only[iZ];rw[decide_eq_false (by omega),cond_false];exact⟨_,rfl,rfl⟩) 0 () (dK _) trivial
 have h3:dP (iZ a m) (0:Int)=some r:=h3;rw[h3,h4];rfl
def ql(l:List S3):List UInt8:=l.flatMap fun s=>f_ s++[10]
theorem vk(s:S3)(l:List S3):ql (s::l)=f_ s++10::ql l:=by unfold ql;rw[List.flatMap_cons,aO];rfl
theorem F7(a b:List S3):ql (a++b)=ql a++ql b:=by unfold ql;rw[List.flatMap_append]
theorem mI:∀{l:List S3},(∀s∈l,gG s)->(ql l).length<=41*l.length
 |[],_=>by decide
 |s::l,h=>by have h1:=tC (h s (bG ..));have h2:=mI fun t ht=>h t (av _ ht);rw[vk,aZ,cz,cz];omega
def dM(l:List S3):Prop:=∃s∈l,¬gG s
instance(l:List S3):Decidable (dM l):=by unfold dM;infer_instance
theorem wj{l:List S3}:¬dM l<->∀s∈l,gG s:=by
 unfold dM;constructor
 .intro h s hs;exact Decidable.byContradiction fun hn=>h ⟨s,hs,hn⟩
 .rintro h ⟨s,hs,hn⟩;exact hn (h s hs)
theorem Ma(l:Sl az)(hn:l.l.length<=1000000):bk l=some (decide (dM l.l)):=by
 obtain⟨r,h1,h2⟩:=AY (f:=bi l) (fun i(_:Unit)=>((i:Nat):Int)) l.l.length (fun i _=>∀s∈l.l.take i,gG s) (fun r=>(r=.inr ()/\¬dM l.l)\/∃i:Nat,r=.inl (i:Int)/\dM l.l) (fun i s hi hI=>by
  simp only[bi];rw[decide_eq_true (by omega),cond_true,oq hi,rS (by omega)];simp only[af];unfold mg;rw[tj];simp only[af];have hg:gt l.l i=l.l[i]:=yV hi;by_cases hm:gG (gt l.l i)
  .rw [decide_eq_true hm];refine .inl ⟨(),rfl,fun s hs=>?_⟩;rw[pq,ai hi]at hs;rcases aj.1 hs with hs|hs
   .exact hI s hs
   .obtain rfl:=am.1 (show s∈[l.l[i]]from hs);rw[<-hg];exact hm
  .rw [decide_eq_false hm];exact .inr ⟨_,rfl,.inr ⟨i,rfl,l.l[i],List.getElem_mem _,by rw[<-hg];exact hm⟩⟩) (fun s hI=>by
  simp only[bi];rw[decide_eq_false (by omega),cond_false];rw[iL]at hI;exact⟨_,rfl,.inl ⟨rfl,wj.2 hI⟩⟩) 0 () (dK _) (fun s hs=>by simp at hs)
 have h1:dP (bi l) (0:Int)=some r:=h1;unfold bk ci;rw[h1];rcases h2 with⟨rfl,hb⟩|⟨i,rfl,hb⟩
 .rw [decide_eq_false hb];rfl
 .rw [decide_eq_true hb];simp only[af];rw[decide_eq_true (by omega)]
theorem yK:∀{l:List S3},(∀s∈l,gG s)->gE dH l=some (ql l)
 |[],_=>rfl
 |s::l,h=>by show(dH s).bind (fun x=>(gE dH l).bind fun y=>some (x.data.toList++10::y))=_;rw[rZ (h s (bG ..)),yK fun t ht=>h t (av _ ht),vk];simp only[af,nA]
theorem Hd(l:Sl az)(hn:l.l.length<=10000):Es l=some (B (if dM l.l then[]else ql l.l)):=by
 unfold Es uN;rw[Ma l (by omega)];simp only[af];by_cases hb:dM l.l
 .rw [decide_eq_true hb,if_pos hb];rfl
 .have hm:=wj.1 hb;have hl:=mI hm;rw[decide_eq_false hb,if_neg hb,cond_false,yK hm];simp only[af];rw[if_pos ⟨by omega,by omega⟩]
theorem NW{s:S3}(h:gG s):(10:UInt8)∉f_ s:=by have h1:(10:UInt8)∉o7 s.1:=fun hc=>(xp h.1 _ hc).2.1 rfl;have h2:=Cb s.2.1 10 (by decide);have h3:=Cb s.2.2 10 (by decide);unfold f_;cases hI s.1<;>cases hN s.1<;>simp[h1,h2,h3]
theorem NY{s:S3}(h:gG s):Hj (f_ s)=false:=by have h1:=sg h.1;have h2:=xp h.1;unfold f_;cases hw:o7 s.1 with|nil=>exact absurd hw h1|cons c r=>rw[hw]at h2;show decide (c=35)=false;exact decide_eq_false fun e=>(h2 c (bG ..)).2.2 (by rw[e];rfl)
theorem n9:∀(a:List S3)(f n:Nat)(r:List UInt8),(∀s∈a,gG s)->(ql a++r).length<=f->ur f n (ql a++r)=match ur (f-a.length) (n+a.length) r with|.inl m=>.inl m|.inr l=>.inr (a++l)
 |[],f,n,r,_,_=>by
  show ur f n r=match ur f n r with|.inl m=>.inl m|.inr l=>.inr l
  cases ur f n r<;>rfl
 |s::a,f,n,r,h,hf=>by
  have hs:=h s (bG ..);rw[vk,aO,List.cons_append]at hf|-
  match f,hf with
  |0,hf=>simp at hf
  |f+1,hf=>
   rw[aZ,cz]at hf;rw[ur,if_neg (by simp),pW (NW hs),NY hs,cond_false,xZ hs];have hd:(f_ s++10::(ql a++r)).drop ((f_ s).length+1)=ql a++r:=by rw[List.drop_append];simp
   rw[hd];simp only;rw[n9 a f (n+1) r (fun t ht=>h t (av _ ht)) (by omega),cz,show f+1-(a.length+1)=f-a.length by omega,show n+(a.length+1)=n+1+a.length by omega];cases ur (f-a.length) (n+1+a.length) r<;>rfl
theorem NX{a:List S3}(h:∀s∈a,gG s):ur (ql a).length 1 (ql a)=.inr a:=by have:=n9 a (ql a++[]).length 1 [] h (ak _);rw[wd,aW]at this;rw[this];simp
theorem s7{a b:List S3}{rm:List UInt8}(ha:∀s∈a,gG s)(hb:∀s∈b,gG s)(hr:(10:UInt8)∉rm):ur (ql a++(35::rm++10::10::ql b)).length 1 (ql a++(35::rm++10::10::ql b))=.inr (a++b):=by
 have hla:a.length<=(ql a).length:=by clear hb hr;induction a with|nil=>exact dK _|cons s a ih=>have:=ih fun t ht=>ha t (av _ ht);rw[vk,aZ,cz,cz];omega
 rw[n9 a _ 1 _ ha (ak _)]
 obtain⟨f,hf,hfb⟩:∃f,(ql a++(35::rm++10::10::ql b)).length-a.length=f+1+1/\(ql b).length<=f:=by
  refine⟨(ql a++(35::rm++10::10::ql b)).length-a.length-2,?_,?_⟩
  .simp only[aZ,cz];omega
  .simp only[aZ,cz];omega
 rw[hf];have h35:(10:UInt8)∉35::rm:=by rw[List.mem_cons,not_or];exact⟨by decide,hr⟩
 have hd:(35::rm++10::10::ql b).drop ((35::rm).length+1)=10::ql b:=by rw[List.drop_append];simp
 rw[ur,if_neg (by simp),pW h35,show Hj (35::rm)=true from rfl,cond_true,hd,ur,if_neg (by simp),show di 10 (10::ql b)=[]from rfl,show Hj []=true from rfl,cond_true,show(10::ql b).drop (([]:List UInt8).length+1)=ql b from rfl];have h2:=n9 b f (1+a.length+1+1) [] hb (by rw[aW];exact hfb);rw[wd,aW]at h2;rw[h2];simp
theorem ww:f_ (2,1,-30)=[116,117,114,110,32,49,32,45,51,48]:=by
 have h1:Lib.itoa 1=[49]:=by rw[show(1:Int)=((1:Nat):Int)from rfl,sd,lF (by decide)];rfl
 have h2:Lib.itoa (-30)=[45,51,48]:=by rw[show(-30:Int)=-((30:Nat):Int)from rfl,se (by decide),oB (by decide),lF (by decide)];rfl
 unfold f_;rw[show hI ((2,1,-30):S3).1=true from rfl,show hN ((2,1,-30):S3).1=true from rfl,cond_true,cond_true,h1,h2];rfl
theorem Fm:gG (2,1,-30):=by decide
theorem ub:kx=some true:=by
 have hp:ur 20 1 ([35,32,115,108,111,119,101,114,10,116,117,114,110,32,49,32,45,51,48,10]:List UInt8)=.inr [(2,1,-30)]:=by
  rw[ur,if_neg (by simp),show di 10 ([35,32,115,108,111,119,101,114,10,116,117,114,110,32,49,32,45,51,48,10]:List UInt8)=[35,32,115,108,111,119,101,114]from rfl,show Hj [35,32,115,108,111,119,101,114]=true from rfl,cond_true,
   show([35,32,115,108,111,119,101,114,10,116,117,114,110,32,49,32,45,51,48,10]:List UInt8).drop (([35,32,115,108,111,119,101,114]:List UInt8).length+1)=[116,117,114,110,32,49,32,45,51,48,10]from rfl,
   ur,if_neg (by simp),show di 10 ([116,117,114,110,32,49,32,45,51,48,10]:List UInt8)=[116,117,114,110,32,49,32,45,51,48]from rfl,show Hj [116,117,114,110,32,49,32,45,51,48]=false from rfl,cond_false,<-ww,xZ Fm]
  simp only;rw[ww,show([116,117,114,110,32,49,32,45,51,48,10]:List UInt8).drop (([116,117,114,110,32,49,32,45,51,48]:List UInt8).length+1)=[]from rfl,wd]
 obtain⟨sl,n,e,h1,h2⟩:=x8 (s:=[35,32,115,108,111,119,101,114,10,116,117,114,110,32,49,32,45,51,48,10]) (by decide);rw[show([35,32,115,108,111,119,101,114,10,116,117,114,110,32,49,32,45,51,48,10]:List UInt8).length=20 from rfl,hp]at h2;have h2:(sl.l,n,e)=([(2,1,-30)],0,0):=h2;simp only[bO]at h2;obtain⟨hl,rfl,rfl⟩:=h2;unfold kx;rw[show(⟨#[35,32,115,108,111,119,101,114,10,116,117,114,110,32,49,32,45,51,48,10]⟩:ByteArray)=B [35,32,115,108,111,119,101,114,10,116,117,114,110,32,49,32,45,51,48,10]from rfl,h1];simp only[af];rw[hl];show((bif decide (((2,1,-30):az)=(⟨2,1,(-30)⟩:az))then((dH (2,1,-30)).bind fun r6=>some (r6.toList==(⟨#[116,117,114,110,32,49,32,45,51,48]⟩:ByteArray).toList))else some false:Option Bool).bind fun b7=>some b7)=_;rw[decide_eq_true rfl,cond_true,rZ Fm,ww];simp only[af];rw[show(⟨#[116,117,114,110,32,49,32,45,51,48]⟩:ByteArray)=B [116,117,114,110,32,49,32,45,51,48]from rfl,xk];rfl
theorem NV{α:Type}{l:List α}{a b:Nat}(h:a<=b)(h2:b<=l.length):q8 l (a:Int) (b:Int)=some ((l.drop a).take (b-a)):=by
 unfold q8;rw[if_pos (by omega)];rw[show((a:Int)).toNat=a from rfl,show((b:Int)).toNat=b from rfl]
 try rfl
theorem N1{α:Type}{s:Sl α}{r:List α}(h:r.length<=s.l.length):(s.to r).l=r:=by
 cases s with
 |nil=>
  have:r=[]:=by have h:r.length<=0:=h;exact List.eq_nil_of_length_eq_zero (by omega)
  subst this;rfl
 |mk l=>rfl
theorem NZ(l:Sl aE)(GG:Int)(rm:ByteArray):mi l GG rm=some true:=by
 unfold mi;cases hc:((((decide ((l.l.length:Int)>60))||(decide (GG<0)))||(decide (GG>(l.l.length:Int))))||(decide ((rm.size:Int)>100)))with
 |true=>rw[cond_true,ub];rfl
 |false=>
  rw[cond_false];simp only[Bool.or_eq_false_iff,decide_eq_false_iff_not]at hc;obtain⟨⟨⟨hl,ha0⟩,ha1⟩,hr⟩:=hc;obtain⟨k,rfl⟩:=Int.eq_ofNat_of_zero_le (show 0<=GG by omega);have hrl:rm.data.toList.length<=100:=by have:=JF rm;omega
  obtain⟨r,h1,h2⟩:=AY (f:=i8 l) (fun i(_:Unit)=>((i:Nat):Int)) l.l.length (fun i _=>∀s∈l.l.take i,gG s) (fun r=>(r=.inr ()/\∀s∈l.l,gG s)\/r=.inl true) (fun i _ hi hI=>by
   simp only[i8];rw[decide_eq_true (by omega),cond_true,oq hi,rS (by omega)];simp only[af];rw[lm];simp only[af];have hg:gt l.l i=l.l[i]:=yV hi;by_cases hm:gG (gt l.l i)
   .rw [decide_eq_true hm];refine .inl ⟨(),rfl,fun s hs=>?_⟩;rw[pq,ai hi]at hs;rcases aj.1 hs with hs|hs
    .exact hI s hs
    .obtain rfl:=am.1 (show s∈[l.l[i]]from hs);rw[<-hg];exact hm
   .rw [decide_eq_false hm,ub];exact .inr ⟨_,rfl,.inr rfl⟩) (fun _ hI=>by
   simp only[i8];rw[decide_eq_false (by omega),cond_false];rw[iL]at hI;exact⟨_,rfl,.inl ⟨rfl,hI⟩⟩) 0 () (dK _) (fun s hs=>by simp at hs)
  have h1:dP (i8 l) (0:Int)=some r:=h1;rw[h1];rcases h2 with⟨rfl,hM⟩|rfl
  case inr=>rfl
  simp only[af];have hrb:rm=B rm.data.toList:=(GW rm).symm;generalize rm.data.toList=R at hrl hrb;subst hrb
  obtain⟨r,h1,h2⟩:=AY (f:=i6 (B R)) (fun i(_:Unit)=>((i:Nat):Int)) R.length (fun i _=>(10:UInt8)∉R.take i) (fun r=>(r=.inr ()/\(10:UInt8)∉R)\/r=.inl true) (fun i _ hi hI=>by
   have hx:R[i]?=some R[i]:=ai hi;simp only[i6];rw[decide_eq_true (by rw[eR];omega),cond_true,zy hx,rS (by omega)];simp only[af];by_cases hm:R[i]=10
   .rw [hm,ub];exact .inr ⟨_,rfl,.inr rfl⟩
   .have hb:=wY (x:=R[i]) (c:=10);rw[decide_eq_false hm]at hb;have hb:((R[i].toNat:Int)==10)=false:=by unfold bne at hb;simpa using hb
    rw[hb];refine .inl ⟨(),rfl,fun hs=>?_⟩;rw[pq,hx]at hs;rcases aj.1 hs with hs|hs
    .exact hI hs
    .exact hm (am.1 (show(10:UInt8)∈[R[i]]from hs)).symm) (fun _ hI=>by
   simp only[i6];rw[decide_eq_false (by rw[eR];omega),cond_false];rw[iL]at hI;exact⟨_,rfl,.inl ⟨rfl,hI⟩⟩) 0 () (dK _) (by simp)
  have h1:dP (i6 (B R)) (0:Int)=some r:=h1;rw[h1];rcases h2 with⟨rfl,hR⟩|rfl
  case inr=>rfl
  simp only[af];have c1:q8 l.l 0 (k:Int)=some (l.l.take k):=by have:=NV (l:=l.l) (a:=0) (b:=k) (by omega) (by omega);simpa using this
  have c2:q8 l.l (k:Int) (l.l.length:Int)=some (l.l.drop k):=by rw[NV (by omega) (by omega),List.take_of_length_le (by rw[bR];omega)]
  have hMa:∀s∈l.l.take k,gG s:=fun s hs=>hM s (List.mem_of_mem_take hs);have hMb:∀s∈l.l.drop k,gG s:=fun s hs=>hM s (List.mem_of_mem_drop hs);have hfa:=mI hMa;have hfb:=mI hMb;rw[dp]at hfa;rw[bR]at hfb;obtain⟨x,x1,x2⟩:=B5 (l.to (l.l.take k)) (by rw[N1 (by rw[dp];omega),dp];omega);obtain⟨y,y1,y2⟩:=B5 (l.to (l.l.drop k)) (by rw[N1 (by rw[bR];omega),bR];omega);rw[N1 (by rw[dp];omega)]at x2;rw[N1 (by rw[bR];omega)]at y2;rw[c1,c2];simp only[af];rw[x1,y1];simp only[af];rw[Hd x (by rw[x2,dp];omega),Hd y (by rw[y2,bR];omega),x2,y2,if_neg (wj.2 hMa),if_neg (wj.2 hMb)];simp only[af];have hwhole:ql (l.l.take k)++ql (l.l.drop k)=ql l.l:=by rw[<-F7,ic]
  rw[mO (by omega),hwhole];simp only[af];have hfl:=mI hM;obtain⟨a,n,e,p1,p2⟩:=x8 (s:=ql l.l) (by omega);rw[NX hM]at p2;have p2:(a.l,n,e)=(l.l,0,0):=p2;simp only[bO]at p2;obtain⟨hal,rfl,rfl⟩:=p2;rw[p1];simp only[af];rw[show(⟨#[35]⟩:ByteArray)=B [35]from rfl,mO (by simp;omega)];simp only[af];rw[mO (by simp;omega)];simp only[af];rw[show(⟨#[10,10]⟩:ByteArray)=B [10,10]from rfl,mO (by simp;omega)];simp only[af];rw[mO (by simp;omega)];simp only[af];have htext:ql (l.l.take k)++[35]++R++[10,10]++ql (l.l.drop k)=ql (l.l.take k)++(35::R++10::10::ql (l.l.drop k)):=by simp
  rw[htext];obtain⟨b,n,e,q1,q2⟩:=x8 (s:=ql (l.l.take k)++(35::R++10::10::ql (l.l.drop k))) (by simp only[aZ,cz];omega);rw[s7 hMa hMb hR,ic]at q2;have q2:(b.l,n,e)=(l.l,0,0):=q2;simp only[bO]at q2;obtain⟨hbl,rfl,rfl⟩:=q2;rw[q1];simp only[af];rw[Ia a l hal (by rw[hal];omega),Ia b l hbl (by rw[hbl];omega),ub];rfl
end Go.Proofs.YtbcmbckpebpijaaDoor.C
