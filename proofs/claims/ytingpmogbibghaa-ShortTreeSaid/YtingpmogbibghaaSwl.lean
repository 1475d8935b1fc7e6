/- weigh.Walk: what it computes, as a typed program; that its run computes it. Conditions: every step of the sum goes through; the links are in range. -/
import Derived.Test.YtingpmogbibghaaSwk
open List renaming getElem?_eq_getElem->aB,getElem?_map->aK,length_map->aF,nodup_nil->mz
open Option.some renaming inj->aa
open Go.RowKit Go.Shelf Go.Ev Go
noncomputable section
namespace Go.Proofs.Ytingpmogbibghaa.S
theorem Zu(S:Nat->Prop)(w:World):DB S w:=fun g d h=>nomatch (show(none:Option D)=some d from h)
theorem ZH{S:Nat->Prop}{w:World}{n:Nat}{v:Value}(h:RD S w (.lit (.float .f64 n)) v)(hn:¬yl .f64 n):v=.float .f64 n:=by cases h with|lit _=>rfl|nan h1 _=>exact absurd h1 hn
theorem ZM{S:Nat->Prop}{w:World}{n:Nat}{v:Value}{fp:List Nat}(h:RT S w (.d (.lit (.float .f64 n))) v fp)(hn:¬yl .f64 n):v=.float .f64 n:=by cases h with|d h=>exact ZH h hn
theorem ZN{S:Nat->Prop}{w:World}{n:Int}{v:Value}(h:RD S w (.lit (.int .i64 n)) v):v=.int .i64 n:=by cases h with|lit _=>rfl
def Zj(fp:Nat->Nat->Option Nat)(ro:Bool):kD:=⟨[(false,.x (.f .f64)),(false,.x (.f .f64))],[([.x (.f .f64)],[])],ro,[],fun p=>match p with|(a,b)=>fp a b⟩
theorem ZD{fp:Nat->Nat->Option Nat}{ro:Bool}(h:cm Try.prog 113 (Zj fp ro)):Zi fp:=by
 intro x y z W hz hx hy hn;have hg:Go.Ev.AW Try.prog 113 [.d (.lit (.float .f64 x)),.d (.lit (.float .f64 y))] [.c (.d (.lit (.float .f64 z)))] []:=h.2 (x,y) z hz;have he:=hg (fun _=>False) W [.float .f64 x,.float .f64 y] [] (fun b hb=>hb.elim) ⟨[],[],rfl,⟨.lit rfl,rfl⟩,[],[],rfl,⟨.lit rfl,rfl⟩,rfl⟩ mz (fun b hb=>nomatch hb) (Zu _ _);have hen:=enters_of (P:=Try.prog) (f:=113) Try.func113 (by kernel_rfl) rfl #[.float .f64 x,.float .f64 y] W;rcases he with⟨g,as',hrun,hc⟩|⟨v,hrun,_⟩
 .have h1:=hen.symm.trans hrun;injection h1 with h2 h3;injection h2 with h4 h5;subst h4;subst h5;refine hc.mono fun e w'⟨v,he,hL⟩=>?_;obtain⟨S',lX,fp1,fp2,rfl,hs,_,_,hr,_,_,_,hf⟩:=hL
  match lX,hr with|[rv],⟨f1,f2,_,h6,_⟩=>obtain rfl:=ZM h6 hn;exact⟨he,⟨hf.io.1,hf.io.2.2.1,hf.io.2.1,hf.grow,fun k hk=>hf.nz k ⟨hk,fun h=>nomatch h⟩⟩,hf.io.2.2.2⟩
 .have h1:=hen.symm.trans hrun;injection h1 with h2 h3;cases h2
open Classical in
def Zf(fp:Nat->Nat->Option Nat)(w:Sl Nat)(ls:Sl Int):Option Nat:=if(∃Gd,ZV fp w.l Gd)/\(∀j,j<ls.l.length->∃m:Nat,ls.l[j]?.getD 0=(m:Int)/\m<w.l.length)/\ls.l.length<=2147483648 then some (ls.l.foldr (fun l s=>DC fp w.l s l) 0)else none
def ZA(fp:Nat->Nat->Option Nat)(ro:Bool):kD:=⟨[(false,.x (.sl (.f .f64))),(false,.x (.sl (.i .i64)))],[([.x (.f .f64)],[])],ro,[],fun p=>match p with|(w,ls)=>Zf fp w ls⟩
theorem ZF(f:Nat->Int->Nat)(zs:List Int):(dn zs zs.length).foldl (fun s i=>f s (zs[i.val]?.getD 0)) 0=zs.foldr (fun l s=>f s l) 0:=by
 unfold dn;rw[List.take_of_length_le (by simp),List.foldl_reverse]
 have h:zs=(List.finRange zs.length).map fun i=>zs[i.val]?.getD 0:=by
  apply List.ext_getElem
  .simp
  .intro i h1 h2;simp[h1]
 conv=>rhs;rw[h]
 rw[List.foldr_map]
theorem Zk{fp:Nat->Nat->Option Nat}(hfp:Zi fp){w:Sl Nat}{ls:Sl Int}{z:Nat}(hz:Zf fp w ls=some z):
  Go.Ev.AW Try.prog 73 [.d (xl 1 (aS (.f .f64)) w),.d (xl 1 (aS (.i .i64)) ls)] [.c (.d (.lit (.float .f64 z)))] []:=by
 unfold Zf at hz;split at hz
 case isFalse=>cases hz
 rename_i hcond;obtain⟨⟨Gd,ht⟩,hr,hlen⟩:=hcond;obtain rfl:=aa hz;intro S W vs fp' hS hra hnd hfp' hG
 match vs,hra with
 |[v1,v2],⟨f1,f2,hf,⟨h1,hf1⟩,f3,f4,hf34,⟨h2,hf3⟩,hf4⟩=>
  subst hf1;subst hf3;have hf4:f4=[]:=hf4;subst hf4;subst hf34;subst hf
  have hw:∃a cap,v1=.slice a w.l.length cap/\ZI W.heap.size W a w.l:=by
   cases w with
   |nil=>cases h1 with|lit _=>exact⟨none,0,rfl,fun j hj=>absurd hj (Nat.not_lt_zero _)⟩
   |mk l=>
    have h1:RD S W (.sl 1 (l.map (aS (.f .f64)))) v1:=h1;generalize hrows:l.map (aS (.f .f64))=rows at h1;have hlr:rows.length=l.length:=by rw[<-hrows,aF]
    cases h1 with
    |sl f hb hsz hcap hrow hcell hrd=>
     rename_i b off cap;refine⟨_,cap,by rw[hlr];rfl,fun j hj=>⟨b,off,rfl,hS _ hb,?_⟩⟩;have hj':j<l.length:=hj;have hi:rows[j]?=some [.lit (.float .f64 l[j])]:=by rw[<-hrows,aK,aB hj'];rfl
     have h3:=hcell j _ hi 0 _ rfl;have h4:=ZH (hrd j _ hi 0 _ rfl) (by have:=ht.ZJ j hj;rw[aB hj]at this;exact this);rw[h4]at h3;simpa[hj']using h3
    |uB hsz=>have:l=[]:=List.eq_nil_of_length_eq_zero hlr.symm;subst this;exact⟨_,0,rfl,fun j hj=>absurd hj (Nat.not_lt_zero _)⟩
  have hl:∃a len cap,v2=.slice a len cap/\Y7 W.heap.size W v2 ls.l:=by
   cases ls with
   |nil=>cases h2 with|lit _=>exact⟨none,0,0,rfl,.inl ⟨rfl,.inl rfl⟩⟩
   |mk l=>
    have h2:RD S W (.sl 1 (l.map (aS (.i .i64)))) v2:=h2;generalize hrows:l.map (aS (.i .i64))=rows at h2;have hlr:rows.length=l.length:=by rw[<-hrows,aF]
    cases h2 with
    |sl f hb hsz hcap hrow hcell hrd=>
     rename_i b off cap;refine⟨_,_,cap,rfl,.inr ⟨b,off,cap,by rw[hlr];rfl,hS _ hb,fun j hj=>?_⟩⟩;have hj':j<l.length:=hj;have hi:rows[j]?=some [.lit (.int .i64 l[j])]:=by rw[<-hrows,aK,aB hj'];rfl
     have h3:=hcell j _ hi 0 _ rfl;have h4:=ZN (hrd j _ hi 0 _ rfl);rw[h4]at h3;simpa[hj']using h3
    |uB hsz=>have:l=[]:=List.eq_nil_of_length_eq_zero hlr.symm;subst this;exact⟨_,0,0,rfl,.inl ⟨rfl,.inr ⟨_,rfl⟩⟩⟩
  obtain⟨a,cap,rfl,hw⟩:=hw;obtain⟨a',len',cap',rfl,hl⟩:=hl;have hin:=Zz fp hfp a a' cap len' cap' w.l ls.l W (by omega) hw hl Gd ht hr;refine .inl ⟨73,_,enters_of (P:=Try.prog) (f:=73) Try.func73 (by kernel_rfl) rfl _ W,(callsIn_wide.1 hin).mono fun e W'⟨he,hB,hdr⟩=>⟨_,he,?_⟩⟩;rw[ZF (DC fp w.l)];refine⟨S,[_],[],[],rfl,⟨fun _ h=>h,fun b hb=>hB.block b (hS b hb)⟩,fun b hb=>.inl hb,fun b hb=>Nat.lt_of_lt_of_le (hS b hb) hB.size,⟨[],[],rfl,.d (.lit rfl),rfl⟩,rfl,mz,fun b hb=>absurd hb (by simp),?_⟩;exact⟨fun b hb=>hb.1,fun b hb=>hB.block b hb.1,hB.size,fun a ha=>hB.frozen ha,fun b aL h=>⟨aL,by obtain⟨t,h⟩:=h;exact⟨t,(hB.block b (Array.getElem?_eq_some_iff.1 h).1).trans h⟩,rfl⟩,⟨hB.os,hB.output,hB.tape,hdr⟩⟩
theorem Zy{fp:Nat->Nat->Option Nat}{ro ro':Bool}(h:cm Try.prog 113 (Zj fp ro)):cm Try.prog 73 (ZA fp ro'):=by refine⟨by cases ro'<;>rfl,fun p z hz=>?_⟩;obtain⟨w,ls⟩:=p;exact Zk (ZD h) hz
end Go.Proofs.Ytingpmogbibghaa.S
