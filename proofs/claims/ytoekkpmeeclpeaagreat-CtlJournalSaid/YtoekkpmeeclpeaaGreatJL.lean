/- A new controller: its configuration, its routes. Conditions: as stated. -/
import Derived.Test.YtoekkpmeeclpeaaGreatJI
import Derived.Test.YtoekkpmeeclpeaaGreatSK
import Derived.Test.YtoekkpmeeclpeaaGreatHb
open Bool renaming and_eq_true->ax,or_eq_false_iff->cN
open Int renaming le_refl->gR
open List renaming getElem_mem->aZ,length_append->aA,length_map->gq,mem_iff_getElem->gy,not_mem_nil->aX
open Nat renaming le_refl->aq,zero_le->cp
open Option renaming bind_some->af
open Go.Ev Go Go.Fl Go.Ways
namespace Go.Proofs.YtoekkpmeeclpeaaGreat.S
theorem XE{b:Sl Int}{L:List Nat}(hl:b.l=oQ L)(hw:∀x∈L,C_ x)(hb:L.length<=17592186044416):vn b=some (gw (L.map jy)):=by
 unfold vn;have e0:b.l.length=L.length:=by rw[hl,gq]
 have:=Oj (f:=rR b) L jy (fun i s hi hs=>by
  simp only[rR];rw[decide_eq_true (by omega),cond_true,BC (by omega),af,hl,MC hi];unfold D7;rw[RJ,af,F0 (hw _ (xJ hi)),af,af,BR.2 ⟨rfl,by rw[aA];simp;omega⟩,af,LK (by omega)]) (fun s=>by
  simp only[rR];rw[decide_eq_false (by omega),cond_false])
 rw[this];rfl
theorem UB{l:List Int}(h:∀x∈l,0<=x/\x<=18446744073709551615):∃L:List Nat,l=oQ L/\∀x∈L,C_ x:=by
 refine⟨l.map Int.toNat,?_,fun x hx=>?_⟩
 .rw [oQ,List.map_map];refine(List.map_id l).symm.trans (List.map_congr_left fun x hx=>?_);have:=h x hx;show x=((x.toNat:Nat):Int)
  omega
 .obtain ⟨y,hy,rfl⟩:=List.mem_map.1 hx;have:=h y hy;unfold C_;omega
theorem Gq{t:ao}{L:List Nat}(hw:∀x∈L,C_ x)(hb:L.length<=17592186044416):
  ∃(s:Sl (Sl Int))(e:Int),iU t (gw (L.map jy))=some (s,e)/\(e≠0\/mY t s):=by
 have hr:=Bq (t:=t) hw hb;cases hok:T5 t L with
 |false=>rw[hok]at hr;exact⟨Sl.nil,2,by unfold iU;rw[hr];rfl,.inl (by decide)⟩
 |true=>
  obtain⟨hV,hL,hn,hcl⟩:=KH hok;rw[hcl];rcases Km hV hL hn (by have:=hV.AM;omega)with⟨q1,q2⟩|⟨q1,q2⟩
  .exact ⟨_,_,q2,.inl (by decide)⟩
  .exact ⟨_,_,q2,.inr (Qe hV q1)⟩
def VM(c:aj):Prop:=∀s∈c.eA.l,s.l.length<=17592186044416/\∀x∈s.l,0<=x/\x<=18446744073709551615
theorem acN{c:aj}(h:yw y4 c):VM c:=fun s hs=>by obtain⟨⟨_,h1⟩,h2⟩:=h.2.1.2 s hs;exact⟨by have h1:s.l.length*8<=0x7ffffffff000:=h1;omega,fun x hx=>h2 x hx⟩
theorem Gj{s:Sl Int}(h:s.l.length<=1000):Tt (cG s):=by
 unfold cG dv;refine Wq.bind (P:=fun _=>True) ?_ fun _ _=>Wq.some trivial;refine Wq.bind (P:=fun _=>True) ?_ fun r _=>by cases r<;>exact Wq.some trivial
 refine Wq.loop (fun i=>s.l.length-i.toNat) (fun i=>0<=i/\i<=s.l.length) ⟨by omega,by omega⟩ ?_;rintro i ⟨h0,h4⟩;unfold fx;refine Wq.cond (fun hb=>?_) (fun _=>Wq.some trivial);have hlt:i<s.l.length:=of_decide_eq_true hb;rw[jq h0 hlt];simp only[af];refine Wq.bind (P:=fun _=>True) (Wq.some trivial) fun b _=>Wq.cond (fun _=>Wq.some trivial) fun _=>Wq.some ?_;show(0<=wr .i64 (i+1)/\wr .i64 (i+1)<=s.l.length)/\s.l.length-(wr .i64 (i+1)).toNat<s.l.length-i.toNat;rw[pZ (by omega) (by omega)];omega
theorem O0{c:aj}(hf:VM c):Wq (tz c) fun t=>t.2≠0\/(t.2=0/\ie c t.1):=by
 unfold tz;refine Wq.bind (P:=fun b=>b=true->fF c.T/\(1<=c.eA.l.length/\c.eA.l.length<=16)/\(c.wN.l.length:Int)=c.T.au) ?_ fun b3 h3=>?_
 .rw [yZ,af];by_cases hV:fF c.T
  .rw [decide_eq_true hV,cond_true];obtain⟨s,_,_,h2⟩:=J7 hV;rw[h2];refine Wq.some fun h=>?_;simp only[ax,decide_eq_true_eq,beq_iff_eq]at h;exact⟨hV,by omega,h.2⟩
  .rw [decide_eq_false hV];exact Wq.some fun h=>nomatch h
 refine Wq.bind (P:=fun b=>b=true->fF c.T/\(1<=c.eA.l.length/\c.eA.l.length<=16)/\(c.wN.l.length:Int)=c.T.au/\(0<=c.vi/\c.vi<=65536)/\(0<=c.yH/\c.yH<=65536)) ?_ fun b10 h10=>?_
 .refine Wq.cond (fun hb=>?_) fun _=>Wq.some fun h=>nomatch h
  obtain⟨g1,g2,g3⟩:=h3 hb;unfold ns;simp only[af];refine Wq.cond (fun _=>?_) fun _=>Wq.some fun h=>nomatch h
  refine Wq.cond (fun _=>?_) fun _=>Wq.some fun h=>nomatch h
  refine Wq.cond (fun hw=>?_) fun _=>Wq.some fun h=>nomatch h
  refine Wq.cond (fun hl=>?_) fun _=>Wq.some fun h=>nomatch h
  simp only[ax,decide_eq_true_eq]at hw hl;have key:fF c.T/\(1<=c.eA.l.length/\c.eA.l.length<=16)/\(c.wN.l.length:Int)=c.T.au/\(0<=c.vi/\c.vi<=65536)/\(0<=c.yH/\c.yH<=65536):=⟨g1,g2,g3,hw,hl⟩
  refine Wq.mono (P:=fun _=>True) ?_ fun _ _ _=>key
  (repeat'(first|assumption|exact Wq.some trivial|with_reducible refine Wq.cond (fun _=>?_) (fun _=>?_)|with_reducible refine Wq.bind (P:=fun _=>True) ?_ (fun _ _=>?_)))
 refine Wq.bind (P:=fun b=>b=false->fF c.T/\(1<=c.eA.l.length/\c.eA.l.length<=16)/\(c.wN.l.length:Int)=c.T.au/\(0<=c.vi/\c.vi<=65536)/\(0<=c.yH/\c.yH<=65536)) ?_ fun b12 h12=>?_
 .refine Wq.cond (fun _=>Wq.some fun h=>nomatch h) fun hb=>?_;have hk:=h10 (by simpa using hb);have:=hk.1.sw;refine Wq.A8 (Wq.mono (Gj (by omega)) fun _ _ _=>hk)
 refine Wq.cond (fun _=>Wq.some (.inl (show(2:Int)≠0 by decide))) fun hb=>?_;obtain⟨hV,hw,_,h1,h2⟩:=h12 hb;refine Wq.bind (P:=fun r=>r=.inl 2\/∃s:Sl (Sl (Sl Int)),r=.inr s/\s.l.length=c.eA.l.length/\∀r∈s.l,mY c.T r) ?_ ?_
 .refine Wq.up c.eA.l.length (by omega) (fun i s=>s.l.length=i/\∀r∈s.l,mY c.T r) ⟨rfl,fun _ h=>(aX h).elim⟩ ?_;rintro i s hi ⟨hl,hg⟩;dsimp only[sZ];refine Wq.cond (fun hb=>?_) (fun hb=>Wq.some (.inr ⟨s,rfl,?_,hg⟩))
  .have hlt:i<c.eA.l.length:=by have:=of_decide_eq_true hb;omega
   rw[bV hlt];simp only[af];obtain⟨f1,f2⟩:=hf (gt c.eA.l i) (by rw[dc hlt];exact aZ _);obtain⟨L,hL,hLw⟩:=UB f2;have hLn:L.length<=17592186044416:=by rw[hL,gq]at f1;exact f1
   rw[XE hL hLw hLn];obtain⟨r,e,hr,hge⟩:=Gq (t:=c.T) hLw hLn;simp only[af];rw[hr];simp only[af];refine Wq.cond (fun _=>Wq.some (.inl rfl)) fun he=>?_;have he:e=0:=by simpa using he
   rw[qz (by rw[aA,List.length_singleton];omega)];refine Wq.some ⟨_,rfl,hlt,by simp;omega,fun q hq=>?_⟩;rcases List.mem_append.1 hq with hq|hq
   .exact hg q hq
   .rw [List.mem_singleton.1 hq];exact hge.resolve_left fun h=>h he
  .have:¬(i:Int)<(c.eA.l.length:Int):=of_decide_eq_false hb;omega
 .rintro _ (rfl|⟨s,rfl,g1,g2⟩)
  .exact Wq.some (.inl (show(2:Int)≠0 by decide))
  .have:=hV.sw;exact Wq.some (.inr ⟨rfl,⟨by omega,by omega⟩,g2,⟨by show 0<s.l.length;omega,by show s.l.length<=16;omega⟩,h1,h2⟩)
def Ly(c:aj)(R:Sl (Sl (Sl Int)))(x:Cx):Prop:=x.c=c/\x.dF=R/\x.l=.nil/\x.cF=(0,0,false,0,0,0,false,false,0)/\x.cq=0/\x.di=.none/\x.skip=0/\x.out=.nil/\x.bX=.nil
theorem Ul{c:aj}(hf:VM c):Wq (sY c) fun t=>(∃e,t=.inl e/\e≠0)\/∃(R:Sl (Sl (Sl Int)))(x:Cx),t=.inr (x.c,x.dF,x.l,x.cF,x.cq,x.dx,x.mK,x.di,x.fy,x.bi,x.skip,x.dT,x.wV,x.eY,x.out,x.bX,0)/\ie c R/\Ly c R x:=by
 unfold sY;refine(O0 hf).bind ?_;rintro⟨r1,r2⟩ h;dsimp only at h|-;refine Wq.cond (fun hb=>Wq.some (.inl ⟨r2,rfl,by simpa using hb⟩)) fun hb=>?_;have h0:r2=0:=by simpa using hb
 obtain⟨_,hE⟩:=h.resolve_left fun h=>h h0;obtain⟨es,ask,hfr⟩:=FY;rw[hfr];exact Wq.some (.inr ⟨r1,⟨c,r1,Sl.nil,(0,0,false,0,0,0,false,false,0),0,(Sl.nil,Sl.nil,0,0,0,0),0,Mp.none,0,-1,0,-1,es,ask,Sl.nil,Sl.nil⟩,rfl,hE,rfl,rfl,rfl,rfl,rfl,rfl,rfl,rfl,rfl⟩)
theorem Nw{c:aj}{R:Sl (Sl (Sl Int))}(hE:ie c R){x:Cx}(h:Ly c R x):Jv c R [] x/\Inv c R [] x:=by obtain⟨h1,h2,h3,h4,h5,h6,h7,_,_⟩:=h;have hl:=hE.len;refine⟨⟨h1,h2,by rw[h3,h4];exact .nil,by rw[h4];exact⟨gR 0,by decide⟩,by rw[h4];exact XL,by rw[h4];exact⟨gR 0,by show(0:Int)<_;omega⟩,(by rw[h4];exact fun e=>nomatch e),fun _ h=>(aX h).elim⟩,?_⟩;show A6 _ _ _ x.cF x.cq _ _ x.di x.skip;rw[h4,h5,h6,h7];exact xI rfl XL .none fun _ h=>(aX h).elim
end Go.Proofs.YtoekkpmeeclpeaaGreat.S
open Go.Ev Go
namespace Go.Proofs.YtoekkpmeeclpeaaGreat.S
theorem OX{l:Sl ai}(h:l.l.length<=1000000):∃s,ez l=some s/\s.l=l.l:=by unfold ez;cases l with|nil=>exact⟨Sl.nil,rfl,rfl⟩|mk r=>show∃s,(g_ ([]++r)).bind _=some s/\_;have h:r.length<=1000000:=h;rw[qz (by simpa using h)];refine⟨_,rfl,?_⟩;cases r<;>rfl
theorem Yq{α:Type}{s:Sl α}{x:List α}:(BT s x (s.l++x)).l=s.l++x:=by cases x with|nil=>cases s<;>simp[BT]|cons=>rfl
section
variable{c:aj}{l:Sl bg}
def Hh(l:Sl bg):Prop:=l.l.length<=80/\∀d∈l.l,O9 d.M.ny.l
theorem B0(h1:c.eA.l.length<=9223372036854775807)(h2:l.l.length<=9223372036854775807):Wq (rX c l) fun b=>b=true->Hh l:=by
 unfold rX;refine Wq.bind (P:=fun r=>r=.inl false\/r=.inr ()) ?_ fun r hr=>?_
 .refine Wq.loop (fun i=>c.eA.l.length-i.toNat) (fun i=>0<=i/\i<=c.eA.l.length) ⟨by omega,by omega⟩ ?_;rintro i ⟨h0,h4⟩;unfold xE;refine Wq.cond (fun hb=>?_) (fun _=>Wq.some (.inr rfl));have hlt:i<c.eA.l.length:=of_decide_eq_true hb;rw[jq h0 hlt];simp only[af];refine Wq.cond (fun _=>Wq.some (.inl rfl)) fun _=>Wq.some ?_;show(0<=wr .i64 (i+1)/\wr .i64 (i+1)<=_)/\_-(wr .i64 (i+1)).toNat<_-i.toNat;rw[pZ (by omega) (by omega)];omega
 rcases hr with rfl|rfl
 .exact Wq.some fun h=>nomatch h
 .refine Wq.bind (P:=fun r=>(∃b,r=.inl b/\b=false)\/r=.inr ()/\Hh l) ?_ fun r hr=>?_
  .refine Wq.loop (fun i=>l.l.length-i.toNat) (fun i=>0<=i/\i<=l.l.length/\i<=80/\∀j:Nat,(j:Int)<i->O9 (gt l.l j).M.ny.l) ⟨by omega,by omega,by omega,fun j hj=>by omega⟩ ?_;rintro i ⟨h0,h4,h80,hj⟩;unfold xC;refine Wq.cond (fun hb=>?_) (fun hb=>Wq.some (.inr ⟨rfl,?_⟩))
   .have hlt:i<l.l.length:=of_decide_eq_true hb;refine Wq.bind (P:=fun b=>b=false->i<80/\(gt l.l i.toNat).M.ny.l.length<=20) ?_ fun b hb=>?_
    .refine Wq.cond (fun _=>Wq.some fun h=>nomatch h) fun h79=>?_;rw[jq h0 hlt];simp only[af];refine Wq.cond (fun _=>Wq.some fun h=>nomatch h) fun _=>Wq.cond (fun _=>Wq.some fun h=>nomatch h) fun _=>Wq.some fun h=>?_;have:=of_decide_eq_false h79;have:=of_decide_eq_false h;omega
    refine Wq.cond (fun _=>Wq.some (.inl ⟨false,rfl,rfl⟩)) fun hbf=>?_;obtain⟨g1,g2⟩:=hb hbf;refine Wq.bind (P:=fun r=>(∃b,r=.inl b/\b=false)\/r=.inr ()/\O9 (gt l.l i.toNat).M.ny.l) ?_ fun r hr=>?_
    .refine Wq.loop (fun k=>(gt l.l i.toNat).M.ny.l.length-k.toNat) (fun k=>0<=k/\k<=(gt l.l i.toNat).M.ny.l.length/\∀j:Nat,(j:Int)<k->(bT.CL (aY.R (gt (gt l.l i.toNat).M.ny.l j))).l.length<=16) ⟨by omega,by omega,fun j hj=>by omega⟩ ?_;rintro k ⟨k0,k1,kj⟩;unfold xD;rw[jq h0 hlt];simp only[af];refine Wq.cond (fun hb=>?_) (fun hb=>Wq.some (.inr ⟨rfl,g2,fun m hm=>?_⟩))
     .have hk:k<(gt l.l i.toNat).M.ny.l.length:=of_decide_eq_true hb;rw[jq k0 hk];simp only[af];refine Wq.cond (fun _=>Wq.some (.inl ⟨false,rfl,rfl⟩)) fun h16=>Wq.some ?_;have h16:=of_decide_eq_false h16;show(0<=wr .i64 (k+1)/\wr .i64 (k+1)<=_/\∀j:Nat,(j:Int)<wr .i64 (k+1)->_)/\_-(wr .i64 (k+1)).toNat<_-k.toNat;rw[pZ (by omega) (by omega)];refine⟨⟨by omega,by omega,fun j hj=>?_⟩,by omega⟩;by_cases e:(j:Int)=k
      .have:j=k.toNat:=by omega
       subst this;omega
      .exact kj j (by omega)
     .have:=of_decide_eq_false hb;obtain⟨j,hj,rfl⟩:=gy.1 hm;have:=kj j (by omega);rwa[dc hj]at this
    .rcases hr with⟨b,rfl,rfl⟩|⟨rfl,hf⟩
     .exact Wq.some (.inl ⟨false,rfl,rfl⟩)
     .refine Wq.some ?_;show(0<=wr .i64 (i+1)/\wr .i64 (i+1)<=_/\wr .i64 (i+1)<=80/\∀j:Nat,(j:Int)<wr .i64 (i+1)->_)/\_-(wr .i64 (i+1)).toNat<_-i.toNat;rw[pZ (by omega) (by omega)];refine⟨⟨by omega,by omega,by omega,fun j hj'=>?_⟩,by omega⟩;by_cases e:(j:Int)=i
      .have:j=i.toNat:=by omega
       subst this;exact hf
      .exact hj j (by omega)
   .have:=of_decide_eq_false hb;refine⟨by omega,fun d hd=>?_⟩;obtain⟨j,hj',rfl⟩:=gy.1 hd;have:=hj j (by omega);rwa[dc hj']at this
  .rcases hr with⟨b,rfl,rfl⟩|⟨rfl,hf⟩
   .exact Wq.some fun h=>nomatch h
   .exact Wq.some fun _=>hf
end
end Go.Proofs.YtoekkpmeeclpeaaGreat.S
open Go.Ev Go
namespace Go.Proofs.YtoekkpmeeclpeaaGreat.S
abbrev Tj:Type:=aj×Sl (Sl (Sl Int))×ad×Int×am×Int×Int×Int×Int×Int×Arr 8 ak×Arr 8 Int×Sl ai×Sl aa×Sl ai×Mp Int aa×Sl aa×Sl aw
@[reducible] def Cx.tj (x:Cx) (DV:Sl ai) (fy:Sl aa):Tj:=(x.c,x.dF,x.cF,x.cq,x.dx,x.mK,x.fy,x.bi,x.skip,x.dT,x.wV,x.eY,DV,fy,x.l,x.di,x.out,x.bX)
section
variable{c:aj}{R:Sl (Sl (Sl Int))}{l:Sl bg}
structure VQ(c:aj)(R:Sl (Sl (Sl Int)))(H:List fN)(i:Nat)(x:Cx)(fy:Sl aa):Prop where
 jv:Jv c R H x
 inv:Inv c R H x
 out:x.out.l=[]
 ev:x.bX.l=[]
 len:x.l.l.length<=i
 fy:fy.l.length<=100*i
theorem NP{α:Type}[Inhabited α]{a b:List α}(h:a<+:b){i:Nat}(hi:i<a.length):gt b i=gt a i:=by obtain⟨r,rfl⟩:=h;rw[dc (by rw[aA];omega),dc hi,List.getElem_append_left]
theorem P7{a b:Sl ai}(h:a.l<+:b.l)(hl:b.l.length<=1000000):aU (kK a b) 0=some (.inr ()):=by
 have hab:=h.length_le;have H:Wq (aU (kK a b) 0) fun r=>r=.inr ():=by refine Wq.loop (fun i=>a.l.length-i.toNat) (fun i=>0<=i/\i<=a.l.length) ⟨by omega,by omega⟩ ?_;rintro i ⟨h0,h4⟩;unfold kK;refine Wq.cond (fun hb=>?_) (fun _=>Wq.some rfl);have hlt:i<a.l.length:=of_decide_eq_true hb;rw[jq h0 hlt,jq (n:=b.l.length) h0 (by omega)];simp only[af];rw[NP h (by omega),decide_eq_true rfl];refine Wq.some ?_;show(0<=wr .i64 (i+1)/\wr .i64 (i+1)<=_)/\_-(wr .i64 (i+1)).toNat<_-i.toNat;rw[pZ (by omega) (by omega)];omega
 obtain⟨r,hr,rfl⟩:=H;exact hr
set_option synthInstance.maxSize 1000 in
theorem GN(hE:ie c R)(hS:Hh l){x:Cx}(h0:Ly c R x):Wq (aU (oq l) (0,x.tj Sl.nil Sl.nil)) fun r=>r=.inr ():=by
 have hl:=hS.1;obtain⟨j0,i0⟩:=Nw hE h0;refine Wq.up l.l.length (by omega) (fun i t=>∃(x:Cx)(DV:Sl ai)(fy:Sl aa),t=x.tj DV fy/\VQ c R [] i x fy/\DV.l<+:x.l.l) ⟨x,_,_,rfl,⟨j0,i0,by rw[h0.2.2.2.2.2.2.2.1];rfl,by rw[h0.2.2.2.2.2.2.2.2];rfl,by rw[h0.2.2.1];exact aq _,aq _⟩,List.nil_prefix⟩ ?_;rintro i _ hi ⟨x,DV,fy,rfl,hB,hlast⟩;dsimp only[oq];refine Wq.cond (fun hb=>?_) (fun _=>Wq.some rfl);have hlt:i<l.l.length:=by have:=of_decide_eq_true hb;omega
 rw[bV hlt];simp only[af];have h1:=hB.out;have h2:=hB.ev;have h3:=hB.len;have h4:=hB.fy;refine(Yh hE hB.jv hB.inv (fun m hm=>by rw[h1]at hm;exact(aX hm).elim) ⟨by omega,by rw[h2];exact cp _,by rw[h1];exact cp _⟩ (hS.2 _ (by rw[dc hlt];exact aZ _)) (by omega)).bind ?_;rintro _ ⟨e,y,rfl,hP⟩;dsimp only;rw[FP];simp only[af];unfold kA;dsimp only[af];have g1:=hP.sz.l;have g3:=hP.sz.o;rw[h1]at g3;simp only[List.length_nil]at g3;rw[qz (by rw[aA];omega)];dsimp only[af];unfold mj;obtain⟨j,hj,hjl⟩:=OX (l:=y.l) (by omega);rw[hj];dsimp only[af];rw[Kp (s:=y.cF) (by rw[hjl];omega) (by rw[hjl];exact hP.jv.jr)];dsimp only[af];have hpre:DV.l<+:j.l:=by rw[hjl];exact hlast.trans hP.sz.qi
 have hple:=hpre.length_le;have e1:((!(decide (y.cF=y.cF)))||(decide ((j.l.length:Int)<(DV.l.length:Int))))=false:=by rw[decide_eq_true rfl,decide_eq_false (by omega)];rfl
 unfold vf;refine Wq.bind (P:=fun t=>t=(false,({y with out:=Sl.nil,bX:=Sl.nil}:Cx).lp)) ?_ ?_
 .refine Wq.cond (fun hb=>absurd hb (by decide)) fun _=>?_;dsimp only[af];rw[e1];exact Wq.some rfl
 .rintro _ rfl;dsimp only;refine Wq.cond (fun hb=>nomatch hb) fun _=>?_;rw[P7 hpre (by rw[hjl];omega)];dsimp only[af];unfold eJ;dsimp only[af]
  have e2:((y.cq !=6)&&((y.cq==0)==(ad.jz y.cF)))=false:=by
   by_cases p6:y.cq=6
   .rw [p6];rfl
   .by_cases p0:y.cq=0
    .rw [p0,hP.inv.UH p0];rfl
    .rw [(hP.inv.Pj p0 p6).1];have:(y.cq==0)=false:=by simpa using p0
     rw[this];simp
  refine Wq.cond (fun hb=>?_) fun _=>?_
  .rw [e2]at hb;exact nomatch hb
  .refine Wq.some ⟨_,rfl,hlt,{y with out:=Sl.nil,bX:=Sl.nil},j,_,rfl,⟨hP.jv,hP.inv,rfl,rfl,by show y.l.l.length<=i+1;omega,?_⟩,by rw[hjl];exact List.prefix_rfl⟩;rw[Yq,aA];omega
theorem I5(haw:jV=some true)(hf:VM c)(h1:c.eA.l.length<=9223372036854775807)(h2:l.l.length<=9223372036854775807):nO c l=some true:=by
 have H:Wq (nO c l) fun b=>b=true:=by
  unfold nO;refine(Ul hf).bind ?_;rintro _ (⟨e,rfl,he⟩|⟨R,x,rfl,hE,h0⟩)
  .dsimp only;refine(B0 h1 h2).bind ?_;rintro b _;refine Wq.cond (fun _=>?_) fun hb=>?_
   .rw [haw];exact Wq.some rfl
   .simp only[cN,bne_eq_false_iff_eq]at hb;exact absurd hb.2 he
  .dsimp only;refine(B0 h1 h2).bind ?_;rintro b hS;refine Wq.cond (fun _=>?_) fun hb=>?_
   .rw [haw];exact Wq.some rfl
   .simp only[cN,Bool.not_eq_false']at hb;refine(GN hE (hS hb.1) h0).bind ?_;rintro _ rfl;dsimp only;rw[haw];exact Wq.some rfl
 obtain⟨b,hb,rfl⟩:=H;exact hb
end
end Go.Proofs.YtoekkpmeeclpeaaGreat.S
