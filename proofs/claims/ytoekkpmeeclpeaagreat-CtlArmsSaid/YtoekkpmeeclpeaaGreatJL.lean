/- A new controller: its configuration, its routes. Conditions: as stated. -/
import Derived.Test.YtoekkpmeeclpeaaGreatJI
import Derived.Test.YtoekkpmeeclpeaaGreatSK
import Derived.Test.YtoekkpmeeclpeaaGreatHb
open Bool renaming and_eq_true->aw
open Int renaming le_refl->gJ
open List renaming length_append->aA,length_map->fJ,mem_iff_getElem->gm,not_mem_nil->aW
open Option renaming bind_some->ad
open Go.Ev Go Go.Fl Go.Ways
namespace Go.Proofs.YtoekkpmeeclpeaaGreat.S
theorem W8{b:Sl Int}{L:List Nat}(hl:b.l=nX L)(hw:∀x∈L,CA x)(hb:L.length<=17592186044416):uG b=some (gk (L.map jf)):=by
 unfold uG;have e0:b.l.length=L.length:=by rw[hl,fJ]
 have:=NF (f:=qT b) L jf (fun i s hi hs=>by
  simp only[qT];rw[decide_eq_true (by omega),cond_true,AX (by omega),ad,hl,LY hi];unfold Dw;rw[Q1,ad,Fp (hw _ (w9 hi)),ad,ad,Bf.2 ⟨rfl,by rw[aA];simp;omega⟩,ad,K6 (by omega)]) (fun s=>by
  simp only[qT];rw[decide_eq_false (by omega),cond_false])
 rw[this];rfl
theorem TY{l:List Int}(h:∀x∈l,0<=x/\x<=18446744073709551615):∃L:List Nat,l=nX L/\∀x∈L,CA x:=by
 refine⟨l.map Int.toNat,?_,fun x hx=>?_⟩
 .rw [nX,List.map_map];refine(List.map_id l).symm.trans (List.map_congr_left fun x hx=>?_);have:=h x hx;show x=((x.toNat:Nat):Int)
  omega
 .obtain ⟨y,hy,rfl⟩:=List.mem_map.1 hx;have:=h y hy;unfold CA;omega
theorem FN{t:ao}{L:List Nat}(hw:∀x∈L,CA x)(hb:L.length<=17592186044416):
  ∃(s:Sl (Sl Int))(e:Int),iK t (gk (L.map jf))=some (s,e)/\(e≠0\/mr t s):=by
 have hr:=AL (t:=t) hw hb;cases hok:Ti t L with
 |false=>rw[hok]at hr;exact⟨Sl.nil,2,by unfold iK;rw[hr];rfl,.inl (by decide)⟩
 |true=>
  obtain⟨hV,hL,hn,hcl⟩:=J4 hok;rw[hcl];rcases JI hV hL hn (by have:=hV.zT;omega)with⟨q1,q2⟩|⟨q1,q2⟩
  .exact ⟨_,_,q2,.inl (by decide)⟩
  .exact ⟨_,_,q2,.inr (PB hV q1)⟩
def Va(c:ai):Prop:=∀s∈c.eo.l,s.l.length<=17592186044416/\∀x∈s.l,0<=x/\x<=18446744073709551615
theorem acb{c:ai}(h:xN y4 c):Va c:=fun s hs=>by obtain⟨⟨_,h1⟩,h2⟩:=h.2.1.2 s hs;exact⟨by have h1:s.l.length*8<=0x7ffffffff000:=h1;omega,fun x hx=>h2 x hx⟩
theorem FI{s:Sl Int}(h:s.l.length<=1000):Tt (cF s):=by
 unfold cF dq;refine Wq.bind (P:=fun _=>True) ?_ fun _ _=>Wq.some trivial;refine Wq.bind (P:=fun _=>True) ?_ fun r _=>by cases r<;>exact Wq.some trivial
 refine Wq.loop (fun i=>s.l.length-i.toNat) (fun i=>0<=i/\i<=s.l.length) ⟨by omega,by omega⟩ ?_;rintro i ⟨h0,h4⟩;unfold ft;refine Wq.cond (fun hb=>?_) (fun _=>Wq.some trivial);have hlt:i<s.l.length:=of_decide_eq_true hb;rw[jq h0 hlt];simp only[ad];refine Wq.bind (P:=fun _=>True) (Wq.some trivial) fun b _=>Wq.cond (fun _=>Wq.some trivial) fun _=>Wq.some ?_;show(0<=wr .i64 (i+1)/\wr .i64 (i+1)<=s.l.length)/\s.l.length-(wr .i64 (i+1)).toNat<s.l.length-i.toNat;rw[pX (by omega) (by omega)];omega
theorem Oe{c:ai}(hf:Va c):Wq (sB c) fun t=>t.2≠0\/(t.2=0/\gV c t.1):=by
 unfold sB;refine Wq.bind (P:=fun b=>b=true->fB c.T/\(1<=c.eo.l.length/\c.eo.l.length<=16)/\(c.vY.l.length:Int)=c.T.au) ?_ fun b3 h3=>?_
 .rw [yl,ad];by_cases hV:fB c.T
  .rw [decide_eq_true hV,cond_true];obtain⟨s,_,_,h2⟩:=Jr hV;rw[h2];refine Wq.some fun h=>?_;simp only[aw,decide_eq_true_eq,beq_iff_eq]at h;exact⟨hV,by omega,h.2⟩
  .rw [decide_eq_false hV];exact Wq.some fun h=>nomatch h
 refine Wq.bind (P:=fun b=>b=true->fB c.T/\(1<=c.eo.l.length/\c.eo.l.length<=16)/\(c.vY.l.length:Int)=c.T.au/\(0<=c.uD/\c.uD<=65536)/\(0<=c.xW/\c.xW<=65536)) ?_ fun b10 h10=>?_
 .refine Wq.cond (fun hb=>?_) fun _=>Wq.some fun h=>nomatch h
  obtain⟨g1,g2,g3⟩:=h3 hb;unfold mL;simp only[ad];refine Wq.cond (fun _=>?_) fun _=>Wq.some fun h=>nomatch h
  refine Wq.cond (fun _=>?_) fun _=>Wq.some fun h=>nomatch h
  refine Wq.cond (fun hw=>?_) fun _=>Wq.some fun h=>nomatch h
  refine Wq.cond (fun hl=>?_) fun _=>Wq.some fun h=>nomatch h
  simp only[aw,decide_eq_true_eq]at hw hl;have key:fB c.T/\(1<=c.eo.l.length/\c.eo.l.length<=16)/\(c.vY.l.length:Int)=c.T.au/\(0<=c.uD/\c.uD<=65536)/\(0<=c.xW/\c.xW<=65536):=⟨g1,g2,g3,hw,hl⟩
  refine Wq.mono (P:=fun _=>True) ?_ fun _ _ _=>key
  (repeat'(first|assumption|exact Wq.some trivial|with_reducible refine Wq.cond (fun _=>?_) (fun _=>?_)|with_reducible refine Wq.bind (P:=fun _=>True) ?_ (fun _ _=>?_)))
 refine Wq.bind (P:=fun b=>b=false->fB c.T/\(1<=c.eo.l.length/\c.eo.l.length<=16)/\(c.vY.l.length:Int)=c.T.au/\(0<=c.uD/\c.uD<=65536)/\(0<=c.xW/\c.xW<=65536)) ?_ fun b12 h12=>?_
 .refine Wq.cond (fun _=>Wq.some fun h=>nomatch h) fun hb=>?_;have hk:=h10 (by simpa using hb);have:=hk.1.sw;refine Wq.Aq (Wq.mono (FI (by omega)) fun _ _ _=>hk)
 refine Wq.cond (fun _=>Wq.some (.inl (show(2:Int)≠0 by decide))) fun hb=>?_;obtain⟨hV,hw,_,h1,h2⟩:=h12 hb;refine Wq.bind (P:=fun r=>r=.inl 2\/∃s:Sl (Sl (Sl Int)),r=.inr s/\s.l.length=c.eo.l.length/\∀r∈s.l,mr c.T r) ?_ ?_
 .refine Wq.up c.eo.l.length (by omega) (fun i s=>s.l.length=i/\∀r∈s.l,mr c.T r) ⟨rfl,fun _ h=>(aW h).elim⟩ ?_;rintro i s hi ⟨hl,hg⟩;dsimp only[rZ];refine Wq.cond (fun hb=>?_) (fun hb=>Wq.some (.inr ⟨s,rfl,?_,hg⟩))
  .have hlt:i<c.eo.l.length:=by have:=of_decide_eq_true hb;omega
   rw[bS hlt];simp only[ad];obtain⟨f1,f2⟩:=hf (gt c.eo.l i) (by rw[cU hlt];exact List.getElem_mem _);obtain⟨L,hL,hLw⟩:=TY f2;have hLn:L.length<=17592186044416:=by rw[hL,fJ]at f1;exact f1
   rw[W8 hL hLw hLn];obtain⟨r,e,hr,hge⟩:=FN (t:=c.T) hLw hLn;simp only[ad];rw[hr];simp only[ad];refine Wq.cond (fun _=>Wq.some (.inl rfl)) fun he=>?_;have he:e=0:=by simpa using he
   rw[pJ (by rw[aA,List.length_singleton];omega)];refine Wq.some ⟨_,rfl,hlt,by simp;omega,fun q hq=>?_⟩;rcases List.mem_append.1 hq with hq|hq
   .exact hg q hq
   .rw [List.mem_singleton.1 hq];exact hge.resolve_left fun h=>h he
  .have:¬(i:Int)<(c.eo.l.length:Int):=of_decide_eq_false hb;omega
 .rintro _ (rfl|⟨s,rfl,g1,g2⟩)
  .exact Wq.some (.inl (show(2:Int)≠0 by decide))
  .have:=hV.sw;exact Wq.some (.inr ⟨rfl,⟨by omega,by omega⟩,g2,⟨by show 0<s.l.length;omega,by show s.l.length<=16;omega⟩,h1,h2⟩)
def KW(c:ai)(R:Sl (Sl (Sl Int)))(x:Cx):Prop:=x.c=c/\x.d_=R/\x.l=.nil/\x.cw=(0,0,false,0,0,0,false,false,0)/\x.cu=0/\x.cZ=.none/\x.skip=0/\x.out=.nil/\x.bX=.nil
theorem TI{c:ai}(hf:Va c):Wq (rX c) fun t=>(∃e,t=.inl e/\e≠0)\/∃(R:Sl (Sl (Sl Int)))(x:Cx),t=.inr (x.c,x.d_,x.l,x.cw,x.cu,x.dp,x.lU,x.cZ,x.eU,x.bh,x.skip,x.dJ,x.vP,x.eQ,x.out,x.bX,0)/\gV c R/\KW c R x:=by
 unfold rX;refine(Oe hf).bind ?_;rintro⟨r1,r2⟩ h;dsimp only at h|-;refine Wq.cond (fun hb=>Wq.some (.inl ⟨r2,rfl,by simpa using hb⟩)) fun hb=>?_;have h0:r2=0:=by simpa using hb
 obtain⟨_,hE⟩:=h.resolve_left fun h=>h h0;obtain⟨es,ask,hfr⟩:=Fm;rw[hfr];exact Wq.some (.inr ⟨r1,⟨c,r1,Sl.nil,(0,0,false,0,0,0,false,false,0),0,(Sl.nil,Sl.nil,0,0,0,0),0,Mp.none,0,-1,0,-1,es,ask,Sl.nil,Sl.nil⟩,rfl,hE,rfl,rfl,rfl,rfl,rfl,rfl,rfl,rfl,rfl⟩)
theorem MQ{c:ai}{R:Sl (Sl (Sl Int))}(hE:gV c R){x:Cx}(h:KW c R x):Jv c R [] x/\Inv c R [] x:=by obtain⟨h1,h2,h3,h4,h5,h6,h7,_,_⟩:=h;have hl:=hE.len;refine⟨⟨h1,h2,by rw[h3,h4];exact .nil,by rw[h4];exact⟨gJ 0,by decide⟩,by rw[h4];exact Xd,by rw[h4];exact⟨gJ 0,by show(0:Int)<_;omega⟩,(by rw[h4];exact fun e=>nomatch e),fun _ h=>(aW h).elim⟩,?_⟩;show Ao _ _ _ x.cw x.cu _ _ x.cZ x.skip;rw[h4,h5,h6,h7];exact w8 rfl Xd .none fun _ h=>(aW h).elim
end Go.Proofs.YtoekkpmeeclpeaaGreat.S
open Go.Ev Go
namespace Go.Proofs.YtoekkpmeeclpeaaGreat.S
theorem XU{α:Type}{s:Sl α}{x:List α}:(Bi s x (s.l++x)).l=s.l++x:=by cases x with|nil=>cases s<;>simp[Bi]|cons=>rfl
section
variable{c:ai}{l:Sl ba}
def GD(l:Sl ba):Prop:=l.l.length<=80/\∀d∈l.l,Ow d.M.nq.l
theorem Bq(h1:c.eo.l.length<=9223372036854775807)(h2:l.l.length<=9223372036854775807):Wq (qZ c l) fun b=>b=true->GD l:=by
 unfold qZ;refine Wq.bind (P:=fun r=>r=.inl false\/r=.inr ()) ?_ fun r hr=>?_
 .refine Wq.loop (fun i=>c.eo.l.length-i.toNat) (fun i=>0<=i/\i<=c.eo.l.length) ⟨by omega,by omega⟩ ?_;rintro i ⟨h0,h4⟩;unfold w4;refine Wq.cond (fun hb=>?_) (fun _=>Wq.some (.inr rfl));have hlt:i<c.eo.l.length:=of_decide_eq_true hb;rw[jq h0 hlt];simp only[ad];refine Wq.cond (fun _=>Wq.some (.inl rfl)) fun _=>Wq.some ?_;show(0<=wr .i64 (i+1)/\wr .i64 (i+1)<=_)/\_-(wr .i64 (i+1)).toNat<_-i.toNat;rw[pX (by omega) (by omega)];omega
 rcases hr with rfl|rfl
 .exact Wq.some fun h=>nomatch h
 .refine Wq.bind (P:=fun r=>(∃b,r=.inl b/\b=false)\/r=.inr ()/\GD l) ?_ fun r hr=>?_
  .refine Wq.loop (fun i=>l.l.length-i.toNat) (fun i=>0<=i/\i<=l.l.length/\i<=80/\∀j:Nat,(j:Int)<i->Ow (gt l.l j).M.nq.l) ⟨by omega,by omega,by omega,fun j hj=>by omega⟩ ?_;rintro i ⟨h0,h4,h80,hj⟩;unfold wY;refine Wq.cond (fun hb=>?_) (fun hb=>Wq.some (.inr ⟨rfl,?_⟩))
   .have hlt:i<l.l.length:=of_decide_eq_true hb;refine Wq.bind (P:=fun b=>b=false->i<80/\(gt l.l i.toNat).M.nq.l.length<=20) ?_ fun b hb=>?_
    .refine Wq.cond (fun _=>Wq.some fun h=>nomatch h) fun h79=>?_;rw[jq h0 hlt];simp only[ad];refine Wq.cond (fun _=>Wq.some fun h=>nomatch h) fun _=>Wq.cond (fun _=>Wq.some fun h=>nomatch h) fun _=>Wq.some fun h=>?_;have:=of_decide_eq_false h79;have:=of_decide_eq_false h;omega
    refine Wq.cond (fun _=>Wq.some (.inl ⟨false,rfl,rfl⟩)) fun hbf=>?_;obtain⟨g1,g2⟩:=hb hbf;refine Wq.bind (P:=fun r=>(∃b,r=.inl b/\b=false)\/r=.inr ()/\Ow (gt l.l i.toNat).M.nq.l) ?_ fun r hr=>?_
    .refine Wq.loop (fun k=>(gt l.l i.toNat).M.nq.l.length-k.toNat) (fun k=>0<=k/\k<=(gt l.l i.toNat).M.nq.l.length/\∀j:Nat,(j:Int)<k->(cX.GK (bl.R (gt (gt l.l i.toNat).M.nq.l j))).l.length<=16) ⟨by omega,by omega,fun j hj=>by omega⟩ ?_;rintro k ⟨k0,k1,kj⟩;unfold wZ;rw[jq h0 hlt];simp only[ad];refine Wq.cond (fun hb=>?_) (fun hb=>Wq.some (.inr ⟨rfl,g2,fun m hm=>?_⟩))
     .have hk:k<(gt l.l i.toNat).M.nq.l.length:=of_decide_eq_true hb;rw[jq k0 hk];simp only[ad];refine Wq.cond (fun _=>Wq.some (.inl ⟨false,rfl,rfl⟩)) fun h16=>Wq.some ?_;have h16:=of_decide_eq_false h16;show(0<=wr .i64 (k+1)/\wr .i64 (k+1)<=_/\∀j:Nat,(j:Int)<wr .i64 (k+1)->_)/\_-(wr .i64 (k+1)).toNat<_-k.toNat;rw[pX (by omega) (by omega)];refine⟨⟨by omega,by omega,fun j hj=>?_⟩,by omega⟩;by_cases e:(j:Int)=k
      .have:j=k.toNat:=by omega
       subst this;omega
      .exact kj j (by omega)
     .have:=of_decide_eq_false hb;obtain⟨j,hj,rfl⟩:=gm.1 hm;have:=kj j (by omega);rwa[cU hj]at this
    .rcases hr with⟨b,rfl,rfl⟩|⟨rfl,hf⟩
     .exact Wq.some (.inl ⟨false,rfl,rfl⟩)
     .refine Wq.some ?_;show(0<=wr .i64 (i+1)/\wr .i64 (i+1)<=_/\wr .i64 (i+1)<=80/\∀j:Nat,(j:Int)<wr .i64 (i+1)->_)/\_-(wr .i64 (i+1)).toNat<_-i.toNat;rw[pX (by omega) (by omega)];refine⟨⟨by omega,by omega,by omega,fun j hj'=>?_⟩,by omega⟩;by_cases e:(j:Int)=i
      .have:j=i.toNat:=by omega
       subst this;exact hf
      .exact hj j (by omega)
   .have:=of_decide_eq_false hb;refine⟨by omega,fun d hd=>?_⟩;obtain⟨j,hj',rfl⟩:=gm.1 hd;have:=hj j (by omega);rwa[cU hj']at this
  .rcases hr with⟨b,rfl,rfl⟩|⟨rfl,hf⟩
   .exact Wq.some fun h=>nomatch h
   .exact Wq.some fun _=>hf
end
end Go.Proofs.YtoekkpmeeclpeaaGreat.S
open Go.Ev Go
namespace Go.Proofs.YtoekkpmeeclpeaaGreat.S
abbrev Tj:Type:=ai×Sl (Sl (Sl Int))×af×Int×am×Int×Int×Int×Int×Int×Arr 8 ak×Arr 8 Int×Sl aj×Sl aa×Sl aj×Mp Int aa×Sl aa×Sl ax
@[reducible] def Cx.tj (x:Cx) (TT:Sl aj) (eU:Sl aa):Tj:=(x.c,x.d_,x.cw,x.cu,x.dp,x.lU,x.eU,x.bh,x.skip,x.dJ,x.vP,x.eQ,TT,eU,x.l,x.cZ,x.out,x.bX)
section
variable{c:ai}{R:Sl (Sl (Sl Int))}{l:Sl ba}
structure Vg(c:ai)(R:Sl (Sl (Sl Int)))(H:List bR)(i:Nat)(x:Cx)(eU:Sl aa):Prop where
 jv:Jv c R H x
 inv:Inv c R H x
 out:x.out.l=[]
 ev:x.bX.l=[]
 len:x.l.l.length<=i
 eU:eU.l.length<=100*i
end
end Go.Proofs.YtoekkpmeeclpeaaGreat.S
