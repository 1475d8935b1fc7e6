/- Matches: what two have in common, which lies within which; rules that overlap, for the agent's program. Conditions: as stated. -/
import Derived.Test.YtjjajcecekocdaaGreatQB
open Int renaming toNat_natCast->eC
open Option renaming bind_some->ah
open Option.some renaming injEq->bM
open Go.Ev Go
noncomputable section
namespace Go.Proofs.YtjjajcecekocdaaGreat.A
theorem tg{S σ β:Type}{f:S->Option (Sum S β)}(st:Nat->σ->S)(n:Nat)(I:Nat->σ->Prop)(R:β->Prop)
  (hstep:∀i s,i<n->I i s->(∃s',f (st i s)=some (.inl (st (i+1) s'))/\I (i+1) s')\/(∃b,f (st i s)=some (.inr b)/\R b))
  (hend:∀s,I n s->∃b,f (st n s)=some (.inr b)/\R b):∀i s,i<=n->I i s->∃b,bw f (st i s)=some b/\R b:=by
 have:∀(k i:Nat)(s:σ),i+k=n->I i s->∃b,bw f (st i s)=some b/\R b:=by
  intro k;induction k with
  |zero=>
   intro i s hi hI;obtain rfl:i=n:=by omega
   obtain⟨b,h1,h2⟩:=hend s hI;exact⟨b,ku h1,h2⟩
  |succ k ih=>
   intro i s hi hI;rcases hstep i s (by omega) hI with⟨s',h1,h2⟩|⟨b,h1,h2⟩
   .obtain ⟨b,h4,h5⟩:=ih (i+1) s' (by omega) h2;exact⟨b,(oC h1).trans h4,h5⟩
   .exact ⟨b,ku h1,h2⟩
 exact fun i s hi=>this (n-i) i s (by omega)
theorem sG{α:Type}[Inhabited α]{l:List α}{n m:Nat}{x:α}(hn:n<l.length):gt (l.set n x) m=if n=m then x else gt l m:=by
 simp only[gt,List.getD_eq_getElem?_getD,List.getElem?_set];by_cases h:n=m
 .subst h;simp[hn]
 .simp [h]
theorem PU{a b:Arr 4 Int}(h:∀f,f<4->gt a.1 f=gt b.1 f):a=b:=by apply Subtype.ext;apply List.ext_getElem (by rw[a.2,b.2]);intro i h1 h2;have:=h i (by have:=a.2;omega);rwa[gX h1,gX h2]at this
def wN:Nat->(Nat->Int)->Arr 4 Int->Arr 4 Int
 |0,_,z=>z
 |n+1,g,z=>Arr.set (wN n g z) n (g n)
theorem Hf(g:Nat->Int)(z:Arr 4 Int):∀(n:Nat),n<=4->∀f,f<n->gt (wN n g z).1 f=g f:=by
 intro n;induction n with
 |zero=>intro _ f h;omega
 |succ n ih=>
  intro hn f hf;simp only[wN,Arr.set];rw[sG (by rw[(wN n g z).2];omega)];by_cases e:n=f
  .rw [if_pos e,e]
  .rw [if_neg e,ih (by omega) f (by omega)]
theorem Hg{g:Nat->Int}{z a:Arr 4 Int}:wN 4 g z=a<->∀f,f<4->g f=gt a.1 f:=⟨fun h f hf=>by rw[<-h,Hf g z 4 (by omega) f hf],fun h=>PU fun f hf=>by rw[Hf g z 4 (by omega) f hf,h f hf]⟩
abbrev Z4:Arr 4 Int:=mx (.ar 4 (.i .i64))
def sY(a b:aj):Prop:=(aj.dk a=aj.dk b\/aj.dk a=-1\/aj.dk b=-1)/\∀f,f<4->∀i,bt (lx a f) i=true->bt (lx b f) i=true->bt (vl a f) i=bt (vl b f) i
def uU(a b:aj):Prop:=(aj.dk b=-1\/aj.dk a=aj.dk b)/\∀f,f<4->∀i,bt (lx b f) i=true->bt (lx a f) i=true/\bt (vl a f) i=bt (vl b f) i
def J1(a b:aj):aj:=(⟨(if(aj.dk b)>(aj.dk a)then(aj.dk b)else(aj.dk a)),wN 4 (fun f=>H_ .i64 (vl a f) (vl b f)) Z4,wN 4 (fun f=>H_ .i64 (lx a f) (lx b f)) Z4⟩:aj)
theorem zt{a b:aj}(ha:uT a)(hb:uT b):∃oA,p6 a b=some (oA,tt (sY a b))/\(sY a b->oA=J1 a b):=by
 unfold p6;by_cases hp:aj.dk a=aj.dk b\/aj.dk a=-1\/aj.dk b=-1
 case neg=>refine⟨(⟨0,Z4,Z4⟩:aj),?_,fun h=>absurd h.1 hp⟩;rw[eI fun h:sY a b=>hp h.1];rw[show((((aj.dk a) !=(aj.dk b))&&((aj.dk a) !=(-1)))&&((aj.dk b) !=(-1)))=true by simp;omega,cond_true]
 rw[show((((aj.dk a) !=(aj.dk b))&&((aj.dk a) !=(-1)))&&((aj.dk b) !=(-1)))=false by simp;omega,cond_false];let P:Nat->Prop:=fun f=>∀i,bt (lx a f) i=true->bt (lx b f) i=true->bt (vl a f) i=bt (vl b f) i;let st:Nat->Int×aj×aj:=fun j=>((j:Int),(⟨0,Z4,Z4⟩:aj),(⟨(if(aj.dk b)>(aj.dk a)then(aj.dk b)else(aj.dk a)),wN j (fun f=>H_ .i64 (vl a f) (vl b f)) Z4,wN j (fun f=>H_ .i64 (lx a f) (lx b f)) Z4⟩:aj))
 have e:∀f,f<4->(P f<->oe .i64 (oe .i64 (CI .i64 (vl a f) (vl b f)) (lx a f)) (lx b f)=0):=by
  intro f hf;obtain⟨k,v,hk,hv,k2,v2,_⟩:=ha.Vn hf;obtain⟨k',v',hk',hv',k2',v2',_⟩:=hb.Vn hf;have hx:v^^^v'<9223372036854775808:=Jg fun j hj=>by rw[Nat.testBit_xor,PO v2 (by omega),PO v2' (by omega)];rfl
  have hy:(v^^^v')&&&k<9223372036854775808:=Jg fun j hj=>by rw[Nat.testBit_and,PO k2 (by omega),Bool.and_false]
  show(∀i,bt (lx a f) i=true->bt (lx b f) i=true->bt (vl a f) i=bt (vl b f) i)<->_;rw[hk,hv,hk',hv',SQ (by omega) (by omega),Na hx (by omega),Na hy (by omega),Int.natCast_eq_zero,VF];simp only[bt,eC]
 have eU:∀f,f<4->P f->iq a b (st f)=some (.inl (st (f+1))):=by intro f hf h;simp only[iq,st];rw[decide_eq_true (by omega),cond_true,RS hf];simp only[ah];rw[(e f hf).1 h,show((0:Int) !=0)=false from rfl,cond_false,u9 (by omega)];rfl
 rcases LH (P:=P) 4 with h|⟨k,hk,hnp,hj⟩
 .have hl:=Dr (f:=iq a b) st 4 (fun i hi=>eU i hi (h i hi)) (b:=.inr (⟨0,Z4,Z4⟩,J1 a b)) (by simp only[iq,st];rfl);have hM:sY a b:=⟨hp,h⟩
  refine⟨J1 a b,?_,fun _=>rfl⟩;rw[iC hM];have hl:bw (iq a b) (0,(⟨0,Z4,Z4⟩:aj),(⟨(if(aj.dk b)>(aj.dk a)then(aj.dk b)else(aj.dk a)),Z4,Z4⟩:aj))=_:=hl;rw[hl];rfl
 .have hl:=Dr (f:=iq a b) st k (fun i hi=>eU i (by omega) (hj i hi)) (b:=.inl (false,⟨0,Z4,Z4⟩)) (by simp only[iq,st];rw[decide_eq_true (by omega),cond_true,RS hk];simp only[ah];rw[show((oe .i64 (oe .i64 (CI .i64 (vl a k) (vl b k)) (lx a k)) (lx b k)) !=0)=true by simpa using fun h=>hnp ((e k hk).2 h),cond_true]);have hM:¬sY a b:=fun h=>hnp (h.2 k hk);refine⟨⟨0,Z4,Z4⟩,?_,fun h=>absurd h hM⟩;rw[eI hM];have hl:bw (iq a b) (0,(⟨0,Z4,Z4⟩:aj),(⟨(if(aj.dk b)>(aj.dk a)then(aj.dk b)else(aj.dk a)),Z4,Z4⟩:aj))=_:=hl;rw[hl];rfl
theorem Gf{a b:aj}(h:uU a b):sY a b:=by
 refine⟨?_,fun f hf i _ hb=>(h.2 f hf i hb).2⟩;rcases h.1 with h|h
 .exact .inr (.inr h)
 .exact .inl h
theorem PN{a b:aj}(ha:uT a)(hb:uT b)(hM:sY a b):J1 a b=a<->uU a b:=by
 have hn:∀f,f<4->((H_ .i64 (vl a f) (vl b f)=vl a f/\H_ .i64 (lx a f) (lx b f)=lx a f)<->∀i,bt (lx b f) i=true->bt (lx a f) i=true/\bt (vl a f) i=bt (vl b f) i):=by
  intro f hf;have hm:=hM.2 f hf;obtain⟨k,v,hk,hv,k2,v2,_⟩:=ha.Vn hf;obtain⟨k',v',hk',hv',k2',v2',hs'⟩:=hb.Vn hf;rw[hk,hv,hk',hv']at hm|-;rw[QD (by omega) (by omega),QD (by omega) (by omega),Int.natCast_inj,Int.natCast_inj,Um,Um];simp only[bt,eC]at hm|-;constructor
  .intro ⟨_,h2⟩ i hi;exact⟨h2 i hi,hm i (h2 i hi) hi⟩
  .intro h;exact⟨fun i hi=>by rw[(h i (hs' i hi)).2];exact hi,fun i hi=>(h i hi).1⟩
 have e:J1 a b=a<->(if(aj.dk b)>(aj.dk a)then(aj.dk b)else(aj.dk a))=aj.dk a/\wN 4 (fun f=>H_ .i64 (vl a f) (vl b f)) Z4=aj.vH a/\wN 4 (fun f=>H_ .i64 (lx a f) (lx b f)) Z4=aj.nT a:=by obtain⟨pa,va,ka⟩:=a;simp only[J1,Prod.mk.injEq]
 have:=ha.lo;have:=hb.lo;have h0:=hM.1;rw[e,Hg,Hg];constructor
 .intro ⟨h1,h2,h3⟩;refine⟨?_,fun f hf=>(hn f hf).1 ⟨h2 f hf,h3 f hf⟩⟩;split at h1<;>omega
 .intro ⟨h1,h2⟩;refine⟨?_,fun f hf=>((hn f hf).2 (h2 f hf)).1,fun f hf=>((hn f hf).2 (h2 f hf)).2⟩;split<;>omega
theorem v_{a b:aj}(ha:uT a)(hb:uT b):nG a b=some (tt (uU a b)):=by
 obtain⟨oA,h1,h2⟩:=zt ha hb;simp only[nG,h1,ah,bM];by_cases hM:sY a b
 .rw [h2 hM,iC hM,Bool.true_and,fK,cJ (PN ha hb hM)]
 .rw [eI hM,Bool.false_and,eI fun h=>hM (Gf h)]
theorem BW{a b:aj}(ha:uT a)(hb:uT b):pA a b=some (tt (uU a b)):=by
 unfold pA;by_cases h:aj.dk b=-1\/aj.dk a=aj.dk b
 case neg=>rw[show(((aj.dk b) !=(-1))&&((aj.dk a) !=(aj.dk b)))=true by simp;omega,cond_true,eI fun h2=>h h2.1]
 rw[show(((aj.dk b) !=(-1))&&((aj.dk a) !=(aj.dk b)))=false by simp;omega,cond_false];rw[x9 (f:=o6 a b) 4 (by omega) (fun f=>∀i,i<8->bt (lx b f) i=true->bt (lx a f) i=true/\bt (vl a f) i=bt (vl b f) i) () (fun f hf=>?_) rfl]
 .have:uU a b<->∀f,f<4->∀i,i<8->bt (lx b f) i=true->bt (lx a f) i=true/\bt (vl a f) i=bt (vl b f) i:=by
   constructor
   .exact fun h f hf i _=>h.2 f hf i
   .refine fun h2=>⟨h,fun f hf i hx=>?_⟩;by_cases hi:i<8
    .exact h2 f hf i hi hx
    .have:=(hb.b f hf).2.1;rw[GN (Int.le_trans this (tE f)) (by omega)]at hx;cases hx
  rw[cJ this];cases hc:tt _<;>simp only[cond_true,cond_false,ah]
 .simp only[o6];rw[decide_eq_true (by omega),cond_true];have t:=tE f;obtain⟨h1,h2,h3,h4⟩:=ha.b f hf;have h5:=Bz h3 h1 h4;obtain⟨g1,g2,g3,g4⟩:=hb.b f hf;have g5:=Bz g3 g1 g4;rw[x9 (f:=o7 a b (f:Int)) 8 (by omega) (fun i=>bt (lx b f) i=true->bt (lx a f) i=true/\bt (vl a f) i=bt (vl b f) i) () (fun i hi=>?_) rfl]
  .cases hc:tt _<;>simp only[cond_true,cond_false,ah]
  .simp only[o7];rw[decide_eq_true (by omega),cond_true,RS hf];simp only[ah];rw[oL h1 (by omega) (by omega),oL h3 (by omega) (by omega),oL g1 (by omega) (by omega),oL g3 (by omega) (by omega)];simp only[ah];cases bt (lx a f) i<;>cases bt (vl a f) i<;>cases bt (lx b f) i<;>cases bt (vl b f) i<;>simp[tt]
theorem FR{a b:aj}(ha:uT a)(hb:uT b):∃oA,sx a b=some (oA,tt (sY a b)):=by
 unfold sx
 have hx:∃x1:aj,(bif((aj.dk a)==(-1))then(some (⟨aj.dk b,aj.vH a,aj.nT a⟩:aj))else(some a):Option aj)=some x1/\((((aj.dk b) !=(-1))&&((aj.dk x1) !=(aj.dk b)))=true<->¬(aj.dk a=aj.dk b\/aj.dk a=-1\/aj.dk b=-1)):=by
  by_cases h:aj.dk a=-1
  .refine ⟨_,by rw[show((aj.dk a)==(-1))=true by simpa using h,cond_true],?_⟩;simp[h]
  .refine ⟨_,by rw[show((aj.dk a)==(-1))=false by simpa using h,cond_false],?_⟩;simp;omega
 obtain⟨x1,h1,h2⟩:=hx;rw[h1];simp only[ah];by_cases hp:aj.dk a=aj.dk b\/aj.dk a=-1\/aj.dk b=-1
 case neg=>rw[h2.2 hp,cond_true,eI fun h:sY a b=>hp h.1];exact⟨_,rfl⟩
 rw[show(((aj.dk b) !=(-1))&&((aj.dk x1) !=(aj.dk b)))=false from Bool.eq_false_iff.2 fun h=>(h2.1 h) hp,cond_false];let Q:Nat->Nat->Prop:=fun f i=>bt (lx b f) i=true->bt (lx a f) i=true->bt (vl a f) i=bt (vl b f) i
 have inner:∀(f:Nat),f<4->∀s:Int×aj×aj,∃r,bw (rf a b (f:Int)) (s.1,0,s.2.1,s.2.2)=some r/\(match r with|.inl (ok,_)=>ok=false/\¬∀i,i<8->Q f i|.inr _=>∀i,i<8->Q f i):=by
  intro f hf s;have t:=tE f;obtain⟨a1,a2,a3,a4⟩:=ha.b f hf;have a5:=Bz a3 a1 a4;obtain⟨g1,g2,g3,g4⟩:=hb.b f hf;have g5:=Bz g3 g1 g4;refine tg (fun i(s:Int×aj×aj)=>(s.1,((i:Nat):Int),s.2.1,s.2.2)) 8 (fun i _=>∀j,j<i->Q f j) _ (fun i s hi hI=>?_) (fun s hI=>⟨_,rfl,hI⟩) 0 s (by omega) (fun j hj=>by omega);simp only[rf];rw[decide_eq_true (by omega),cond_true,RS hf,u9 (by omega)];simp only[ah];rw[oL a1 (by omega) (by omega),oL a3 (by omega) (by omega),oL g1 (by omega) (by omega),oL g3 (by omega) (by omega)];simp only[ah];by_cases hq:Q f i
  .left
   have hI2:∀j,j<i+1->Q f j:=fun j hj=>by
    by_cases e:j=i
    .exact e▸hq
    .exact hI j (by omega)
   simp only[Q]at hq;cases h1:bt (lx a f) i<;>cases h2:bt (vl a f) i<;>cases h3:bt (lx b f) i<;>cases h4:bt (vl b f) i<;>simp only[h1,h2,h3,h4]at hq<;>first|(exact⟨(_,_,_),rfl,hI2⟩)|(exact⟨(wr .i64 (s.1*2),s.2.1,(⟨aj.dk s.2.2,Arr.set (aj.vH s.2.2) f (wr .i64 (gt (aj.vH s.2.2).1 f+wr .i64 (s.1*0))),Arr.set (aj.nT s.2.2) f (wr .i64 (gt (aj.nT s.2.2).1 f+s.1))⟩:aj)),rfl,hI2⟩)|(exact⟨(wr .i64 (s.1*2),s.2.1,(⟨aj.dk s.2.2,Arr.set (aj.vH s.2.2) f (wr .i64 (gt (aj.vH s.2.2).1 f+wr .i64 (s.1*1))),Arr.set (aj.nT s.2.2) f (wr .i64 (gt (aj.nT s.2.2).1 f+s.1))⟩:aj)),rfl,hI2⟩)|(simp at hq)
  .right;have hI2:¬∀i,i<8->Q f i:=fun h=>hq (h i hi);simp only[Q]at hq;cases h1:bt (lx a f) i<;>cases h2:bt (vl a f) i<;>cases h3:bt (lx b f) i<;>cases h4:bt (vl b f) i<;>simp only[h1,h2,h3,h4]at hq<;>first|(exact⟨_,rfl,rfl,hI2⟩)|(simp at hq)
 have outer:∃r,bw (re a b) (0,(⟨0,Z4,Z4⟩:aj),x1)=some r/\(match r with|.inl (ok,_)=>ok=false/\¬∀f,f<4->∀i,i<8->Q f i|.inr _=>∀f,f<4->∀i,i<8->Q f i):=by
  refine tg (fun i(s:aj×aj)=>(((i:Nat):Int),s.1,s.2)) 4 (fun i _=>∀f,f<i->∀j,j<8->Q f j) _ (fun f s hf hI=>?_) (fun s hI=>⟨_,rfl,hI⟩) 0 (_,x1) (by omega) (fun j hj=>by omega);obtain⟨r,hr,hq⟩:=inner f hf (1,s.1,s.2);simp only[re];rw[decide_eq_true (by omega),cond_true,hr,u9 (by omega)];cases r with
  |inl r=>exact .inr ⟨_,rfl,hq.1,fun h=>hq.2 (h f hf)⟩
  |inr r=>exact .inl ⟨_,rfl,fun f' hf'=>by
    by_cases e:f'=f
    .exact e▸hq
    .exact hI f' (by omega)⟩
 obtain⟨r,hr,hq⟩:=outer
 have key:sY a b<->∀f,f<4->∀i,i<8->Q f i:=by
  constructor
  .exact fun h f hf i _ x y=>h.2 f hf i y x
  .refine fun h=>⟨hp,fun f hf i x y=>?_⟩;by_cases hi:i<8
   .exact h f hf i hi y x
   .have:=(hb.b f hf).2.1;rw[GN (Int.le_trans this (tE f)) (by omega)]at y;cases y
 rw[hr];cases r with|inl r=>obtain⟨ok,y⟩:=r;obtain⟨rfl,h⟩:=hq;exact⟨y,by rw[eI fun h2=>h (key.1 h2)];rfl⟩|inr r=>exact⟨r.2,by rw[iC (key.2 hq)];rfl⟩
def Fd(a b:ae):Prop:=ae.c9 a=ae.c9 b/\ae.M a≠ae.M b/\sY (ae.M a) (ae.M b)
theorem K5{a b:ae}:Fd a b<->Fd b a:=by have:∀{a b:ae},Fd a b->Fd b a:=fun{a b}h=>⟨h.1.symm,h.2.1.symm,⟨by have:=h.2.2.1;omega,fun f hf i x y=>(h.2.2.2 f hf i y x).symm⟩⟩;exact⟨this,this⟩
theorem As{a b:ae}(ha:uT (ae.M a))(hb:uT (ae.M b)):oI a b=some (tt (Fd a b)):=by obtain⟨oA,h1,_⟩:=zt ha hb;simp only[oI,h1,ah,bM];rw[show(ae.c9 a==ae.c9 b)=tt (ae.c9 a=ae.c9 b)from fK,fK,Fv,ol,ol,cJ];exact and_assoc
theorem pP{a b:ae}(ha:uT (ae.M a))(hb:uT (ae.M b)):nC a b=some (tt (Fd a b)):=by
 obtain⟨oA,h1⟩:=FR ha hb;unfold nC;by_cases h:ae.c9 a≠ae.c9 b\/ae.M a=ae.M b
 .rw [show((ae.c9 a !=ae.c9 b)||decide (ae.M a=ae.M b))=true by simpa using h,cond_true,eI];rintro⟨h2,h3,_⟩;rcases h with h|h
  .exact h h2
  .exact h3 h
 .rw [show((ae.c9 a !=ae.c9 b)||decide (ae.M a=ae.M b))=false by simpa using h,cond_false,h1];simp only[ah,bM];rw[not_or]at h;exact cJ ⟨fun h2=>⟨Classical.not_not.1 h.1,h.2,h2⟩,fun h2=>h2.2.2⟩
end Go.Proofs.YtjjajcecekocdaaGreat.A
