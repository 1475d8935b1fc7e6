/- Matches: what two have in common, which lies within which; rules that overlap, for the agent's program. Conditions: as stated. -/
import Derived.Test.YtjjajcecekocdaaGreatQB
open Int renaming toNat_natCast->eC
open Option renaming bind_some->ah
open Option.some renaming injEq->bM
open Go.Ev Go
noncomputable section
namespace Go.Proofs.YtjjajcecekocdaaGreat.A
theorem tg{S σ β:Type}{f:S->Option (Sum S β)}(st:Nat->σ->S)(n:Nat)(I:Nat->σ->Prop)(R:β->Prop)
  (hstep:∀i s,i<n->I i s->(∃s',f (st i s)=some (.inl (st (i+1) s'))/\I (i+1) s')\/(∃b,f (st i s)=some (.inr b)/\R b))
  (hend:∀s,I n s->∃b,f (st n s)=some (.inr b)/\R b):∀i s,i<=n->I i s->∃b,bw f (st i s)=some b/\R b:=by
 have:∀(k i:Nat)(s:σ),i+k=n->I i s->∃b,bw f (st i s)=some b/\R b:=by
  intro k;induction k with
  |zero=>
   intro i s hi hI;obtain rfl:i=n:=by omega
   obtain⟨b,h1,h2⟩:=hend s hI;exact⟨b,ku h1,h2⟩
  |succ k ih=>
   intro i s hi hI;rcases hstep i s (by omega) hI with⟨s',h1,h2⟩|⟨b,h1,h2⟩
   .obtain ⟨b,h4,h5⟩:=ih (i+1) s' (by omega) h2;exact⟨b,(oC h1).trans h4,h5⟩
   .exact ⟨b,ku h1,h2⟩
 exact fun i s hi=>this (n-i) i s (by omega)
theorem sG{α:Type}[Inhabited α]{l:List α}{n m:Nat}{x:α}(hn:n<l.length):gt (l.set n x) m=if n=m then x else gt l m:=by
 simp only[gt,List.getD_eq_getElem?_getD,List.getElem?_set];by_cases h:n=m
 .subst h;simp[hn]
 .simp [h]
theorem PU{a b:Arr 4 Int}(h:∀f,f<4->gt a.1 f=gt b.1 f):a=b:=by apply Subtype.ext;apply List.ext_getElem (by rw[a.2,b.2]);intro i h1 h2;have:=h i (by have:=a.2;omega);rwa[gX h1,gX h2]at this
def wN:Nat->(Nat->Int)->Arr 4 Int->Arr 4 Int
 |0,_,z=>z
 |n+1,g,z=>Arr.set (wN n g z) n (g n)
theorem Hf(g:Nat->Int)(z:Arr 4 Int):∀(n:Nat),n<=4->∀f,f<n->gt (wN n g z).1 f=g f:=by
 intro n;induction n with
 |zero=>intro _ f h;omega
 |succ n ih=>
  intro hn f hf;simp only[wN,Arr.set];rw[sG (by rw[(wN n g z).2];omega)];by_cases e:n=f
  .rw [if_pos e,e]
  .rw [if_neg e,ih (by omega) f (by omega)]
theorem Hg{g:Nat->Int}{z a:Arr 4 Int}:wN 4 g z=a<->∀f,f<4->g f=gt a.1 f:=⟨fun h f hf=>by rw[<-h,Hf g z 4 (by omega) f hf],fun h=>PU fun f hf=>by rw[Hf g z 4 (by omega) f hf,h f hf]⟩
abbrev Z4:Arr 4 Int:=mx (.ar 4 (.i .i64))
def sY(a b:aj):Prop:=(aj.dk a=aj.dk b\/aj.dk a=-1\/aj.dk b=-1)/\∀f,f<4->∀i,bt (lx a f) i=true->bt (lx b f) i=true->bt (vl a f) i=bt (vl b f) i
def uU(a b:aj):Prop:=(aj.dk b=-1\/aj.dk a=aj.dk b)/\∀f,f<4->∀i,bt (lx b f) i=true->bt (lx a f) i=true/\bt (vl a f) i=bt (vl b f) i
def J1(a b:aj):aj:=(⟨(if(aj.dk b)>(aj.dk a)then(aj.dk b)else(aj.dk a)),wN 4 (fun f=>H_ .i64 (vl a f) (vl b f)) Z4,wN 4 (fun f=>H_ .i64 (lx a f) (lx b f)) Z4⟩:aj)
theorem zt{a b:aj}(ha:uT a)(hb:uT b):∃oA,p6 a b=some (oA,tt (sY a b))/\(sY a b->oA=J1 a b):=by
 unfold p6;by_cases hp:aj.dk a=aj.dk b\/aj.dk a=-1\/aj.dk b=-1
 case neg=>refine⟨(⟨0,Z4,Z4⟩:aj),?_,fun h=>absurd h.1 hp⟩;rw[eI fun h:sY a b=>hp h.1];rw[show((((aj.dk a) !=(aj.dk b))&&((aj.dk a) !=(-1)))&&((aj.dk b) !=(-1)))=true by simp;omega,cond_true]
 rw[show((((aj.dk a) !=(aj.dk b))&&((aj.dk a) !=(-1)))&&((aj.dk b) !=(-1)))=false by simp;omega,cond_false];let P:Nat->Prop:=fun f=>∀i,bt (lx a f) i=true->bt (lx b f) i=true->bt (vl a f) i=bt (vl b f) i;let st:Nat->Int×aj×aj:=fun j=>((j:Int),(⟨0,Z4,Z4⟩:aj),(⟨(if(aj.dk b)>(aj.dk a)then(aj.dk b)else(aj.dk a)),wN j (fun f=>H_ .i64 (vl a f) (vl b f)) Z4,wN j (fun f=>H_ .i64 (lx a f) (lx b f)) Z4⟩:aj))
 have e:∀f,f<4->(P f<->oe .i64 (oe .i64 (CI .i64 (vl a f) (vl b f)) (lx a f)) (lx b f)=0):=by
  intro f hf;obtain⟨k,v,hk,hv,k2,v2,_⟩:=ha.Vn hf;obtain⟨k',v',hk',hv',k2',v2',_⟩:=hb.Vn hf;have hx:v^^^v'<9223372036854775808:=Jg fun j hj=>by rw[Nat.testBit_xor,PO v2 (by omega),PO v2' (by omega)];rfl
  have hy:(v^^^v')&&&k<9223372036854775808:=Jg fun j hj=>by rw[Nat.testBit_and,PO k2 (by omega),Bool.and_false]
  show(∀i,bt (lx a f) i=true->bt (lx b f) i=true->bt (vl a f) i=bt (vl b f) i)<->_;rw[hk,hv,hk',hv',SQ (by omega) (by omega),Na hx (by omega),Na hy (by omega),Int.natCast_eq_zero,VF];simp only[bt,eC]
 have eU:∀f,f<4->P f->iq a b (st f)=some (.inl (st (f+1))):=by intro f hf h;simp only[iq,st];rw[decide_eq_true (by omega),cond_true,RS hf];simp only[ah];rw[(e f hf).1 h,show((0:Int) !=0)=false from rfl,cond_false,u9 (by omega)];rfl
 rcases LH (P:=P) 4 with h|⟨k,hk,hnp,hj⟩
 .have hl:=Dr (f:=iq a b) st 4 (fun i hi=>eU i hi (h i hi)) (b:=.inr (⟨0,Z4,Z4⟩,J1 a b)) (by simp only[iq,st];rfl);have hM:sY a b:=⟨hp,h⟩
  refine⟨J1 a b,?_,fun _=>rfl⟩;rw[iC hM];have hl:bw (iq a b) (0,(⟨0,Z4,Z4⟩:aj),(⟨(if(aj.dk b)>(aj.dk a)then(aj.dk b)else(aj.dk a)),Z4,Z4⟩:aj))=_:=hl;rw[hl];rfl
 .have hl:=Dr (f:=iq a b) st k (fun i hi=>eU i (by omega) (hj i hi)) (b:=.inl (false,⟨0,Z4,Z4⟩)) (by simp only[iq,st];rw[decide_eq_true (by omega),cond_true,RS hk];simp only[ah];rw[show((oe .i64 (oe .i64 (CI .i64 (vl a k) (vl b k)) (lx a k)) (lx b k)) !=0)=true by simpa using fun h=>hnp ((e k hk).2 h),cond_true]);have hM:¬sY a b:=fun h=>hnp (h.2 k hk);refine⟨⟨0,Z4,Z4⟩,?_,fun h=>absurd h hM⟩;rw[eI hM];have hl:bw (iq a b) (0,(⟨0,Z4,Z4⟩:aj),(⟨(if(aj.dk b)>(aj.dk a)then(aj.dk b)else(aj.dk a)),Z4,Z4⟩:aj))=_:=hl;rw[hl];rfl
theorem Gf{a b:aj}(h:uU a b):sY a b:=by
 refine⟨?_,fun f hf i _ hb=>(h.2 f hf i hb).2⟩;rcases h.1 with h|h
 .exact .inr (.inr h)
 .exact .inl h
theorem PN{a b:aj}(ha:uT a)(hb:uT b)(hM:sY a b):J1 a b=a<->uU a b:=by
 have hn:∀f,f<4->((H_ .i64 (vl a f) (vl b f)=vl a f/\H_ .i64 (lx a f) (lx b f)=lx a f)<->∀i,bt (lx b f) i=true->bt (lx a f) i=true/\bt (vl a f) i=bt (vl b f) i):=by
  intro f hf;have hm:=hM.2 f hf;obtain⟨k,v,hk,hv,k2,v2,_⟩:=ha.Vn hf;obtain⟨k',v',hk',hv',k2',v2',hs'⟩:=hb.Vn hf;rw[hk,hv,hk',hv']at hm|-;rw[QD (by omega) (by omega),QD (by omega) (by omega),Int.natCast_inj,Int.natCast_inj,Um,Um];simp only[bt,eC]at hm|-;constructor
  .intro ⟨_,h2⟩ i hi;exact⟨h2 i hi,hm i (h2 i hi) hi⟩
  .intro h;exact⟨fun i hi=>by rw[(h i (hs' i hi)).2];exact hi,fun i hi=>(h i hi).1⟩
 have e:J1 a b=a<->(if(aj.dk b)>(aj.dk a)then(aj.dk b)else(aj.dk a))=aj.dk a/\wN 4 (fun f=>H_ .i64 (vl a f) (vl b f)) Z4=aj.vH a/\wN 4 (fun f=>H_ .i64 (lx a f) (lx b f)) Z4=aj.nT a:=by obtain⟨pa,va,ka⟩:=a;simp only[J1,Prod.mk.injEq]
 have:=ha.lo;have:=hb.lo;have h0:=hM.1;rw[e,Hg,Hg];constructor
 .intro ⟨h1,h2,h3⟩;refine⟨?_,fun f hf=>(hn f hf).1 ⟨h2 f hf,h3 f hf⟩⟩;split at h1<;>omega
 .intro ⟨h1,h2⟩;refine⟨?_,fun f hf=>((hn f hf).2 (h2 f hf)).1,fun f hf=>((hn f hf).2 (h2 f hf)).2⟩;split<;>omega
theorem v_{a b:aj}(ha:uT a)(hb:uT b):nG a b=some (tt (uU a b)):=by
 obtain⟨oA,h1,h2⟩:=zt ha hb;simp only[nG,h1,ah,bM];by_cases hM:sY a b
 .rw [h2 hM,iC hM,Bool.true_and,fK,cJ (PN ha hb hM)]
 .rw [eI hM,Bool.false_and,eI fun h=>hM (Gf h)]
def Fd(a b:ae):Prop:=ae.c9 a=ae.c9 b/\ae.M a≠ae.M b/\sY (ae.M a) (ae.M b)
theorem K5{a b:ae}:Fd a b<->Fd b a:=by have:∀{a b:ae},Fd a b->Fd b a:=fun{a b}h=>⟨h.1.symm,h.2.1.symm,⟨by have:=h.2.2.1;omega,fun f hf i x y=>(h.2.2.2 f hf i y x).symm⟩⟩;exact⟨this,this⟩
theorem As{a b:ae}(ha:uT (ae.M a))(hb:uT (ae.M b)):oI a b=some (tt (Fd a b)):=by obtain⟨oA,h1,_⟩:=zt ha hb;simp only[oI,h1,ah,bM];rw[show(ae.c9 a==ae.c9 b)=tt (ae.c9 a=ae.c9 b)from fK,fK,Fv,ol,ol,cJ];exact and_assoc
end Go.Proofs.YtjjajcecekocdaaGreat.A
