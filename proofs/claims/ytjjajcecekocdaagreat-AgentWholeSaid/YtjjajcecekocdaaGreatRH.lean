/- The queue of an agent: what is pushed, dropped, peeked. Conditions: a heap; lengths below 2^31. -/
import Derived.Test.YtjjajcecekocdaaGreatRM
import Derived.Test.YtjjajcecekocdaaGreatHeapM
open BitVec renaming ofInt->bJ
open Option renaming bind_some->ah
open Go.Ev Go
open Go.Ev.HeapM
namespace Go.Proofs.YtjjajcecekocdaaGreat.A
theorem Dv{α α' β:Type}(φ:α->α'){f:α->Option (α⊕β)}{g:α'->Option (α'⊕β)}(h:∀a,g (φ a)=(f a).map (Sum.map φ id)):∀(n:Nat)(a:α),jW g n (φ a)=jW f n a:=by
 intro n;induction n with
 |zero=>intro a;rfl
 |succ n ih=>
  intro a;simp only[jW];rw[h a];cases f a with
  |none=>rfl
  |some r=>cases r with|inl a'=>exact ih a'|inr b=>rfl
theorem zw{α α' β:Type}(φ:α->α'){f:α->Option (α⊕β)}{g:α'->Option (α'⊕β)}(h:∀a,g (φ a)=(f a).map (Sum.map φ id))(a:α):bw g (φ a)=bw f a:=by apply Option.ext;intro b;rw[lW,lW];simp only[Dv φ h]
abbrev Gc:Int->Int->Bool:=fun a b=>decide (a<b)
theorem Cb(a b:Int):eJ a b=some (Gc a b):=by
 unfold eJ oK;have e:∀x:Int,(x !=x)=false:=fun x=>by simp
 simp only[e,ah,cond_false]
theorem Rb:GY Gc:=⟨fun a=>by simp[Gc],fun a b c h1 h2=>by simp[Gc]at*;omega,fun a b h=>by simp[Gc]at*;omega,fun a b h1 h2=>by simp[Gc]at*;omega⟩
theorem P9(s:Sl Int)(i:Int):jG s i=bw (Nt eJ) (s,i):=by
 unfold jG;rw[show bw lH (i,s)=bw (Nt eJ) (s,i)from zw (fun p:Sl Int×Int=>(p.2,p.1)) (fun p=>?_) (s,i)]
 .cases bw (Nt eJ) (s,i)<;>rfl
 .obtain ⟨s,i⟩:=p;simp only[lH,Nt];cases hd:decide (i>0)with
  |false=>rfl
  |true=>
   simp only[cond_true];cases h1:eX i s.l.length with
   |none=>rfl
   |some n=>
    simp only[ah];cases h2:eX (wr .i64 ((wr .i64 (i-1)).tdiv 2)) s.l.length with
    |none=>rfl
    |some m=>simp only[ah,Cb];cases Gc (gt s.l n) (gt s.l m)with|false=>rfl|true=>simp only[cond_true];cases h3:eX (wr .i64 ((wr .i64 (i-1)).tdiv 2)) (s.l.set n (gt s.l m)).length<;>rfl
theorem Pk(s:Sl Int)(i:Int):kg s i=bw (sM eJ) (s,i):=by
 unfold kg;rw[show bw kN (i,s)=bw (sM eJ) (s,i)from zw (fun p:Sl Int×Int=>(p.2,p.1)) (fun p=>?_) (s,i)]
 .cases bw (sM eJ) (s,i)<;>rfl
 .obtain ⟨s,i⟩:=p;have e:nJ i s=xh eJ s i:=rfl;simp only[kN,sM,e];cases bw (xh eJ s i) (i,wr .i64 ((wr .i64 (2*i))+1))with
  |none=>rfl
  |some j=>
   simp only[ah];cases(j==i)with
   |true=>rfl
   |false=>
    simp only[cond_false];cases h1:eX j s.l.length with
    |none=>rfl
    |some n=>simp only[ah];cases h2:eX i s.l.length with|none=>rfl|some m=>simp only[ah];cases h3:eX j (s.l.set m (gt s.l n)).length<;>rfl
theorem Oi{s:Sl Int}{x:Int}(hH:Hp Gc s.l)(hb:s.l.length<2147483648):∃l',iP s x=some (.mk l')/\l'.Perm (x::s.l)/\Hp Gc l':=by obtain⟨l',h1,h2⟩:=IK Rb Cb (x:=x) hH hb;refine⟨l',?_,h2⟩;rw[<-h1];unfold iP KX;cases ld (s.l++[x])with|none=>rfl|some l=>simp only[ah,P9];cases bw (Nt eJ) (Sl.mk l,wr .i64 ((l.length:Int)-1))<;>rfl
theorem NR(s:Sl Int)(i:Int):kf s i=G_ eJ (.mk s.l) i:=by
 unfold kf G_;show _=(eX (wr .i64 ((s.l.length:Int)-1)) s.l.length).bind _;congr 1;funext n1;show _=(eX i s.l.length).bind _;congr 1;funext n3;congr 1;funext l6;show _=(bif decide (i<wr .i64 ((s.l.length:Int)-1))then _ else _)
 cases decide (i<wr .i64 ((s.l.length:Int)-1))with|false=>rfl|true=>simp only[cond_true,P9,Pk];congr 1;funext q;cases bw (sM eJ) (q,i)<;>rfl
theorem yu{s:Sl Int}{x:Int}(hH:Hp Gc s.l)(hx:x∈s.l)(hb:s.l.length<2147483648):
  ∃l',kh s x=some (true,.mk l')/\(x::l').Perm s.l/\Hp Gc l':=by
 have hidx:jC s x=some (fi s.l fun y=>x==y):=by
  unfold jC;rw[Cg (l:=s.l) (f:=iD s x) (by omega) (fun y=>x==y) () (fun i hi=>?_) (by simp only[iD];rw[decide_eq_false (by omega),cond_false])]
  .unfold fi;cases s.l.findIdx? (fun y=>x==y)<;>rfl
  .simp only[iD];rw[decide_eq_true (by omega),cond_true,cB hi];simp only[ah];cases(x==gt s.l i)<;>rfl
 rcases qb s.l (fun y=>x==y)with⟨_,h⟩|⟨k,e,hk,hpk,_⟩
 .have:=h x hx;simp at this
 .have hxk:x=gt s.l k:=by simpa using hpk
  obtain⟨l',h1,h2,h3⟩:=Iq Rb Cb (l:=s.l) (i:=k) hH hk hb;refine⟨l',?_,hxk▸h2,h3⟩;unfold kh;rw[hidx,e];simp only[ah];rw[decide_eq_false (by omega),cond_false,NR,h1];rfl
theorem K2{s:Sl Int}(h:s.l=[]):gS s=some (0,false):=by unfold gS kO;rw[h];rfl
theorem Hr{s:Sl Int}(h:0<s.l.length):gS s=some (gt s.l 0,true):=by
 unfold gS kO;simp only[ah];have h1:((s.l.length:Int)==0)=false:=by rw[beq_eq_false_iff_ne];omega
 have h2:eX 0 s.l.length=some 0:=jr.2 ⟨rfl,h⟩;rw[h1,cond_false,h2];rfl
theorem K3{l:List Int}(hH:Hp Gc l):∀x∈l,gt l 0<=x:=fun x hx=>by obtain⟨j,hj,rfl⟩:=List.mem_iff_getElem.1 hx;have:=R3 Rb hH j hj;rw[gX hj]at this;simp[Gc]at this;exact this
theorem YX{x:Int}(h0:-9223372036854775808<=x)(h1:x<9223372036854775808):oe .i64 x 7=x %8:=by rw[fU];show IntKind.i64.wrap (((bJ 64 x&&&bJ 64 7).toNat:Nat):Int)=_;rw[BitVec.toNat_and,show(bJ 64 7).toNat=2^3-1 by decide,Nat.and_two_pow_sub_one_eq_mod,BitVec.toNat_ofInt];rw[show IntKind.i64.wrap=wr .i64 from rfl,xQ (by omega) (by omega)];omega
end Go.Proofs.YtjjajcecekocdaaGreat.A
