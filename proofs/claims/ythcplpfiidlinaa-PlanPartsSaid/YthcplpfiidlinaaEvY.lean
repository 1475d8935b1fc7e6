/- Typed data over the abstract machine, and what its operations do to it. Conditions: as stated. -/
import Derived.Test.YthcplpfiidlinaaEvW
import Derived.OpenShut
import Derived.WideKeyArgs
import Derived.Deep.Slices
import Derived.ProofKit
import Derived.WalkKit
import Derived.JoinedCond
namespace Go.Ev
inductive Sl (α:Type) where
 | nil
 | mk (l:List α)
 deriving Inhabited,DecidableEq
def Sl.l{α:Type}:Sl α->List α
 | .nil=> []
 | .mk l=>l
@[simp] theorem Sl.l_mk {α:Type} (l:List α):(Sl.mk l).l=l:=rfl
@[simp] theorem Sl.l_nil {α:Type}:(Sl.nil:Sl α).l= []:=rfl
def Sl.isNil{α:Type}:Sl α->Bool
 | .nil=>true
 | .mk _=>false
abbrev dI(k:IntKind)(n:Int):D:= .lit (.int k n)
abbrev dB(b:Bool):D:= .lit (.bool b)
abbrev dS(s:ByteArray):D:= .lit (.string s)
abbrev tI(k:IntKind)(n:Int):TV:= .c (.d (.lit (.int k n)))
abbrev tB(b:Bool):TV:= .c (.d (.lit (.bool b)))
def slD{α:Type}(sz:Nat)(enc:α->List D):Sl α->D
 | .nil=> .lit (.slice none 0 0)
 | .mk l=> .sl sz (l.map enc)
def slC{α:Type}(sz:Nat)(enc:α->List D)(id:Nat):Sl α->C
 | .nil=> .d (.lit (.slice none 0 0))
 | .mk l=> .osl sz id 0 (l.map enc).length
def slT{α:Type}(sz:Nat)(enc:α->List D):Sl α->T
 | .nil=> .d (.lit (.slice none 0 0))
 | .mk l=> .sl sz (l.map enc)
abbrev wr(k:IntKind)(n:Int):Int:=k.wrap n
def bAnd(k:IntKind)(a b:Int):Int:=k.wrap (BitVec.ofInt k.bits a &&& BitVec.ofInt k.bits b).toNat
def bOr(k:IntKind)(a b:Int):Int:=k.wrap (BitVec.ofInt k.bits a ||| BitVec.ofInt k.bits b).toNat
def bXor(k:IntKind)(a b:Int):Int:=k.wrap (BitVec.ofInt k.bits a ^^^ BitVec.ofInt k.bits b).toNat
def qu8(k:IntKind)(a b:Int):Int:=k.wrap (BitVec.ofInt k.bits a &&& ~~~BitVec.ofInt k.bits b).toNat
def bNot(k:IntKind)(a:Int):Int:=k.wrap (BitVec.ofInt k.bits (if k.signed then -1 else k.max) ^^^ BitVec.ofInt k.bits a).toNat
def bShl(k:IntKind)(a b:Int):Int:=k.wrap (a * 2 ^ (min b.toNat k.bits))
def bShr(k:IntKind)(a b:Int):Int:=a.fdiv (2 ^ (min b.toNat k.bits))
def divI(k:IntKind)(a b:Int):Option Int:=if b=0 then none else some (k.wrap (a.tdiv b))
def remI(_:IntKind)(a b:Int):Option Int:=if b=0 then none else some (a.tmod b)
def shlI(k:IntKind)(a b:Int):Option Int:=if b < 0 then none else some (bShl k a b)
def shrI(k:IntKind)(a b:Int):Option Int:=if b < 0 then none else some (bShr k a b)
def catS(a b:ByteArray):Option ByteArray:=if ((a.size+b.size:Nat):Int) > IntKind.i64.max then none else some (a++b)
def atS(s:ByteArray)(i:Int):Option Int:=if 0<=i then s[i.toNat]?.map λb=>(b.toNat:Int)else none
def subS(s:ByteArray)(lo hi:Int):Option ByteArray:=if 0<=lo/\lo<=hi/\hi<=s.size then some (s.extract lo.toNat hi.toNat)else none
def mkI{α:Type}(z:α)(l c:Int):Option (List α):=if 0<=l/\l<=c/\c<=2147483648 then some (List.replicate l.toNat z)else none
def Sl.to{α:Type}(s:Sl α)(r:List α):Sl α:=match s with | .nil=> .nil | .mk _=> .mk r
section
variable {c:Ev.Call}{H:Heap}{nx:Nat}{k:IntKind}{a b x:Int}{s t u:ByteArray}
theorem qvi(h:divI k a b=some x):ev1 c (.bin .quo) [some (tI k a),some (tI k b)] H nx=some (tI k x, [], [],nx):=by
 unfold divI at h; split at h
 ·simp at h
 ·rename_i hb; obtain rfl:=Option.some.inj h; simp [ev1,binV,hb,lv]
theorem qvc(h:remI k a b=some x):ev1 c (.bin .rem) [some (tI k a),some (tI k b)] H nx=some (tI k x, [], [],nx):=by
 unfold remI at h; split at h
 ·simp at h
 ·rename_i hb; obtain rfl:=Option.some.inj h; simp [ev1,binV,hb,lv]
theorem qvy{k2:IntKind}(h:shlI k a b=some x):ev1 c (.bin .shl) [some (tI k a),some (tI k2 b)] H nx=some (tI k x, [], [],nx):=by
 unfold shlI at h; split at h
 ·simp at h
 ·rename_i hb; obtain rfl:=Option.some.inj h; simp [ev1,binV,hb,lv,bShl]
theorem qvm{k2:IntKind}(h:shrI k a b=some x):ev1 c (.bin .shr) [some (tI k a),some (tI k2 b)] H nx=some (tI k x, [], [],nx):=by
 unfold shrI at h; split at h
 ·simp at h
 ·rename_i hb; obtain rfl:=Option.some.inj h; simp [ev1,binV,hb,lv,bShr]
theorem qwq(h:catS s t=some u):ev1 c (.bin .add) [some (.c (.d (dS s))),some (.c (.d (dS t)))] H nx=some (.c (.d (dS u)), [], [],nx):=by
 unfold catS at h; split at h
 ·simp at h
 ·rename_i hb; obtain rfl:=Option.some.inj h; simp only [ev1,binV]; rw [if_neg hb]; rfl
theorem ev_at(h:atS s a=some x):ev1 c .indexStr [some (.c (.d (dS s))),some (tI k a)] H nx=some (tI .u8 x, [], [],nx):=by
 unfold atS at h; split at h
 ·rename_i ha
  obtain ⟨y,hy,rfl⟩:=Option.map_eq_some_iff.1 h
  simp only [ev1,intOf?]; rw [if_pos ha,hy]; rfl
 ·simp at h
end
def ixI(i:Int)(n:Nat):Option Nat:=if 0<=i/\i < n then some i.toNat else none
theorem q2h{i:Int}{n m:Nat}:ixI i n=some m↔i=m/\m < n:=by
 unfold ixI
 split
 ·simp only [Option.some.injEq]; omega
 ·simp only [reduceCtorEq,false_iff]; omega
theorem q08{i n:Nat}(h:i < n):ixI (i:Int) n=some i:=q2h.2 ⟨rfl,h⟩
def gt{α:Type} [Inhabited α] (l:List α)(n:Nat):α:=l.getD n default
theorem qwl{α:Type} [Inhabited α] {l:List α}{n:Nat}(h:n < l.length):l[n]? =some (gt l n):=by
 simp [gt,List.getD,h]
theorem gt_eq{α:Type} [Inhabited α] {l:List α}{n:Nat}(h:n < l.length):gt l n=l[n]:=by
 simp [gt,List.getD,h]
theorem q8s{α:Type} [Inhabited α] {l:List α}{n:Nat}{enc:α->List D}(h:n < l.length):(l.map enc)[n]? =some (enc (gt l n)):=by
 rw [List.getElem?_map,qwl h]; rfl
def capI{α:Type}(l:List α):Option (List α):=if l.length<=2147483648 then some l else none
theorem qb2{α:Type}{l m:List α}:capI l=some m↔l=m/\l.length<=2147483648:=by
 unfold capI
 split
 ·simp_all
 ·rename_i hl
  simp only [reduceCtorEq,false_iff,not_and]
  rintro rfl; omega
theorem q3e{α:Type}{l:List α}(h:l.length<=2147483648):capI l=some l:=qb2.2 ⟨rfl,h⟩
def cutI{α:Type}(l:List α)(lo hi:Int):Option (List α):=if 0<=lo/\lo<=hi/\hi<=l.length then some ((l.drop lo.toNat).take (hi.toNat - lo.toNat))else none
theorem bnd{α β:Type}{x:Option α}{f:α->Option β}{r:β}(h:x.bind f=some r):∃a,x=some a/\f a=some r:=Option.bind_eq_some_iff.1 h
theorem q99{α:Type}{l:List α}{enc:α->List D}:((l.map enc).drop 0).take (l.map enc).length=l.map enc:=by
 rw [List.drop_zero,List.take_length]
theorem quv{α:Type}{l:List α}{enc:α->List D}{a b:Nat}:((l.map enc).drop a).take b=((l.drop a).take b).map enc:=by
 rw [List.map_take,List.map_drop]
section
variable {α:Type}{c:Ev.Call}{H:Heap}{nx sz id off len m n:Nat}{k:IntKind}{i:Int}{enc:α->List D}{s:Sl α}{l:List α}{agg:Bool}{v:TV}
theorem p_o{k:Nat}(hl:look H id=some (.arr sz (l.map enc))):packC H k (.osl sz id 0 (l.map enc).length)=some (.sl sz (l.map enc), [id], [id]):=by
 have:packC H k (.osl sz id 0 (l.map enc).length)=(if 0+(l.map enc).length<=(l.map enc).length then some (.sl sz (((l.map enc).drop 0).take (l.map enc).length), [id], [id])else none):=by cases k <;> simp only [packC,hl]
 rw [this,if_pos (by omega),q99]
theorem qw4{lo hi:Int}{r:List α}(hc:cutI l lo hi=some r):lo.toNat+(r.map enc).length<=(l.map enc).length/\((l.map enc).drop lo.toNat).take (r.map enc).length=r.map enc:=by
 unfold cutI at hc
 split at hc
 ·rename_i h
  obtain rfl:=Option.some.inj hc
  refine ⟨by simp; omega, ?_⟩
  rw [quv]; congr 1; simp
 ·simp at hc
theorem wh_o{own rd:List Nat}{r:List (C×List Nat×List Nat)}(hl:look H id=some (.arr sz (l.map enc)))(h:q0s H r=true):q0s H ((.osl sz id 0 (l.map enc).length,own,rd) :: r)=true:=by
 simp [q0s,hl,h]
theorem ix_sd [Inhabited α] (h:ixI i s.l.length=some n):ev1 c (.indexAddr none sz) [some (.c (.d (slD sz enc s))),some (tI k i)] H nx=some (.c (.d (.pt (enc (gt s.l n)))), [], [],nx):=by
 obtain ⟨rfl,hn⟩:=q2h.1 h
 cases s with
 | nil=>simp [Sl.l]at hn
 | mk l=>
  have hn':n < l.length:=hn
  simp only [ev1,intOf?,q1r,slD,Int.natCast_nonneg,and_self,if_true,Int.toNat_natCast]
  rw [q8s hn']; rfl
theorem ix_o(h:ixI i l.length=some n):ev1 c (.indexAddr none sz) [some (.c (.osl sz id 0 (l.map enc).length)),some (tI k i)] H nx=some (.c (.ep id n 0), [], [],nx):=by
 obtain ⟨rfl,hn⟩:=q2h.1 h
 simp only [ev1,intOf?,q1r,List.length_map]
 rw [if_pos (by refine ⟨by omega,by omega, ?_⟩; trivial)]
 simp
theorem ix_oo(h:ixI i l.length=some n):ev1 c (.indexAddr none sz) [some (.c (.osl sz id off (l.map enc).length)),some (tI k i)] H nx=some (.c (.ep id (off+n) 0), [], [],nx):=by
 obtain ⟨rfl,hn⟩:=q2h.1 h
 simp only [ev1,intOf?,q1r,List.length_map]
 rw [if_pos (by refine ⟨by omega,by omega, ?_⟩; trivial)]
 simp
theorem qsf{X:Prop}(h:ixI i (Sl.l (Sl.nil:Sl α)).length=some n):X:=by
 obtain ⟨_,hn⟩:=q2h.1 h
 simp [Sl.l]at hn
theorem qtu [Inhabited α] {cs:List C}{ds:List D}{ids:List Nat}{u:Upd}{y:α}(hl:look H id=some (.arr sz (l.map enc)))(hn:n < l.length)(hc:cellsOf v=some cs)(hm:cs.length=m)(hw:q0r H cs=some (ds,ids))(hf:q0o H ids ids=some u)
  (hid:ids.contains id=false) (hlen:off+m<=(enc (gt l n)).length)
  (hy:splice (enc (gt l n)) off ds=enc y):ev1 c (.store m) [some (.c (.ep id n off)),some v] H nx=some (.tup [],(id,some (.arr sz ((l.set n y).map enc))) :: u,id :: ids,nx):=by
 simp only [ev1,q44,hc,hm,if_true,hl,q8s hn,hw,hf]
 rw [if_pos ⟨hlen,hid⟩,hy,List.map_set]
theorem qw5:ev1 c (.len false) [some (.c (.d (slD sz enc s)))] H nx=some (tI .i64 s.l.length, [], [],nx):=by
 cases s with
 | nil=>rfl
 | mk l=>simp [ev1,evLen,slD,Sl.l,lv]
theorem len_c:ev1 c (.len false) [some (.c (slC sz enc id s))] H nx=some (tI .i64 s.l.length, [], [],nx):=by
 cases s with
 | nil=>rfl
 | mk l=>simp [ev1,evLen,slC,Sl.l,lv]
theorem qvn{neg:Bool}:ev1 c (.eqNil 0 neg) [some (.c (.d (slD sz enc s)))] H nx=some (tB (if neg then !s.isNil else s.isNil), [], [],nx):=by
 cases s <;> rfl
theorem nil_c{neg:Bool}:ev1 c (.eqNil 0 neg) [some (.c (slC sz enc id s))] H nx=some (tB (if neg then !s.isNil else s.isNil), [], [],nx):=by
 cases s <;> rfl
theorem qv6:q2u sz H (.d (slD sz enc s))=some (s.l.map enc, []):=by
 cases s with
 | nil=>rfl
 | mk l=>simp [q2u,slD,Sl.l]
theorem q5t{l r:List α}{lo hi:Int}:cutI l lo hi=some r↔(0<=lo/\lo<=hi/\hi<=l.length)/\(l.drop lo.toNat).take (hi.toNat - lo.toNat)=r:=by
 unfold cutI
 split
 ·rename_i h; simp [h]
 ·rename_i h; simp [h]
theorem cut_o{lo hi:Option Int}{r:List α}(hc:cutI l (lo.getD 0) (hi.getD l.length)=some r):q13 false sz (.osl sz id 0 (l.map enc).length) lo hi=some (.osl sz id (lo.getD 0).toNat (r.map enc).length):=by
 obtain ⟨h,rfl⟩:=q5t.1 hc
 simp only [q13,Bool.false_eq_true,if_false,List.length_map]
 rw [if_pos ⟨trivial,h⟩]
 simp; omega
theorem qvg{lo hi:Option Int}{r:List α}(hc:cutI s.l (lo.getD 0) (hi.getD s.l.length)=some r):q13 false sz (.d (slD sz enc s)) lo hi=some (.d (slD sz enc (s.to r))):=by
 obtain ⟨h,rfl⟩:=q5t.1 hc
 cases s with
 | nil=>
  simp only [Sl.l,List.length_nil]at h
  simp only [q13,slD,Bool.false_eq_true,if_false]
  rw [if_pos ⟨h.1,h.2.1,by simpa using h.2.2⟩]
  rfl
 | mk l=>
  simp only [Sl.l]at h ⊢
  simp only [q13,slD,Bool.false_eq_true,if_false,List.length_map]
  rw [if_pos ⟨trivial,h.1,h.2.1,h.2.2⟩]
  simp [List.map_take,List.map_drop,Sl.to]
theorem cut_n{lo hi:Option Int}{r:List α}(hc:cutI (Sl.l (Sl.nil:Sl α)) (lo.getD 0) (hi.getD (Sl.l (Sl.nil:Sl α)).length)=some r):q13 false sz (.d (.lit (.slice none 0 0))) lo hi=some (.d (.lit (.slice none 0 0))):=by
 obtain ⟨h,rfl⟩:=q5t.1 hc
 simp only [Sl.l,List.length_nil]at h
 simp only [q13,Bool.false_eq_true,if_false]
 rw [if_pos ⟨h.1,h.2.1,by simpa using h.2.2⟩]
section
variable {r:List α}{i j:Int}{k k2:IntKind}
def cpL(l:List α)(off n:Nat)(x:List α):List α:=splice l off (x.take n)
theorem qoc{off n:Nat}{x:List α}:splice (l.map enc) off ((x.map enc).take n)=(cpL l off n x).map enc:=by
 simp [cpL,splice]
theorem qvb{xc:C}{x:List α}{ids:List Nat}(hl:look H id=some (.arr sz (l.map enc)))(hx:q2u sz H xc=some (x.map enc,ids)):
  ev1 c (.copy sz) [some (.c (.osl sz id 0 (l.map enc).length)),some (.c xc)] H nx=some (tI .i64 (min x.length l.length:Nat), [(id,some (.arr sz ((cpL l 0 l.length x).map enc)))],id :: ids,nx):=by
 simp only [ev1,q4z,hx,hl]
 rw [if_pos ⟨trivial,by simp⟩]
 simp only [qoc,List.length_map]; rfl
theorem q9n{off n:Nat}{x:List α}(h:off+n<=l.length):(cpL l off n x).length=l.length:=q0p _ _ _ (by simp only [List.length_take]; omega)
def lenI(a b:List α):Option Unit:=if a.length=b.length then some ()else none
theorem qeo{a b:List α}{u:Unit}:lenI a b=some u↔a.length=b.length:=by
 unfold lenI; split <;> simp_all
theorem qup{z:α}{zero:List Value}{n m:Int}(hz:litsD zero=enc z)(h:mkI z n m=some l):ev1 c (.makeSlice zero) [some (tI k n),some (tI k2 m)] H nx=some (.c (.osl zero.length nx 0 (l.map enc).length), [(nx,some (.arr zero.length (l.map enc)))], [],nx+1):=by
 unfold mkI at h
 split at h
 ·rename_i hb
  obtain rfl:=Option.some.inj h
  simp only [ev1,intOf?]
  rw [if_pos (by simpa [lim]using hb),hz]
  simp
 ·simp at h
end
end
structure Mp (K V:Type) where
 es:List (K×V×Nat)
 clock:Nat
def Mp.none{K V:Type}:Mp K V:=⟨[],0⟩
instance {K V:Type}:Inhabited (Mp K V):=⟨.none⟩
section
variable {κ ν:Type}
def q2i [DecidableEq κ] (k:κ):List (κ×ν×Nat)->Nat->Option (Nat×κ×ν×Nat)
 | [],_=>none
 | e :: r,i=>if k=e.1 then some (i,e)else q2i k r (i+1)
def mpGet [DecidableEq κ] (m:Mp κ ν)(z:ν)(k:κ):ν:=match q2i k m.es 0 with | some (_,e)=>e.2.1 | none=>z
def mpHas [DecidableEq κ] (m:Mp κ ν)(k:κ):Bool:=(q2i k m.es 0).isSome
def mpEnt [DecidableEq κ] (m:Mp κ ν)(z:ν)(k:κ):Mp κ ν×ν×Int:=match q2i k m.es 0 with | some (_,e)=>(m,e.2.1,e.2.2) | none=>(⟨m.es++ [(k,z,m.clock)],m.clock+1⟩,z,m.clock)
def mpPut:List (κ×ν×Nat)->Nat->ν->List (κ×ν×Nat)
 | [],_,_=> []
 | e :: r,0,v=>(e.1,v,e.2.2) :: r
 | e :: r,i+1,v=>e :: mpPut r i v
def mpSet(m:Mp κ ν)(s:Int)(v:ν):Option (Mp κ ν):=(m.es.findIdx? (λe=>decide ((e.2.2:Int)=s))).map λi=>⟨mpPut m.es i v,m.clock⟩
def mpE(ek:κ->List Value)(ev:ν->List D)(e:κ×ν×Nat):MEnt:=(ek e.1,ev e.2.1,e.2.2)
def mpO(ka va:Bool)(ek:κ->List Value)(ev:ν->List D)(m:Mp κ ν):Option Ob:=some (.map ka va (m.es.map (mpE ek ev)) m.clock)
variable {ek:κ->List Value}{ev:ν->List D}{ks:List Kd}{ka va:Bool}
theorem q3w [DecidableEq κ] {k:κ}:∀ {l:List (κ×ν×Nat)} {i j:Nat} {e:κ×ν×Nat},q2i k l i=some (j,e)->i<=j/\l[j - i]? =some e/\e.1=k:=by
 intro l
 induction l with
 | nil=>intro i j e h; simp [q2i]at h
 | cons x l ih=>
  intro i j e h
  simp only [q2i]at h
  split at h
  ·rename_i hk
   obtain ⟨rfl,rfl⟩:i=j/\x=e:=by simpa using h
   exact ⟨Nat.le_refl _,by simp,hk.symm⟩
  ·obtain ⟨h1,h2,h3⟩:=ih h
   have e1:j - i=(j - (i+1))+1:=by omega
   exact ⟨by omega,by rw [e1]; simpa using h2,h3⟩
theorem qdr [DecidableEq κ] (heq:∀a b,eqVs ks (ek a) (ek b)=some (decide (a=b)))(k:κ):∀(l:List (κ×ν×Nat)) (i:Nat),findE ks (ek k) (l.map (mpE ek ev)) i=some ((q2i k l i).map (·.1)):=by
 intro l
 induction l with
 | nil=>intro i; rfl
 | cons x l ih=>
  intro i
  simp only [List.map_cons,findE,q2i]
  have:(mpE ek ev x).1=ek x.1:=rfl
  rw [this,heq]
  by_cases h:k=x.1
  ·simp [h]
  ·simp [h,ih]
theorem qdw{l:List (κ×ν×Nat)}{j:Nat}{e:κ×ν×Nat}(h:l[j]? =some e):(l.map (mpE ek ev)).getD j default=mpE ek ev e:=by
 simp [List.getD_eq_getElem?_getD,h]
variable {m:Mp κ ν}{z:ν}{k:κ}{zero:List Value}{tv:ν->TV}{kt:TV}{H:Heap}{id nx:Nat}{c:Call}
theorem qw3 [DecidableEq κ] (hl:look H id=mpO ka va ek ev m)(hk:keyTV ka ks kt=some (ek k))(heq:∀a b,eqVs ks (ek a) (ek b)=some (decide (a=b)))(hz:litsD zero=ev z)(hv:∀x,valTV va (ev x)=some (tv x)):
  ev1 c (.lookup ka ks va zero false) [some (.c (.om id)),some kt] H nx=some (tv (mpGet m z k), [], [id],nx):=by
 have h:=qdr (ev:=ev) heq k m.es 0
 simp only [ev1,q1u,hk,hl,mpO,and_self,if_true,h]
 unfold mpGet
 cases hf:q2i k m.es 0 with
 | none=>simp only [Option.map_none,hz,hv,Bool.false_eq_true,if_false]
 | some p=>
  obtain ⟨j,e⟩:=p
  obtain ⟨_,h2,_⟩:=q3w hf
  rw [Nat.sub_zero]at h2
  simp only [Option.map_some,qdw h2,mpE,hv,Bool.false_eq_true,if_false]
theorem qu5 [DecidableEq κ] (hl:look H id=mpO ka va ek ev m)(hk:keyTV ka ks kt=some (ek k))(heq:∀a b,eqVs ks (ek a) (ek b)=some (decide (a=b)))(hz:litsD zero=ev z)(hv:∀x,valTV va (ev x)=some (tv x)):
  ev1 c (.lookup ka ks va zero true) [some (.c (.om id)),some kt] H nx=some (.tup [tv (mpGet m z k),tB (mpHas m k)], [], [id],nx):=by
 have h:=qdr (ev:=ev) heq k m.es 0
 simp only [ev1,q1u,hk,hl,mpO,and_self,if_true,h]
 unfold mpGet mpHas
 cases hf:q2i k m.es 0 with
 | none=>simp only [Option.map_none,hz,hv,Option.isSome_none,lv]
 | some p=>
  obtain ⟨j,e⟩:=p
  obtain ⟨_,h2,_⟩:=q3w hf
  rw [Nat.sub_zero]at h2
  simp only [Option.map_some,qdw h2,mpE,hv,Option.isSome_some,lv]
theorem ent_m [DecidableEq κ] (hl:look H id=mpO ka va ek ev m)(hk:keyTV ka ks kt=some (ek k))(heq:∀a b,eqVs ks (ek a) (ek b)=some (decide (a=b)))(hz:litsD zero=ev z)(hv:∀x,valTV va (ev x)=some (tv x)):
  ev1 c (.mapEntry ka ks va zero) [some (.c (.om id)),some kt] H nx=some (.tup [tv (mpEnt m z k).2.1,tI .i64 (mpEnt m z k).2.2], [(id,mpO ka va ek ev (mpEnt m z k).1)], [id],nx):=by
 have h:=qdr (ev:=ev) heq k m.es 0
 simp only [ev1,q4s,hk,hl,mpO,and_self,if_true,h]
 unfold mpEnt
 cases hf:q2i k m.es 0 with
 | none=>
  simp only [Option.map_none,hz,hv,lv,List.map_append,List.map_cons,List.map_nil,mpE]
 | some p=>
  obtain ⟨j,e⟩:=p
  obtain ⟨_,h2,_⟩:=q3w hf
  rw [Nat.sub_zero]at h2
  simp only [Option.map_some,qdw h2,mpE,hv,lv]
theorem qm6{ds:List D}{v:ν}(hd:ev v=ds):∀ {l:List (κ×ν×Nat)} {i:Nat},i < l.length->
  (l.map (mpE ek ev)).set i (((l.map (mpE ek ev)).getD i default).1,ds,((l.map (mpE ek ev)).getD i default).2.2)=(mpPut l i v).map (mpE ek ev):=by
 intro l
 induction l with
 | nil=>intro i h; simp at h
 | cons x l ih=>
  intro i h
  cases i with
  | zero=>simp [mpPut,mpE,hd]
  | succ i=>
   have:=ih (i:=i) (by simpa using h)
   simp only [List.map_cons,List.set_cons_succ,List.getD_cons_succ,mpPut]
   rw [this]
theorem est_m{m':Mp κ ν}{s:Int}{v:ν}{n:Nat}{xv:TV}{kd:IntKind}(hs:mpSet m s v=some m')(hl:look H id=mpO ka va ek ev m)(hx:(cellsOf xv).bind dsOf=some (ev v))(hn:(ev v).length=n)(ha:qd7 xv=va):
  ev1 c (.entryStore va n) [some (.c (.om id)),some (tI kd s),some xv] H nx=some (.tup [], [(id,mpO ka va ek ev m')], [id],nx):=by
 unfold mpSet at hs
 obtain ⟨i,hi,rfl⟩:=Option.map_eq_some_iff.1 hs
 have hf:(m.es.map (mpE ek ev)).findIdx? (λe=>decide ((e.2.2:Int)=s))=some i:=by
  rw [List.findIdx?_map]; exact hi
 have hlt:i < m.es.length:=by
  obtain ⟨h1,_⟩:=List.findIdx?_eq_some_iff_getElem.1 hi
  exact h1
 simp only [ev1,q4a,intOf?,hx,hl,mpO,hn,ha,and_self,if_true,hf,qm6 (ek:=ek) (ev:=ev) (v:=v) rfl hlt]
end
end Go.Ev

namespace Go.Ev
open Go.ChangeShapes Go.WideShapes Go.ChangeAt Go.RowKit
def S0(w:World)(b:Nat):Prop:=b < w.heap.size
def Cells(w:World)(cs:List Value)(ds:List D):Prop:=cs.length=ds.length/\∀(j:Nat) (d:D) (v:Value),ds[j]? =some d->cs[j]? =some v->RD (S0 w) w d v
def Opens(P:Program)(t:TypeId){α:Type}(enc:α->List D)(fit:α->Prop):Prop:=
 ∀(H:Type) (e:TypeId×Value->H) (w:World) (fuel:Nat) (cs:List Value) (x:DataW H×List MemPlace),DataW.trod e P w 0 (λ_=>true) true fuel t cs=some x->∃a,fit a/\Cells w cs (enc a)
section
variable {P:Program}{t e:TypeId}
theorem Cells.one{w:World}{v:Value}{d:D}(h:RD (S0 w) w d v):Cells w [v] [d]:=by
 refine ⟨rfl,λj d' v' hd hv=> ?_⟩
 cases j with
 | zero=>
  obtain rfl:=Option.some.inj hd
  obtain rfl:=Option.some.inj hv
  exact h
 | succ j=>simp at hd
theorem Cells.app{w:World}{cs:List Value}{n:Nat}{a b:List D}(h1:Cells w (cs.take n) a)(h2:Cells w (cs.drop n) b)(hn:n<=cs.length):Cells w cs (a++b):=by
 have l1:n=a.length:=by rw [<- h1.1]; simp; omega
 refine ⟨by have:=h1.1; have:=h2.1; simp at *; omega,λj d v hd hv=> ?_⟩
 by_cases hj:j < a.length
 ·rw [List.getElem?_append_left hj]at hd
  exact h1.2 j d v hd (by rw [List.getElem?_take,if_pos (by omega)]; exact hv)
 ·rw [List.getElem?_append_right (by omega)]at hd
  refine h2.2 (j - a.length) d v hd ?_
  rw [List.getElem?_drop,l1,show a.length+(j - a.length)=j by omega]; exact hv
theorem Cells.nil{w:World}{cs:List Value}(h:cs.length=0):Cells w cs []:=⟨h,λj d v hd=>by simp at hd⟩
theorem qpb{k:IntKind}(ht:P.underlying t=some (.int k)):Opens P t (λx:Int=> [dI k x]) (λx=>k.min<=x/\x<=k.max):=by
 intro H en w fuel cs x h
 obtain ⟨n,rfl,_,hw⟩:=DataW.trod_int ht h
 exact ⟨n,by simpa [Lit.wf]using hw, .one (.lit rfl)⟩
theorem qjs(ht:P.underlying t=some .bool):Opens P t (λx:Bool=> [dB x]) (λ_=>True):=by
 intro H en w fuel cs x h
 obtain ⟨n,rfl,_⟩:=DataW.trod_bool ht h
 exact ⟨n,trivial, .one (.lit rfl)⟩
theorem qg0(ht:P.underlying t=some .string):Opens P t (λx:ByteArray=> [dS x]) (λs=>s.size<=maxLen):=by
 intro H en w fuel cs x h
 obtain ⟨n,rfl,_,hm⟩:=DataW.trod_string ht h
 exact ⟨n,hm, .one (.lit rfl)⟩
theorem qh1{k:FloatKind}(ht:P.underlying t=some (.float k)):Opens P t (λx:Nat=> [D.lit (.float k x)]) (λb=>(Lit.float k b).wf=true):=by
 intro H en w fuel cs x h
 cases fuel with
 | zero=>simp [DataW.trod]at h
 | succ n=>
  unfold DataW.trod at h
  simp only [ht]at h
  match cs,h with
  | [.float k' b],h=>
   simp only at h
   split at h
   ·rename_i hw
    obtain ⟨rfl,hw⟩:=hw
    exact ⟨b,hw, .one (.lit rfl)⟩
   ·simp at h
theorem qgy{α:Type} [Inhabited α] {enc:α->List D}{fit:α->Prop}{sz:Nat}(ht:P.underlying t=some (.slice e))(hc:P.cellsOf e=sz)(hsz:0 < sz)(hlen:∀a,(enc a).length=sz)(he:Opens P e enc fit):
  Opens P t (λs:Sl α=> [slD sz enc s]) (λs=>s.l.length<=maxLen/\∀x∈s.l,fit x):=by
 intro H en w fuel cs x h
 rcases Go.Deep.open_slice ht h with ⟨rfl,_⟩ | ⟨a,len,cap,m,n,D',Pl,rfl,hb,hl,hmax,hm,_,hx⟩
 ·exact ⟨.nil,⟨by simp [Sl.l],by simp [Sl.l]⟩, .one (.lit rfl)⟩
 ·simp only [if_true]at hm
  rw [hm]at hx
  have hx':∀i,i < len->∃y,fit y/\∃cs',w.cells? 0 (a.add (i * sz)) sz=some cs'/\Cells w cs' (enc y):=by
   intro i hi
   obtain ⟨cs',h1,h2⟩:=hx i (by omega)
   obtain ⟨y,h3,h4⟩:=he H en w n cs' _ h2
   rw [hc]at h1
   exact ⟨y,h3,cs',h1,h4⟩
  have hch:∃Y:Nat->α,∀i,i < len->fit (Y i)/\∃cs',w.cells? 0 (a.add (i * sz)) sz=some cs'/\Cells w cs' (enc (Y i)):=by
   refine ⟨λi=>if hi:i < len then Classical.choose (hx' i hi)else default,λi hi=> ?_⟩
   simp only [dif_pos hi]
   exact Classical.choose_spec (hx' i hi)
  obtain ⟨Y,hY⟩:=hch
  refine ⟨.mk ((List.range len).map Y),⟨by simp [Sl.l]; omega,λx hx=> ?_⟩, .one ?_⟩
  ·simp only [Sl.l,List.mem_map,List.mem_range]at hx
   obtain ⟨i,hi,rfl⟩:=hx
   exact (hY i hi).1
  ·simp only [slD]
   have hrow:∀(i:Nat) (r:List D),(((List.range len).map Y).map enc)[i]? =some r->i < len/\r=enc (Y i):=by
    intro i r hi
    rw [List.getElem?_map,List.getElem?_map]at hi
    by_cases hlt:i < len
    ·rw [List.getElem?_range hlt]at hi
     exact ⟨hlt,by simpa using hi.symm⟩
    ·rw [List.getElem?_eq_none (by simp; omega)]at hi
     simp at hi
   by_cases h0:cap=0
   ·obtain rfl:len=0:=by omega
    subst h0
    exact .sl0 hsz
   ·have hcell:∀i,i < cap->∃cs',w.cells? 0 (a.add (i * sz)) sz=some cs':=by
     intro i hi
     obtain ⟨cs',h1,h2⟩:=hx i hi
     rw [hc]at h1
     exact ⟨cs',h1⟩
    obtain ⟨cs0,h1⟩:=hcell 0 (by omega)
    obtain ⟨_,hl0,hc0⟩:=World.cells?_some h1
    have hz:=hc0 0 hsz
    rw [Nat.zero_mul]at hz
    have hadd:(a.add 0).add 0=a:=by simp [Addr.add]
    rw [hadd,List.getElem?_eq_getElem (by omega)]at hz
    obtain ⟨b,off,spot⟩:=a
    have hsp:spot=none/\b < w.heap.size:=by
     unfold World.cell? at hz
     split at hz
     ·rename_i hh
      split at hz
      ·simp at hz
      ·rename_i hs
       refine ⟨by simpa using hs,(Array.getElem?_eq_some_iff.1 hh).1⟩
     ·simp at hz
    obtain ⟨rfl,hblk⟩:=hsp
    have key:∀(i:Nat) (r:List D),(((List.range len).map Y).map enc)[i]? =some r->∀(j:Nat) (x:D),r[j]? =some x->∃v,w.cell? ⟨b,off+i * sz+j,none⟩=some v/\RD (S0 w) w x v:=by
     intro i r hi j x hj
     obtain ⟨hlt,rfl⟩:=hrow i r hi
     obtain ⟨_,cs',h2,h3⟩:=hY i hlt
     obtain ⟨_,h4,h5⟩:=World.cells?_some h2
     have hjl:j < sz:=by rw [<- hlen (Y i)]; exact (List.getElem?_eq_some_iff.1 hj).1
     have h6:=h5 j hjl
     rw [q6p,q6p,List.getElem?_eq_getElem (by omega)]at h6
     exact ⟨_,h6,h3.2 j x _ hj (List.getElem?_eq_getElem (by omega))⟩
    have hh:=RD.sl (S:=S0 w) (w:=w) (sz:=sz) (rows:=((List.range len).map Y).map enc) (b:=b) (off:=off) (cap:=cap) (λi j=>(w.cell? ⟨b,off+i * sz+j,none⟩).getD undef) hblk hsz (by simp; omega)
     (λi r hi=>by obtain ⟨_,rfl⟩:=hrow i r hi; exact hlen _) (λi r hi j x hj=>by obtain ⟨v,h2,_⟩:=key i r hi j x hj; rw [h2]; rfl) (λi r hi j x hj=>by obtain ⟨v,h2,h3⟩:=key i r hi j x hj; rw [h2]; exact h3)
    simpa using hh
theorem qh8{H:Type}{en:TypeId×Value->H}{w:World}{fuel:Nat}{cs:List Value}{x:DataW H×List MemPlace}{fs:Array Field}(ht:P.underlying t=some (.struct fs))(h:DataW.trod en P w 0 (λ_=>true) true fuel t cs=some x){i:Nat}{f:Field}(hi:fs[i]? =some f)
  {α:Type} {enc:α->List D} {fit:α->Prop} (ho:Opens P f.type enc fit):∃a,fit a/\Cells w ((cs.drop f.offset).take (P.cellsOf f.type)) (enc a):=by
 obtain ⟨xs,n,rfl,_,hl,hxl,hf⟩:=DataW.trod_struct ht h
 have h1:=hf i f hi
 have hlt:i < xs.length:=by rw [hxl]; exact (Array.getElem?_eq_some_iff.1 hi).1
 rw [List.getElem?_eq_getElem hlt]at h1
 exact ho H en w n _ _ h1
theorem qkc{H:Type}{en:TypeId×Value->H}{w:World}{fuel:Nat}{cs:List Value}{x:DataW H×List MemPlace}{fs:Array Field}(ht:P.underlying t=some (.struct fs))(h:DataW.trod en P w 0 (λ_=>true) true fuel t cs=some x):cs.length=P.cellsOf t:=by
 obtain ⟨xs,n,rfl,_,hl,_⟩:=DataW.trod_struct ht h
 exact hl
theorem qoj{H:Type}{en:TypeId×Value->H}{w:World}{fuel:Nat}{cs:List Value}{x:DataW H×List MemPlace}{n:Nat}(ht:P.underlying t=some (.array n e))(h:DataW.trod en P w 0 (λ_=>true) true fuel t cs=some x):cs.length=P.cellsOf t:=by
 obtain ⟨_,_,_,_,hl,_⟩:=DataW.trod_array ht h
 exact hl
theorem qks{H:Type}{en:TypeId×Value->H}{w:World}{fuel:Nat}{cs:List Value}{x:DataW H×List MemPlace}{n:Nat}(ht:P.underlying t=some (.array n e))(h:DataW.trod en P w 0 (λ_=>true) true fuel t cs=some x){i:Nat}(hi:i < n)
  {α:Type} {enc:α->List D} {fit:α->Prop} (ho:Opens P e enc fit):∃a,fit a/\Cells w ((cs.drop (i * P.cellsOf e)).take (P.cellsOf e)) (enc a):=by
 obtain ⟨xs,m,_,_,_,hxl,hf⟩:=DataW.trod_array ht h
 have h1:=hf i hi
 have hlt:i < xs.length:=by omega
 rw [List.getElem?_eq_getElem hlt]at h1
 exact ho H en w m _ _ h1
theorem Cells.field{w:World}{cs:List Value}{off n m:Nat}{a b:List D}(h1:Cells w ((cs.drop off).take n) a)(hm:off+n=m)(h2:Cells w (cs.drop m) b)(hl:m<=cs.length):Cells w (cs.drop off) (a++b):=by
 refine Cells.app h1 ?_ (by simp; omega)
 rw [List.drop_drop,hm]; exact h2
theorem qdx{w:World}{r:Reach}{b:Nat}{v:Value}(h:Value.okWide P w r b t v)(hs:match P.underlying t with | some (.struct _) | some (.array _ _) | some (.interface _) | some (.func ..) | some (.chan ..) | some .unsafePointer | some (.map _ _)=>False | _=>True):one v=true:=by
 unfold Value.okWide at h
 split at h
 ·rename_i he; rw [he]at hs; exact hs.elim
 ·rename_i he; rw [he]at hs; exact hs.elim
 ·unfold Cell.okWide at h
  split at h
  all_goals first
   | (rename_i he; rw [he]at hs; exact hs.elim)
   | skip
  unfold Cell.ok at h
  split at h <;> first | rfl | exact h.elim
theorem arg_d{α:Type}{d:α->D}{fit:α->Prop}(ho:Opens P t (λa=> [d a]) fit){w:World}{r:Reach}{b:Nat}{v:Value}(hv:Value.okWide P w r b t v)
  (hs:match P.underlying t with | some (.struct _) | some (.array _ _) | some (.interface _) | some (.func ..) | some (.chan ..) | some .unsafePointer | some (.map _ _)=>False | _=>True)
  {H:Type} {en:TypeId×Value->H} {x:DataW H} {ps:List MemPlace} (h:DataW.Trod en P w 0 (λ_=>true) true t v x ps):∃a,fit a/\RA (S0 w) w (.d (d a)) v []:=by
 obtain ⟨fuel,h⟩:=h
 obtain ⟨a,h1,h2⟩:=ho H en w fuel _ _ h
 have hone:=q9t (qdx hv hs)
 refine ⟨a,h1, ?_,rfl⟩
 exact h2.2 0 _ v rfl (by rw [hone]; rfl)
theorem qsp{α:Type}{enc:α->List D}{fit:α->Prop}(ho:Opens P t enc fit){w:World}{v:Value}{arr:Array Value}(hv:v= .agg arr)
  {H:Type} {en:TypeId×Value->H} {x:DataW H} {ps:List MemPlace} (h:DataW.Trod en P w 0 (λ_=>true) true t v x ps):∃a,fit a/\RA (S0 w) w (.agg (enc a)) v []:=by
 subst hv
 obtain ⟨fuel,h⟩:=h
 obtain ⟨a,h1,h2⟩:=ho H en w fuel _ _ h
 have h3:(Value.agg arr).cells.toList=arr.toList:=rfl
 rw [h3]at h2
 refine ⟨a,h1,arr,rfl,by have:=h2.1; simpa using this.symm,λi d hi=> ?_,rfl⟩
 have hlt:i < arr.size:=by have:=h2.1; have:=(List.getElem?_eq_some_iff.1 hi).1; simp at *; omega
 refine h2.2 i d _ hi ?_
 rw [Array.getElem?_toList,Array.getD_eq_getD_getElem?,Array.getElem?_eq_getElem hlt]; rfl
theorem qu4{α:Type}{enc:α->List D}{fit:α->Prop}(ho:Opens P t enc fit){w:World}{r:Reach}{b:Nat}{v:Value}(hv:Value.okWide P w r b t v){fs:Array Field}(hs:P.underlying t=some (.struct fs))
  {H:Type} {en:TypeId×Value->H} {x:DataW H} {ps:List MemPlace} (h:DataW.Trod en P w 0 (λ_=>true) true t v x ps):∃a,fit a/\RA (S0 w) w (.agg (enc a)) v []:=by
 unfold Value.okWide at hv
 rw [hs]at hv
 obtain ⟨arr,hv,_,_⟩:=hv
 exact qsp ho hv h
theorem quu{α:Type}{enc:α->List D}{fit:α->Prop}(ho:Opens P t enc fit){w:World}{r:Reach}{b:Nat}{v:Value}(hv:Value.okWide P w r b t v){n:Nat}(hs:P.underlying t=some (.array n e))
  {H:Type} {en:TypeId×Value->H} {x:DataW H} {ps:List MemPlace} (h:DataW.Trod en P w 0 (λ_=>true) true t v x ps):∃a,fit a/\RA (S0 w) w (.agg (enc a)) v []:=by
 unfold Value.okWide at hv
 rw [hs]at hv
 obtain ⟨arr,hv,_,_⟩:=hv
 exact qsp ho hv h
theorem qej{H:Type}{en:TypeId×Value->H}(hl:laidOutB P=true){W W':World}{sp:Nat->Bool}:∀ {ts:List TypeId} {vs:List Value} {ds:List (DataW H)} {ps:List MemPlace},ts.all (λt=>P.readableRec t && decide (t < P.types.size))=true->
  DataW.TrodAll en P W 0 (λ_=>true) true ts vs ds ps->(∀ p∈ps,W.sameAt W' p)->(∀ p∈ps,sp p.block=true)->DataW.TrodAll en P W' 0 sp true ts vs ds ps:=by
 intro ts
 induction ts with
 | nil=>intro vs ds ps _ h _ _; cases vs <;> cases ds <;> exact h
 | cons t ts ih=>
  intro vs ds ps hts h hsame hsp
  cases vs with
  | nil=>cases ds <;> exact h
  | cons v vs=>
   cases ds with
   | nil=>exact h
   | cons d ds=>
    obtain ⟨p,q,h1,h2,rfl⟩:=h
    simp only [List.all_cons,Bool.and_eq_true,decide_eq_true_eq]at hts
    exact ⟨p,q,WideElems.Trod_stays hl hts.1.1 hts.1.2 h1 (λx hx=>hsame x (List.mem_append_left _ hx)) (λx hx=>hsp x (List.mem_append_left _ hx)),
     ih hts.2 h2 (λx hx=>hsame x (List.mem_append_right _ hx)) (λx hx=>hsp x (List.mem_append_right _ hx)),rfl⟩
theorem qg8{P:Program}{H:Type}{enc:TypeId×Value->H}{f:Func}{s:ChangeSpec}{apart fresh handsOn again:Bool}{W W':World}{args:Array Value}{v:Value}{ds gs:List (DataW H)}{q11 pa pv:List MemPlace}
  (hW:DataW.Whole enc P f.params.toList s.vars apart W args.toList ds gs q11)
  (hres:∀(b:Nat) (sp:Nat->Bool) (hd:Bool),DataW.TrodAll enc P W' b sp hd f.resultTypes.toList (v.resultList f.resultTypes.size) (s.fn H (ds++gs)).results [])
  (hargs:∀sp:Nat->Bool,(∀ p∈q11,sp p.block=true)->DataW.TrodAll enc P W' 0 sp true f.params.toList args.toList (s.fn H (ds++gs)).args pa)
  (hvars:∀sp:Nat->Bool,(∀ p∈q11,sp p.block=true)->DataW.TrodVars enc P W' sp s.vars (s.fn H (ds++gs)).vars pv)
  (hps:q11=pa++pv) (hk:W.keptBut W' (·∈q11)) (hfz:∀a,a.block < W.heap.size->W'.frozen? a=W.frozen? a)
  (hok:∀(j:Nat) (t:TypeId) (r:Value),f.resultTypes[j]? =some t->(v.resultList f.resultTypes.size)[j]? =some r->Value.okWide P W' .any 0 t r):
  s.post enc P f apart fresh handsOn again W args v W':=by
 have hold:∀p∈q11,(λb=>decide (b < W.heap.size)) p.block=true:=λp hp=>by simpa using hW.lt p hp
 refine ⟨ds,gs,q11, [],pa,pv,hW,hres _ _ _,hargs _ hold,hvars _ hold,World.keptBut_mono (λp hp=>⟨hp, ?_⟩) hk,λ_=> ?_⟩
 ·rw [hps,List.mem_append]at hp
  exact Or.inr hp
 ·have hlt:=λp hp=>hW.lt p hp
  obtain ⟨_,_,_,_,_,hz,hn⟩:=hW
  refine ⟨hok,_,_,([]++pa)++pv,⟨[]++pa,pv,trodAll_append (hargs _ (λ_ _=>rfl)) (hres _ _ _),hvars _ (λ_ _=>rfl),rfl, ?_, ?_⟩, ?_⟩
  ·intro b off hp
   rw [hfz _ (hlt _ (by rw [hps]; simpa using hp))]
   exact hz b off (by rw [hps]; simpa using hp)
  ·intro ha
   have:=hn ha
   rw [hps]at this
   simpa using this
  ·intro p hp _
   rw [hps]
   simpa using hp
theorem qin {f : FuncId} {fn : Func} {s : ChangeSpec} {apart fresh handsOn again : Bool} {tb : TypeId} {H : Type} {en : TypeId × Value → H} (hl : laidOutB P = true) (hfn : P.funcs[f]? = some fn) (hbody : fn.body.isSome = true) (hname : (fn.name == "runtime.NumGoroutine") = false)
  (hts:fn.params.toList.all (λt=>P.readableRec t && decide (t < P.types.size))=true) (hrt:fn.resultTypes=#[tb]) (htb:P.underlying tb=some .bool) (hvars:s.vars= [])
  {W:World} {args:Array Value} {ds gs:List (DataW H)} {q11:List MemPlace} (hW:DataW.Whole en P fn.params.toList s.vars apart W args.toList ds gs q11)
  (hspec:(s.fn H (ds++gs)).results= [.lit (.bool true)]/\(s.fn H (ds++gs)).args=ds/\(s.fn H (ds++gs)).vars= [])
  (hgl:Glob (S0 W) W) (hG:∃as,RAs (S0 W) W as args.toList []/\Good P f as [.c (.d (.lit (.bool true)))] []):
  Calls P f args W λe W'=>∃v,e= .returned v/\s.post en P fn apart fresh handsOn again W args v W':=by
 obtain ⟨as,hras,hgood⟩:=hG
 have hent:=hgood (S0 W) W args.toList [] (λb hb=>hb) hras List.nodup_nil (λb hb=>by simp at hb) hgl
 have hcall:(callFunc f args).run P W= .ok (.enter f args) W:=by
  have hb:∃c,fn.body=some c:=Option.isSome_iff_exists.1 hbody
  obtain ⟨c,hb⟩:=hb
  simp [callFunc,run_program,hfn,hb]
  intro e
  rw [e]at hname
  simp at hname
 rw [Array.toArray_toList]at hent
 rcases hent with ⟨g,as',h1,h2⟩ | ⟨v,h1,_⟩
 ·rw [hcall]at h1
  obtain ⟨⟨rfl,rfl⟩,_⟩:(f=g/\args=as')/\True:=by simpa using h1
  refine h2.mono λe W' hp=> ?_
  obtain ⟨v,rfl,S',rvs,fp1,fp2,rfl,hst,hsub,hlt,hrr,hrt',hnd,hb,hfrm⟩:=hp
  have hv:qeu rvs= .bool true:=by
   cases rvs with
   | nil=>exact hrr.elim
   | cons v rvs=>
    obtain ⟨f1,f2,_,h3,h4⟩:=hrr
    cases rvs with
    | cons _ _=>exact h4.elim
    | nil=>
     cases h3 with
     | d h5=>cases h5; rfl
  refine ⟨_,rfl, ?_⟩
  rw [hv]
  have hheap:∀b,b < W.heap.size->W'.heap[b]? =W.heap[b]? :=λb hb=>hst.same b hb
  obtain ⟨p,q,hA,hV,hpq,hfz,hno⟩:=id hW
  have hV':DataW.TrodVars en P W (λ_=>true) [] gs q:=by rw [<- hvars]; exact hV
  obtain ⟨rfl,rfl⟩:=trodVars_none hV'
  have hkept:∀may:MemPlace->Prop,W.keptBut W' may:=by
   intro may
   refine ⟨hfrm.io.1,hfrm.io.2.1,λi hi=> ?_⟩
   have:=hheap i hi
   rw [this]
   cases hx:W.heap[i]? with
   | none=>trivial
   | some o=>cases o <;> simp
  refine qg8 (pa:=q11) (pv:= []) hW (λ_ _ _=> ?_) (λsp hsp=> ?_) (λ_ _=> ?_) (by simp) (hkept _) hfrm.frz ?_
  ·rw [hspec.1,hrt]
   exact trodAll_cons_mk (shut_bool htb _) trodAll_mk0
  ·rw [hspec.2.1]
   have hbp:q11=p:=by rw [hpq,List.append_nil]
   refine qej hl hts (by rw [hbp]; exact hA) (λx hx=> ?_) hsp
   have hx':=hW.lt x hx
   have hs:=hheap x.block hx'
   cases x with
   | cell b off=>exact cell?_same hs off
   | map b=>exact hs
  ·rw [hspec.2.2,hvars]; rfl
  ·exact ok_one hrt rfl (okWide_bool_mk htb _)
 ·rw [hcall]at h1
  simp at h1
end
theorem qg7{S:Nat->Prop}{w:World}(h:∀g,glb g=none):Glob S w:=λg d hg=>by rw [h g]at hg; simp at hg
end Go.Ev
