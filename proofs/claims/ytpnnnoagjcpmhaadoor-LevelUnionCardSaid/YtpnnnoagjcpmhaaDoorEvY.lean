/- Typed data over the abstract machine, and what its operations do to it. Conditions: as stated. -/
import Derived.Test.YtpnnnoagjcpmhaaDoorEvW
import Derived.OpenShut
import Derived.WideKeyArgs
import Derived.Deep.Slices
import Derived.ProofKit
import Derived.WalkKit
import Derived.JoinedCond
open Array renaming getElem?_eq_some_iff->be
open BitVec renaming ofInt->bt
open Bool renaming false_eq_true->aN
open List renaming getD->jl,getD_eq_getElem?_getD->ck,getElem?_eq_getElem->au,getElem?_eq_some_iff->ai,getElem?_map->aD,length_map->aI,length_nil->fI,map_cons->aq,map_drop->fx,map_take->fZ,mem_append_left->aE,mem_append_right->aC,range->bh
open Nat renaming sub_zero->iq
open Option renaming map_eq_some_iff->aB,map_none->jg,map_some->bB
open Option.some renaming inj->aa,injEq->bl
noncomputable section
namespace Go.Ev
inductive Sl(α:Type)where
 |nil
 |mk (l:List α)
 deriving Inhabited,DecidableEq
def Sl.l{α:Type}:Sl α->List α
 |.nil=>[]
 |.mk l=>l
@[simp] theorem Sl.m8 {α:Type} (l:List α):(Sl.mk l).l=l:=rfl
@[simp] theorem Sl.PH {α:Type}:(Sl.nil:Sl α).l=[]:=rfl
def Sl.eC{α:Type}:Sl α->Bool
 |.nil=>true
 |.mk _=>false
abbrev dI(k:IntKind)(n:Int):D:=.lit (.int k n)
abbrev dB(b:Bool):D:=.lit (.bool b)
abbrev dS(s:ByteArray):D:=.lit (.string s)
abbrev tI(k:IntKind)(n:Int):TV:=.c (.d (.lit (.int k n)))
abbrev tB(b:Bool):TV:=.c (.d (.lit (.bool b)))
def tV{α:Type}(sz:Nat)(enc:α->List D):Sl α->D
 |.nil=>.lit (.slice none 0 0)
 |.mk l=>.sl sz (l.map enc)
def jm{α:Type}(sz:Nat)(enc:α->List D)(id:Nat):Sl α->C
 |.nil=>.d (.lit (.slice none 0 0))
 |.mk l=>.dz sz id 0 (l.map enc).length
def xD{α:Type}(sz:Nat)(enc:α->List D):Sl α->T
 |.nil=>.d (.lit (.slice none 0 0))
 |.mk l=>.sl sz (l.map enc)
abbrev wr(k:IntKind)(n:Int):Int:=k.wrap n
def Na(k:IntKind)(a b:Int):Int:=k.wrap (bt k.bits a&&&bt k.bits b).toNat
def M_:{f:IntKind->Int->Int->Int//f=Na}:=Classical.choice ⟨⟨_,rfl⟩⟩
def Hs(k:IntKind)(a b:Int):Int:=M_.1 k a b
theorem Fw:Hs=Na:=funext fun k=>funext fun a=>funext fun b=>congrFun (congrFun (congrFun M_.2 k) a) b
def P3(k:IntKind)(a b:Int):Int:=k.wrap (bt k.bits a|||bt k.bits b).toNat
def P2:{f:IntKind->Int->Int->Int//f=P3}:=Classical.choice ⟨⟨_,rfl⟩⟩
def Pb(k:IntKind)(a b:Int):Int:=P2.1 k a b
theorem Kt:Pb=P3:=funext fun k=>funext fun a=>funext fun b=>congrFun (congrFun (congrFun P2.2 k) a) b
def M8(k:IntKind)(a b:Int):Int:=k.wrap (bt k.bits a^^^bt k.bits b).toNat
def M7:{f:IntKind->Int->Int->Int//f=M8}:=Classical.choice ⟨⟨_,rfl⟩⟩
def OS(k:IntKind)(a b:Int):Int:=M7.1 k a b
theorem Mu:OS=M8:=funext fun k=>funext fun a=>funext fun b=>congrFun (congrFun (congrFun M7.2 k) a) b
def Cs(k:IntKind)(a b:Int):Int:=k.wrap (bt k.bits a&&&~~~bt k.bits b).toNat
def Cr:{f:IntKind->Int->Int->Int//f=Cs}:=Classical.choice ⟨⟨_,rfl⟩⟩
def qb(k:IntKind)(a b:Int):Int:=Cr.1 k a b
theorem xq:qb=Cs:=funext fun k=>funext fun a=>funext fun b=>congrFun (congrFun (congrFun Cr.2 k) a) b
def RM(k:IntKind)(a:Int):Int:=k.wrap (bt k.bits (if k.signed then-1 else k.max)^^^bt k.bits a).toNat
def OT(k:IntKind)(a b:Int):Int:=k.wrap (a*2^(min b.toNat k.bits))
def Ks(k:IntKind)(a b:Int):Int:=a.fdiv (2^(min b.toNat k.bits))
def OA(k:IntKind)(a b:Int):Option Int:=if b=0 then none else some (k.wrap (a.tdiv b))
def NE(_:IntKind)(a b:Int):Option Int:=if b=0 then none else some (a.tmod b)
def AV(k:IntKind)(a b:Int):Option Int:=if b<0 then none else some (OT k a b)
def NA(k:IntKind)(a b:Int):Option Int:=if b<0 then none else some (Ks k a b)
def OK(a b:ByteArray):Option ByteArray:=if((a.size+b.size:Nat):Int)>IntKind.i64.max then none else some (a++b)
def RN(s:ByteArray)(i:Int):Option Int:=if 0<=i then s[i.toNat]?.map fun b=>(b.toNat:Int)else none
def xK(s:ByteArray)(lo hi:Int):Option ByteArray:=if 0<=lo/\lo<=hi/\hi<=s.size then some (s.extract lo.toNat hi.toNat)else none
def HA{α:Type}(z:α)(l c:Int):Option (List α):=if 0<=l/\l<=c/\c<=2147483648 then some (List.replicate l.toNat z)else none
def Sl.to{α:Type}(s:Sl α)(r:List α):Sl α:=match s with|.nil=>.nil|.mk _=>.mk r
section
variable{c:Ev.Call}{H:bz}{nx:Nat}{k:IntKind}{a b x:Int}{s t u:ByteArray}
theorem Oo(h:OA k a b=some x):cm c (.xn .quo) [some (tI k a),some (tI k b)] H nx=some (tI k x,[],[],nx):=by
 unfold OA at h;split at h
 .simp at h
 .rename_i hb;obtain rfl:=aa h;simp[cm,l6,mL,hb,lv]
theorem On(h:NE k a b=some x):cm c (.xn .rem) [some (tI k a),some (tI k b)] H nx=some (tI k x,[],[],nx):=by
 unfold NE at h;split at h
 .simp at h
 .rename_i hb;obtain rfl:=aa h;simp[cm,l6,mL,hb,lv]
theorem Om{k2:IntKind}(h:AV k a b=some x):cm c (.xn .shl) [some (tI k a),some (tI k2 b)] H nx=some (tI k x,[],[],nx):=by
 unfold AV at h;split at h
 .simp at h
 .rename_i hb;obtain rfl:=aa h;simp[cm,l6,mL,hb,lv,OT]
theorem Ol{k2:IntKind}(h:NA k a b=some x):cm c (.xn .shr) [some (tI k a),some (tI k2 b)] H nx=some (tI k x,[],[],nx):=by
 unfold NA at h;split at h
 .simp at h
 .rename_i hb;obtain rfl:=aa h;simp[cm,l6,mL,hb,lv,Ks]
theorem Oq(h:OK s t=some u):cm c (.xn .add) [some (.c (.d (dS s))),some (.c (.d (dS t)))] H nx=some (.c (.d (dS u)),[],[],nx):=by
 unfold OK at h;split at h
 .simp at h
 .rename_i hb;obtain rfl:=aa h;simp only[cm,l6,mL];rw[if_neg hb];rfl
theorem PN(h:RN s a=some x):cm c .nJ [some (.c (.d (dS s))),some (tI k a)] H nx=some (tI .u8 x,[],[],nx):=by
 unfold RN at h;split at h
 .rename_i ha;obtain⟨y,hy,rfl⟩:=aB.1 h;simp only[cm,b_];rw[if_pos ha,hy];rfl
 .simp at h
end
def fD(i:Int)(n:Nat):Option Nat:=if 0<=i/\i<n then some i.toNat else none
theorem gV{i:Int}{n m:Nat}:fD i n=some m<->i=m/\m<n:=by
 unfold fD;split
 .simp only[bl];omega
 .simp only[reduceCtorEq,false_iff];omega
theorem bP{i n:Nat}(h:i<n):fD (i:Int) n=some i:=gV.2 ⟨rfl,h⟩
def gt{α:Type}[Inhabited α](l:List α)(n:Nat):α:=l.getD n default
theorem Oc{α:Type}[Inhabited α]{l:List α}{n:Nat}(h:n<l.length):l[n]?=some (gt l n):=by simp[gt,jl,h]
theorem eu{α:Type}[Inhabited α]{l:List α}{n:Nat}(h:n<l.length):gt l n=l[n]:=by simp[gt,jl,h]
theorem zW{α:Type}[Inhabited α]{l:List α}{n:Nat}{enc:α->List D}(h:n<l.length):(l.map enc)[n]?=some (enc (gt l n)):=by rw[aD,Oc h];rfl
def jT{α:Type}(l:List α):Option (List α):=if l.length<=2147483648 then some l else none
theorem ru{α:Type}{l m:List α}:jT l=some m<->l=m/\l.length<=2147483648:=by
 unfold jT;split
 .simp_all
 .rename_i hl;simp only[reduceCtorEq,false_iff,not_and];rintro rfl;omega
theorem jt{α:Type}{l:List α}(h:l.length<=2147483648):jT l=some l:=ru.2 ⟨rfl,h⟩
def rF{α:Type}(l:List α)(lo hi:Int):Option (List α):=if 0<=lo/\lo<=hi/\hi<=l.length then some ((l.drop lo.toNat).take (hi.toNat-lo.toNat))else none
theorem oZ{α β:Type}{x:Option α}{f:α->Option β}{r:β}(h:x.bind f=some r):∃a,x=some a/\f a=some r:=Option.bind_eq_some_iff.1 h
theorem rm{α:Type}{l:List α}{enc:α->List D}:((l.map enc).drop 0).take (l.map enc).length=l.map enc:=by rw[List.drop_zero,List.take_length]
theorem Mh{α:Type}{l:List α}{enc:α->List D}{a b:Nat}:((l.map enc).drop a).take b=((l.drop a).take b).map enc:=by rw[fZ,fx]
section
variable{α:Type}{c:Ev.Call}{H:bz}{nx sz id off len m n:Nat}{k:IntKind}{i:Int}{enc:α->List D}{s:Sl α}{l:List α}{agg:Bool}{v:TV}
theorem RY{k:Nat}(hl:av H id=some (.aJ sz (l.map enc))):dZ H k (.dz sz id 0 (l.map enc).length)=some (.sl sz (l.map enc),[id],[id]):=by
 have:dZ H k (.dz sz id 0 (l.map enc).length)=(if 0+(l.map enc).length<=(l.map enc).length then some (.sl sz (((l.map enc).drop 0).take (l.map enc).length),[id],[id])else none):=by cases k<;>simp only[dZ,hl]
 rw[this,if_pos (by omega),rm]
theorem OE{lo hi:Int}{r:List α}(hc:rF l lo hi=some r):lo.toNat+(r.map enc).length<=(l.map enc).length/\((l.map enc).drop lo.toNat).take (r.map enc).length=r.map enc:=by
 unfold rF at hc;split at hc
 .rename_i h;obtain rfl:=aa hc;refine⟨by simp;omega,?_⟩;rw[Mh];congr 1;simp
 .simp at hc
theorem Qh{bn rd:List Nat}{r:List (C×List Nat×List Nat)}(hl:av H id=some (.aJ sz (l.map enc)))(h:dU H r=true):dU H ((.dz sz id 0 (l.map enc).length,bn,rd)::r)=true:=by simp[dU,hl,h]
theorem PI[Inhabited α](h:fD i s.l.length=some n):cm c (.indexAddr none sz) [some (.c (.d (tV sz enc s))),some (tI k i)] H nx=some (.c (.d (.pt (enc (gt s.l n)))),[],[],nx):=by obtain⟨rfl,hn⟩:=gV.1 h;cases s with|nil=>simp[Sl.l]at hn|mk l=>have hn':n<l.length:=hn;simp only[cm,b_,gN,tV,Int.natCast_nonneg,and_self,if_true,Int.toNat_natCast];rw[zW hn'];rfl
theorem Rv(h:fD i l.length=some n):cm c (.indexAddr none sz) [some (.c (.dz sz id 0 (l.map enc).length)),some (tI k i)] H nx=some (.c (.ep id n 0),[],[],nx):=by obtain⟨rfl,hn⟩:=gV.1 h;simp only[cm,b_,gN,aI];rw[if_pos (by refine⟨by omega,by omega,?_⟩;trivial)];simp
theorem PJ(h:fD i l.length=some n):cm c (.indexAddr none sz) [some (.c (.dz sz id off (l.map enc).length)),some (tI k i)] H nx=some (.c (.ep id (off+n) 0),[],[],nx):=by obtain⟨rfl,hn⟩:=gV.1 h;simp only[cm,b_,gN,aI];rw[if_pos (by refine⟨by omega,by omega,?_⟩;trivial)];simp
theorem Jc{X:Prop}(h:fD i (Sl.l (Sl.nil:Sl α)).length=some n):X:=by obtain⟨_,hn⟩:=gV.1 h;simp[Sl.l]at hn
theorem Ld[Inhabited α]{cs:List C}{ds:List D}{aw:List Nat}{u:eG}{y:α}(hl:av H id=some (.aJ sz (l.map enc)))(hn:n<l.length)(hc:cellsOf v=some cs)(hm:cs.length=m)(hw:du H cs=some (ds,aw))(hf:de H aw aw=some u)
  (hid:aw.contains id=false) (hlen:off+m<=(enc (gt l n)).length)
  (hy:aX (enc (gt l n)) off ds=enc y):cm c (.store m) [some (.c (.ep id n off)),some v] H nx=some (.gR [],(id,some (.aJ sz ((l.set n y).map enc)))::u,id::aw,nx):=by
 simp only[cm,kF,hc,hm,if_true,hl,zW hn,hw,hf];rw[if_pos ⟨hlen,hid⟩,hy,List.map_set]
theorem N6:cm c (.len false) [some (.c (.d (tV sz enc s)))] H nx=some (tI .i64 s.l.length,[],[],nx):=by cases s with|nil=>rfl|mk l=>simp[cm,rO,tV,Sl.l,lv]
theorem MU:cm c (.len false) [some (.c (jm sz enc id s))] H nx=some (tI .i64 s.l.length,[],[],nx):=by cases s with|nil=>rfl|mk l=>simp[cm,rO,jm,Sl.l,lv]
theorem NW{neg:Bool}:cm c (.po 0 neg) [some (.c (.d (tV sz enc s)))] H nx=some (tB (if neg then !s.eC else s.eC),[],[],nx):=by cases s<;>rfl
theorem PE{neg:Bool}:cm c (.po 0 neg) [some (.c (jm sz enc id s))] H nx=some (tB (if neg then !s.eC else s.eC),[],[],nx):=by cases s<;>rfl
theorem Lm:ic sz H (.d (tV sz enc s))=some (s.l.map enc,[]):=by cases s with|nil=>rfl|mk l=>simp[ic,tV,Sl.l]
theorem nq{l r:List α}{lo hi:Int}:rF l lo hi=some r<->(0<=lo/\lo<=hi/\hi<=l.length)/\(l.drop lo.toNat).take (hi.toNat-lo.toNat)=r:=by
 unfold rF;split
 .rename_i h;simp[h]
 .rename_i h;simp[h]
theorem PZ{lo hi:Option Int}{r:List α}(hc:rF l (lo.getD 0) (hi.getD l.length)=some r):eX false sz (.dz sz id 0 (l.map enc).length) lo hi=some (.dz sz id (lo.getD 0).toNat (r.map enc).length):=by obtain⟨h,rfl⟩:=nq.1 hc;simp only[eX,aN,if_false,aI];rw[if_pos ⟨trivial,h⟩];simp;omega
theorem OC{lo hi:Option Int}{r:List α}(hc:rF s.l (lo.getD 0) (hi.getD s.l.length)=some r):eX false sz (.d (tV sz enc s)) lo hi=some (.d (tV sz enc (s.to r))):=by obtain⟨h,rfl⟩:=nq.1 hc;cases s with|nil=>simp only[Sl.l,fI]at h;simp only[eX,tV,aN,if_false];rw[if_pos ⟨h.1,h.2.1,by simpa using h.2.2⟩];rfl|mk l=>simp only[Sl.l]at h|-;simp only[eX,tV,aN,if_false,aI];rw[if_pos ⟨trivial,h.1,h.2.1,h.2.2⟩];simp[fZ,fx,Sl.to]
theorem J3{lo hi:Option Int}{r:List α}(hc:rF (Sl.l (Sl.nil:Sl α)) (lo.getD 0) (hi.getD (Sl.l (Sl.nil:Sl α)).length)=some r):eX false sz (.d (.lit (.slice none 0 0))) lo hi=some (.d (.lit (.slice none 0 0))):=by obtain⟨h,rfl⟩:=nq.1 hc;simp only[Sl.l,fI]at h;simp only[eX,aN,if_false];rw[if_pos ⟨h.1,h.2.1,by simpa using h.2.2⟩]
section
variable{r:List α}{i j:Int}{k k2:IntKind}
def J9(l:List α)(off n:Nat)(x:List α):List α:=aX l off (x.take n)
theorem D7{off n:Nat}{x:List α}:aX (l.map enc) off ((x.map enc).take n)=(J9 l off n x).map enc:=by simp[J9,aX]
theorem OF{xc:C}{x:List α}{aw:List Nat}(hl:av H id=some (.aJ sz (l.map enc)))(hx:ic sz H xc=some (x.map enc,aw)):
  cm c (.copy sz) [some (.c (.dz sz id 0 (l.map enc).length)),some (.c xc)] H nx=some (tI .i64 (min x.length l.length:Nat),[(id,some (.aJ sz ((J9 l 0 l.length x).map enc)))],id::aw,nx):=by
 simp only[cm,kK,hx,hl];rw[if_pos ⟨trivial,by simp⟩];simp only[D7,aI];rfl
theorem sB{off n:Nat}{x:List α}(h:off+n<=l.length):(J9 l off n x).length=l.length:=eg _ _ _ (by simp only[List.length_take];omega)
def DM(a b:List α):Option Unit:=if a.length=b.length then some ()else none
theorem yH{a b:List α}{u:Unit}:DM a b=some u<->a.length=b.length:=by unfold DM;split<;>simp_all
theorem Mb{z:α}{zero:List Value}{n m:Int}(hz:ce zero=enc z)(h:HA z n m=some l):cm c (.makeSlice zero) [some (tI k n),some (tI k2 m)] H nx=some (.c (.dz zero.length nx 0 (l.map enc).length),[(nx,some (.aJ zero.length (l.map enc)))],[],nx+1):=by
 unfold HA at h;split at h
 .rename_i hb;obtain rfl:=aa h;simp only[cm,b_];rw[if_pos (by simpa[xF]using hb),hz];simp
 .simp at h
end
end
structure Mp(K V:Type)where
 es:List (K×V×Nat)
 eH:Nat
def Mp.none{K V:Type}:Mp K V:=⟨[],0⟩
instance{K V:Type}:Inhabited (Mp K V):=⟨.none⟩
section
variable{κ ν:Type}
def gF[DecidableEq κ](k:κ):List (κ×ν×Nat)->Nat->Option (Nat×κ×ν×Nat)
 |[],_=>none
 |e::r,i=>if k=e.1 then some (i,e)else gF k r (i+1)
def mQ[DecidableEq κ](m:Mp κ ν)(z:ν)(k:κ):ν:=match gF k m.es 0 with|some (_,e)=>e.2.1|none=>z
def IR[DecidableEq κ](m:Mp κ ν)(k:κ):Bool:=(gF k m.es 0).isSome
def ky[DecidableEq κ](m:Mp κ ν)(z:ν)(k:κ):Mp κ ν×ν×Int:=match gF k m.es 0 with|some (_,e)=>(m,e.2.1,e.2.2)|none=>(⟨m.es++[(k,z,m.eH)],m.eH+1⟩,z,m.eH)
def qE:List (κ×ν×Nat)->Nat->ν->List (κ×ν×Nat)
 |[],_,_=>[]
 |e::r,0,v=>(e.1,v,e.2.2)::r
 |e::r,i+1,v=>e::qE r i v
def s_(m:Mp κ ν)(s:Int)(v:ν):Option (Mp κ ν):=(m.es.findIdx? (fun e=>decide ((e.2.2:Int)=s))).map fun i=>⟨qE m.es i v,m.eH⟩
def DI(ek:κ->List Value)(ev:ν->List D)(e:κ×ν×Nat):qT:=(ek e.1,ev e.2.1,e.2.2)
def CH(ka va:Bool)(ek:κ->List Value)(ev:ν->List D)(m:Mp κ ν):Option Ob:=some (.map ka va (m.es.map (DI ek ev)) m.eH)
variable{ek:κ->List Value}{ev:ν->List D}{ks:List Kd}{ka va:Bool}
theorem kW[DecidableEq κ]{k:κ}:∀{l:List (κ×ν×Nat)}{i j:Nat}{e:κ×ν×Nat},gF k l i=some (j,e)->i<=j/\l[j-i]?=some e/\e.1=k:=by
 intro l;induction l with
 |nil=>intro i j e h;simp[gF]at h
 |cons x l ih=>
  intro i j e h;simp only[gF]at h;split at h
  .rename_i hk;obtain⟨rfl,rfl⟩:i=j/\x=e:=by simpa using h
   exact⟨Nat.le_refl _,by simp,hk.symm⟩
  .obtain ⟨h1,h2,h3⟩:=ih h;have e1:j-i=(j-(i+1))+1:=by omega
   exact⟨by omega,by rw[e1];simpa using h2,h3⟩
theorem wW[DecidableEq κ](heq:∀a b,ft ks (ek a) (ek b)=some (decide (a=b)))(k:κ):∀(l:List (κ×ν×Nat))(i:Nat),lw ks (ek k) (l.map (DI ek ev)) i=some ((gF k l i).map (·.1)):=by
 intro l;induction l with
 |nil=>intro i;rfl
 |cons x l ih=>
  intro i;simp only[aq,lw,gF];have:(DI ek ev x).1=ek x.1:=rfl;rw[this,heq];by_cases h:k=x.1
  .simp [h]
  .simp [h,ih]
theorem w7{l:List (κ×ν×Nat)}{j:Nat}{e:κ×ν×Nat}(h:l[j]?=some e):(l.map (DI ek ev)).getD j default=DI ek ev e:=by simp[ck,h]
variable{m:Mp κ ν}{z:ν}{k:κ}{zero:List Value}{tv:ν->TV}{kt:TV}{H:bz}{id nx:Nat}{c:Call}
theorem NZ[DecidableEq κ](hl:av H id=CH ka va ek ev m)(hk:mR ka ks kt=some (ek k))(heq:∀a b,ft ks (ek a) (ek b)=some (decide (a=b)))(hz:ce zero=ev z)(hv:∀x,nw va (ev x)=some (tv x)):
  cm c (.lookup ka ks va zero false) [some (.c (.om id)),some kt] H nx=some (tv (mQ m z k),[],[id],nx):=by
 have h:=wW (ev:=ev) heq k m.es 0;simp only[cm,gx,hk,hl,CH,and_self,if_true,h];unfold mQ;cases hf:gF k m.es 0 with|none=>simp only[jg,hz,hv,aN,if_false]|some p=>obtain⟨j,e⟩:=p;obtain⟨_,h2,_⟩:=kW hf;rw[iq]at h2;simp only[bB,w7 h2,DI,hv,aN,if_false]
theorem LV[DecidableEq κ](hl:av H id=CH ka va ek ev m)(hk:mR ka ks kt=some (ek k))(heq:∀a b,ft ks (ek a) (ek b)=some (decide (a=b)))(hz:ce zero=ev z)(hv:∀x,nw va (ev x)=some (tv x)):
  cm c (.lookup ka ks va zero true) [some (.c (.om id)),some kt] H nx=some (.gR [tv (mQ m z k),tB (IR m k)],[],[id],nx):=by
 have h:=wW (ev:=ev) heq k m.es 0;simp only[cm,gx,hk,hl,CH,and_self,if_true,h];unfold mQ IR;cases hf:gF k m.es 0 with|none=>simp only[jg,hz,hv,Option.isSome_none,lv]|some p=>obtain⟨j,e⟩:=p;obtain⟨_,h2,_⟩:=kW hf;rw[iq]at h2;simp only[bB,w7 h2,DI,hv,Option.isSome_some,lv]
theorem PQ[DecidableEq κ](hl:av H id=CH ka va ek ev m)(hk:mR ka ks kt=some (ek k))(heq:∀a b,ft ks (ek a) (ek b)=some (decide (a=b)))(hz:ce zero=ev z)(hv:∀x,nw va (ev x)=some (tv x)):
  cm c (.mapEntry ka ks va zero) [some (.c (.om id)),some kt] H nx=some (.gR [tv (ky m z k).2.1,tI .i64 (ky m z k).2.2],[(id,CH ka va ek ev (ky m z k).1)],[id],nx):=by
 have h:=wW (ev:=ev) heq k m.es 0;simp only[cm,lA,hk,hl,CH,and_self,if_true,h];unfold ky;cases hf:gF k m.es 0 with|none=>simp only[jg,hz,hv,lv,List.map_append,aq,List.map_nil,DI]|some p=>obtain⟨j,e⟩:=p;obtain⟨_,h2,_⟩:=kW hf;rw[iq]at h2;simp only[bB,w7 h2,DI,hv,lv]
theorem Gx{ds:List D}{v:ν}(hd:ev v=ds):∀{l:List (κ×ν×Nat)}{i:Nat},i<l.length->
  (l.map (DI ek ev)).set i (((l.map (DI ek ev)).getD i default).1,ds,((l.map (DI ek ev)).getD i default).2.2)=(qE l i v).map (DI ek ev):=by
 intro l;induction l with
 |nil=>intro i h;simp at h
 |cons x l ih=>intro i h;cases i with|zero=>simp[qE,DI,hd]|succ i=>have:=ih (i:=i) (by simpa using h);simp only[aq,List.set_cons_succ,List.getD_cons_succ,qE];rw[this]
theorem PP{m':Mp κ ν}{s:Int}{v:ν}{n:Nat}{xv:TV}{kd:IntKind}(hs:s_ m s v=some m')(hl:av H id=CH ka va ek ev m)(hx:(cellsOf xv).bind w9=some (ev v))(hn:(ev v).length=n)(ha:vy xv=va):
  cm c (.entryStore va n) [some (.c (.om id)),some (tI kd s),some xv] H nx=some (.gR [],[(id,CH ka va ek ev m')],[id],nx):=by
 unfold s_ at hs;obtain⟨i,hi,rfl⟩:=aB.1 hs;have hf:(m.es.map (DI ek ev)).findIdx? (fun e=>decide ((e.2.2:Int)=s))=some i:=by rw[List.findIdx?_map];exact hi
 have hlt:i<m.es.length:=by obtain⟨h1,_⟩:=List.findIdx?_eq_some_iff_getElem.1 hi;exact h1
 simp only[cm,lB,b_,hx,hl,CH,hn,ha,and_self,if_true,hf,Gx (ek:=ek) (ev:=ev) (v:=v) rfl hlt]
end
open Go.ChangeShapes Go.WideShapes Go.ChangeAt Go.RowKit
def S0(w:World)(b:Nat):Prop:=b<w.heap.size
def jw(w:World)(cs:List Value)(ds:List D):Prop:=cs.length=ds.length/\∀(j:Nat)(d:D)(v:Value),ds[j]?=some d->cs[j]?=some v->RD (S0 w) w d v
def pz(P:Program)(t:TypeId){α:Type}(enc:α->List D)(fit:α->Prop):Prop:=∀(H:Type)(e:TypeId×Value->H)(w:World)(fuel:Nat)(cs:List Value)(x:DataW H×List MemPlace),DataW.trod e P w 0 (fun _=>true) true fuel t cs=some x->∃a,fit a/\jw w cs (enc a)
section
variable{P:Program}{t e:TypeId}
theorem jw.one{w:World}{v:Value}{d:D}(h:RD (S0 w) w d v):jw w [v] [d]:=by refine⟨rfl,fun j d' v' hd hv=>?_⟩;cases j with|zero=>obtain rfl:=aa hd;obtain rfl:=aa hv;exact h|succ j=>simp at hd
theorem jw.Pc{w:World}{cs:List Value}{n:Nat}{a b:List D}(h1:jw w (cs.take n) a)(h2:jw w (cs.drop n) b)(hn:n<=cs.length):jw w cs (a++b):=by
 have l1:n=a.length:=by rw[<-h1.1];simp;omega
 refine⟨by have:=h1.1;have:=h2.1;simp at*;omega,fun j d v hd hv=>?_⟩;by_cases hj:j<a.length
 .rw [List.getElem?_append_left hj]at hd;exact h1.2 j d v hd (by rw[List.getElem?_take,if_pos (by omega)];exact hv)
 .rw [List.getElem?_append_right (by omega)]at hd;refine h2.2 (j-a.length) d v hd ?_;rw[List.getElem?_drop,l1,show a.length+(j-a.length)=j by omega];exact hv
theorem jw.nil{w:World}{cs:List Value}(h:cs.length=0):jw w cs []:=⟨h,fun j d v hd=>by simp at hd⟩
theorem Gk{k:IntKind}(ht:P.underlying t=some (.int k)):pz P t (fun x:Int=>[dI k x]) (fun x=>k.min<=x/\x<=k.max):=by intro H en w fuel cs x h;obtain⟨n,rfl,_,hw⟩:=DataW.trod_int ht h;exact⟨n,by simpa[Lit.wf]using hw,.one (.lit rfl)⟩
theorem Dz(ht:P.underlying t=some .bool):pz P t (fun x:Bool=>[dB x]) (fun _=>True):=by intro H en w fuel cs x h;obtain⟨n,rfl,_⟩:=DataW.trod_bool ht h;exact⟨n,trivial,.one (.lit rfl)⟩
theorem zG(ht:P.underlying t=some .string):pz P t (fun x:ByteArray=>[dS x]) (fun s=>s.size<=maxLen):=by intro H en w fuel cs x h;obtain⟨n,rfl,_,hm⟩:=DataW.trod_string ht h;exact⟨n,hm,.one (.lit rfl)⟩
theorem Bm{k:FloatKind}(ht:P.underlying t=some (.float k)):pz P t (fun x:Nat=>[D.lit (.float k x)]) (fun b=>(Lit.float k b).wf=true):=by
 intro H en w fuel cs x h;cases fuel with
 |zero=>simp[DataW.trod]at h
 |succ n=>
  unfold DataW.trod at h;simp only[ht]at h
  match cs,h with
  |[.float k' b],h=>
   simp only at h;split at h
   .rename_i hw;obtain⟨rfl,hw⟩:=hw;exact⟨b,hw,.one (.lit rfl)⟩
   .simp at h
theorem Bl{α:Type}[Inhabited α]{enc:α->List D}{fit:α->Prop}{sz:Nat}(ht:P.underlying t=some (.slice e))(hc:P.cellsOf e=sz)(hsz:0<sz)(hlen:∀a,(enc a).length=sz)(he:pz P e enc fit):
  pz P t (fun s:Sl α=>[tV sz enc s]) (fun s=>s.l.length<=maxLen/\∀x∈s.l,fit x):=by
 intro H en w fuel cs x h;rcases Go.Deep.open_slice ht h with⟨rfl,_⟩|⟨a,len,cap,m,n,D',Pl,rfl,hb,hl,hmax,hm,_,hx⟩
 .exact ⟨.nil,⟨by simp[Sl.l],by simp[Sl.l]⟩,.one (.lit rfl)⟩
 .simp only[if_true]at hm;rw[hm]at hx;have hx':∀i,i<len->∃y,fit y/\∃cs',w.cells? 0 (a.add (i*sz)) sz=some cs'/\jw w cs' (enc y):=by intro i hi;obtain⟨cs',h1,h2⟩:=hx i (by omega);obtain⟨y,h3,h4⟩:=he H en w n cs' _ h2;rw[hc]at h1;exact⟨y,h3,cs',h1,h4⟩
  have hch:∃Y:Nat->α,∀i,i<len->fit (Y i)/\∃cs',w.cells? 0 (a.add (i*sz)) sz=some cs'/\jw w cs' (enc (Y i)):=by refine⟨fun i=>if hi:i<len then Classical.choose (hx' i hi)else default,fun i hi=>?_⟩;simp only[dif_pos hi];exact Classical.choose_spec (hx' i hi)
  obtain⟨Y,hY⟩:=hch;refine⟨.mk ((bh len).map Y),⟨by simp[Sl.l];omega,fun x hx=>?_⟩,.one ?_⟩
  .simp only[Sl.l,List.mem_map,List.mem_range]at hx;obtain⟨i,hi,rfl⟩:=hx;exact(hY i hi).1
  .simp only[tV]
   have hrow:∀(i:Nat)(r:List D),(((bh len).map Y).map enc)[i]?=some r->i<len/\r=enc (Y i):=by
    intro i r hi;rw[aD,aD]at hi;by_cases hlt:i<len
    .rw [List.getElem?_range hlt]at hi;exact⟨hlt,by simpa using hi.symm⟩
    .rw [List.getElem?_eq_none (by simp;omega)]at hi;simp at hi
   by_cases h0:cap=0
   .obtain rfl:len=0:=by omega
    subst h0;exact .q9 hsz
   .have hcell:∀i,i<cap->∃cs',w.cells? 0 (a.add (i*sz)) sz=some cs':=by intro i hi;obtain⟨cs',h1,h2⟩:=hx i hi;rw[hc]at h1;exact⟨cs',h1⟩
    obtain⟨cs0,h1⟩:=hcell 0 (by omega);obtain⟨_,hl0,hc0⟩:=World.cells?_some h1;have hz:=hc0 0 hsz;rw[Nat.zero_mul]at hz;have hadd:(a.add 0).add 0=a:=by simp[Addr.add]
    rw[hadd,au (by omega)]at hz;obtain⟨b,off,spot⟩:=a
    have hsp:spot=none/\b<w.heap.size:=by
     unfold World.cell? at hz;split at hz
     .rename_i hh;split at hz
      .simp at hz
      .rename_i hs;refine⟨by simpa using hs,(be.1 hh).1⟩
     .simp at hz
    obtain⟨rfl,hblk⟩:=hsp
    have key:∀(i:Nat)(r:List D),(((bh len).map Y).map enc)[i]?=some r->∀(j:Nat)(x:D),r[j]?=some x->∃v,w.cell? ⟨b,off+i*sz+j,none⟩=some v/\RD (S0 w) w x v:=by
     intro i r hi j x hj;obtain⟨hlt,rfl⟩:=hrow i r hi;obtain⟨_,cs',h2,h3⟩:=hY i hlt;obtain⟨_,h4,h5⟩:=World.cells?_some h2;have hjl:j<sz:=by rw[<-hlen (Y i)];exact(ai.1 hj).1
     have h6:=h5 j hjl;rw[kO,kO,au (by omega)]at h6;exact⟨_,h6,h3.2 j x _ hj (au (by omega))⟩
    have hh:=RD.sl (S:=S0 w) (w:=w) (sz:=sz) (aj:=((bh len).map Y).map enc) (b:=b) (off:=off) (cap:=cap) (fun i j=>(w.cell? ⟨b,off+i*sz+j,none⟩).getD undef) hblk hsz (by simp;omega)
     (fun i r hi=>by obtain⟨_,rfl⟩:=hrow i r hi;exact hlen _) (fun i r hi j x hj=>by obtain⟨v,h2,_⟩:=key i r hi j x hj;rw[h2];rfl) (fun i r hi j x hj=>by obtain⟨v,h2,h3⟩:=key i r hi j x hj;rw[h2];exact h3)
    simpa using hh
theorem Bn{H:Type}{en:TypeId×Value->H}{w:World}{fuel:Nat}{cs:List Value}{x:DataW H×List MemPlace}{fs:Array Field}(ht:P.underlying t=some (.struct fs))(h:DataW.trod en P w 0 (fun _=>true) true fuel t cs=some x){i:Nat}{f:Field}(hi:fs[i]?=some f)
  {α:Type} {enc:α->List D} {fit:α->Prop} (ho:pz P f.type enc fit):∃a,fit a/\jw w ((cs.drop f.offset).take (P.cellsOf f.type)) (enc a):=by
 obtain⟨xs,n,rfl,_,hl,hxl,hf⟩:=DataW.trod_struct ht h;have h1:=hf i f hi;have hlt:i<xs.length:=by rw[hxl];exact(be.1 hi).1
 rw[au hlt]at h1;exact ho H en w n _ _ h1
theorem CW{H:Type}{en:TypeId×Value->H}{w:World}{fuel:Nat}{cs:List Value}{x:DataW H×List MemPlace}{fs:Array Field}(ht:P.underlying t=some (.struct fs))(h:DataW.trod en P w 0 (fun _=>true) true fuel t cs=some x):cs.length=P.cellsOf t:=by obtain⟨xs,n,rfl,_,hl,_⟩:=DataW.trod_struct ht h;exact hl
theorem Ht{H:Type}{en:TypeId×Value->H}{w:World}{fuel:Nat}{cs:List Value}{x:DataW H×List MemPlace}{n:Nat}(ht:P.underlying t=some (.array n e))(h:DataW.trod en P w 0 (fun _=>true) true fuel t cs=some x):cs.length=P.cellsOf t:=by obtain⟨_,_,_,_,hl,_⟩:=DataW.trod_array ht h;exact hl
theorem Dy{H:Type}{en:TypeId×Value->H}{w:World}{fuel:Nat}{cs:List Value}{x:DataW H×List MemPlace}{n:Nat}(ht:P.underlying t=some (.array n e))(h:DataW.trod en P w 0 (fun _=>true) true fuel t cs=some x){i:Nat}(hi:i<n)
  {α:Type} {enc:α->List D} {fit:α->Prop} (ho:pz P e enc fit):∃a,fit a/\jw w ((cs.drop (i*P.cellsOf e)).take (P.cellsOf e)) (enc a):=by
 obtain⟨xs,m,_,_,_,hxl,hf⟩:=DataW.trod_array ht h;have h1:=hf i hi;have hlt:i<xs.length:=by omega
 rw[au hlt]at h1;exact ho H en w m _ _ h1
theorem jw.field{w:World}{cs:List Value}{off n m:Nat}{a b:List D}(h1:jw w ((cs.drop off).take n) a)(hm:off+n=m)(h2:jw w (cs.drop m) b)(hl:m<=cs.length):jw w (cs.drop off) (a++b):=by refine jw.Pc h1 ?_ (by simp;omega);rw[List.drop_drop,hm];exact h2
theorem xW{w:World}{r:Reach}{b:Nat}{v:Value}(h:Value.okWide P w r b t v)(hs:match P.underlying t with|some (.struct _)|some (.array _ _)|some (.interface _)|some (.func ..)|some (.chan ..)|some .unsafePointer|some (.map _ _)=>False|_=>True):one v=true:=by
 unfold Value.okWide at h;split at h
 .rename_i he;rw[he]at hs;exact hs.elim
 .rename_i he;rw[he]at hs;exact hs.elim
 .unfold Cell.okWide at h;split at h
  all_goals first
   |(rename_i he;rw[he]at hs;exact hs.elim)
   |skip
  unfold Cell.ok at h;split at h<;>first|rfl|exact h.elim
theorem P4{α:Type}{d:α->D}{fit:α->Prop}(ho:pz P t (fun a=>[d a]) fit){w:World}{r:Reach}{b:Nat}{v:Value}(hv:Value.okWide P w r b t v)
  (hs:match P.underlying t with|some (.struct _)|some (.array _ _)|some (.interface _)|some (.func ..)|some (.chan ..)|some .unsafePointer|some (.map _ _)=>False|_=>True)
  {H:Type} {en:TypeId×Value->H} {x:DataW H} {ps:List MemPlace} (h:DataW.Trod en P w 0 (fun _=>true) true t v x ps):∃a,fit a/\RA (S0 w) w (.d (d a)) v []:=by
 obtain⟨fuel,h⟩:=h;obtain⟨a,h1,h2⟩:=ho H en w fuel _ _ h;have hone:=tC (xW hv hs);refine⟨a,h1,?_,rfl⟩;exact h2.2 0 _ v rfl (by rw[hone];rfl)
theorem Kw{α:Type}{enc:α->List D}{fit:α->Prop}(ho:pz P t enc fit){w:World}{v:Value}{aJ:Array Value}(hv:v=.agg aJ)
  {H:Type} {en:TypeId×Value->H} {x:DataW H} {ps:List MemPlace} (h:DataW.Trod en P w 0 (fun _=>true) true t v x ps):∃a,fit a/\RA (S0 w) w (.agg (enc a)) v []:=by
 subst hv;obtain⟨fuel,h⟩:=h;obtain⟨a,h1,h2⟩:=ho H en w fuel _ _ h;have h3:(Value.agg aJ).cells.toList=aJ.toList:=rfl;rw[h3]at h2;refine⟨a,h1,aJ,rfl,by have:=h2.1;simpa using this.symm,fun i d hi=>?_,rfl⟩;have hlt:i<aJ.size:=by have:=h2.1;have:=(ai.1 hi).1;simp at*;omega
 refine h2.2 i d _ hi ?_;rw[Array.getElem?_toList,Array.getD_eq_getD_getElem?,Array.getElem?_eq_getElem hlt];rfl
theorem MA{α:Type}{enc:α->List D}{fit:α->Prop}(ho:pz P t enc fit){w:World}{r:Reach}{b:Nat}{v:Value}(hv:Value.okWide P w r b t v){fs:Array Field}(hs:P.underlying t=some (.struct fs))
  {H:Type} {en:TypeId×Value->H} {x:DataW H} {ps:List MemPlace} (h:DataW.Trod en P w 0 (fun _=>true) true t v x ps):∃a,fit a/\RA (S0 w) w (.agg (enc a)) v []:=by
 unfold Value.okWide at hv;rw[hs]at hv;obtain⟨aJ,hv,_,_⟩:=hv;exact Kw ho hv h
theorem Mz{α:Type}{enc:α->List D}{fit:α->Prop}(ho:pz P t enc fit){w:World}{r:Reach}{b:Nat}{v:Value}(hv:Value.okWide P w r b t v){n:Nat}(hs:P.underlying t=some (.array n e))
  {H:Type} {en:TypeId×Value->H} {x:DataW H} {ps:List MemPlace} (h:DataW.Trod en P w 0 (fun _=>true) true t v x ps):∃a,fit a/\RA (S0 w) w (.agg (enc a)) v []:=by
 unfold Value.okWide at hv;rw[hs]at hv;obtain⟨aJ,hv,_,_⟩:=hv;exact Kw ho hv h
theorem xI{H:Type}{en:TypeId×Value->H}(hl:laidOutB P=true){W W':World}{sp:Nat->Bool}:∀{ts:List TypeId}{vs:List Value}{ds:List (DataW H)}{ps:List MemPlace},ts.all (fun t=>P.readableRec t&&decide (t<P.types.size))=true->
  DataW.TrodAll en P W 0 (fun _=>true) true ts vs ds ps->(∀p∈ps,W.sameAt W' p)->(∀p∈ps,sp p.block=true)->DataW.TrodAll en P W' 0 sp true ts vs ds ps:=by
 intro ts;induction ts with
 |nil=>intro vs ds ps _ h _ _;cases vs<;>cases ds<;>exact h
 |cons t ts ih=>
  intro vs ds ps hts h hsame hsp;cases vs with
  |nil=>cases ds<;>exact h
  |cons v vs=>
   cases ds with
   |nil=>exact h
   |cons d ds=>
    obtain⟨p,q,h1,h2,rfl⟩:=h;simp only[List.all_cons,Bool.and_eq_true,decide_eq_true_eq]at hts
    exact⟨p,q,WideElems.Trod_stays hl hts.1.1 hts.1.2 h1 (fun x hx=>hsame x (aE _ hx)) (fun x hx=>hsp x (aE _ hx)),
     ih hts.2 h2 (fun x hx=>hsame x (aC _ hx)) (fun x hx=>hsp x (aC _ hx)),rfl⟩
theorem zE{P:Program}{H:Type}{enc:TypeId×Value->H}{f:Func}{s:ChangeSpec}{kC fG handsOn again:Bool}{W W':World}{args:Array Value}{v:Value}{ds gs:List (DataW H)}{eB pa pv:List MemPlace}
  (hW:DataW.Whole enc P f.params.toList s.vars kC W args.toList ds gs eB)
  (hres:∀(b:Nat)(sp:Nat->Bool)(hd:Bool),DataW.TrodAll enc P W' b sp hd f.resultTypes.toList (v.resultList f.resultTypes.size) (s.fn H (ds++gs)).results [])
  (hargs:∀sp:Nat->Bool,(∀p∈eB,sp p.block=true)->DataW.TrodAll enc P W' 0 sp true f.params.toList args.toList (s.fn H (ds++gs)).args pa)
  (hvars:∀sp:Nat->Bool,(∀p∈eB,sp p.block=true)->DataW.TrodVars enc P W' sp s.vars (s.fn H (ds++gs)).vars pv)
  (hps:eB=pa++pv) (hk:W.keptBut W' (·∈eB)) (hfz:∀a,a.block<W.heap.size->W'.frozen? a=W.frozen? a)
  (hok:∀(j:Nat)(t:TypeId)(r:Value),f.resultTypes[j]?=some t->(v.resultList f.resultTypes.size)[j]?=some r->Value.okWide P W' .any 0 t r):
  s.post enc P f kC fG handsOn again W args v W':=by
 have hold:∀p∈eB,(fun b=>decide (b<W.heap.size)) p.block=true:=fun p hp=>by simpa using hW.lt p hp
 refine⟨ds,gs,eB,[],pa,pv,hW,hres _ _ _,hargs _ hold,hvars _ hold,World.keptBut_mono (fun p hp=>⟨hp,?_⟩) hk,fun _=>?_⟩
 .rw [hps,List.mem_append]at hp;exact Or.inr hp
 .have hlt:=fun p hp=>hW.lt p hp;obtain⟨_,_,_,_,_,hz,hn⟩:=hW;refine⟨hok,_,_,([]++pa)++pv,⟨[]++pa,pv,trodAll_append (hargs _ (fun _ _=>rfl)) (hres _ _ _),hvars _ (fun _ _=>rfl),rfl,?_,?_⟩,?_⟩
  .intro b off hp;rw[hfz _ (hlt _ (by rw[hps];simpa using hp))];exact hz b off (by rw[hps];simpa using hp)
  .intro ha;have:=hn ha;rw[hps]at this;simpa using this
  .intro p hp _;rw[hps];simpa using hp
theorem Ch{f:FuncId}{fn:Func}{s:ChangeSpec}{kC fG handsOn again:Bool}{tb:TypeId}{H:Type}{en:TypeId×Value->H}(hl:laidOutB P=true)(hfn:P.funcs[f]?=some fn)(hbody:fn.body.isSome=true)(hname:(fn.name== "runtime.NumGoroutine")=false)
  (hts:fn.params.toList.all (fun t=>P.readableRec t&&decide (t<P.types.size))=true) (hrt:fn.resultTypes= #[tb]) (htb:P.underlying tb=some .bool) (hvars:s.vars=[])
  {W:World} {args:Array Value} {ds gs:List (DataW H)} {eB:List MemPlace} (hW:DataW.Whole en P fn.params.toList s.vars kC W args.toList ds gs eB)
  (hspec:(s.fn H (ds++gs)).results=[.lit (.bool true)]/\(s.fn H (ds++gs)).args=ds/\(s.fn H (ds++gs)).vars=[])
  (hgl:sE (S0 W) W) (hG:∃as,KV (S0 W) W as args.toList []/\qV P f as [.c (.d (.lit (.bool true)))] []):
  Calls P f args W fun e W'=>∃v,e=.returned v/\s.post en P fn kC fG handsOn again W args v W':=by
 obtain⟨as,hras,hgood⟩:=hG;have hent:=hgood (S0 W) W args.toList [] (fun b hb=>hb) hras List.nodup_nil (fun b hb=>by simp at hb) hgl;have hcall:(callFunc f args).run P W=.ok (.enter f args) W:=by have hb:∃c,fn.body=some c:=Option.isSome_iff_exists.1 hbody;obtain⟨c,hb⟩:=hb;simp[callFunc,run_program,hfn,hb];intro e;rw[e]at hname;simp at hname
 rw[Array.toArray_toList]at hent;rcases hent with⟨g,as',h1,h2⟩|⟨v,h1,_⟩
 .rw [hcall]at h1;obtain⟨⟨rfl,rfl⟩,_⟩:(f=g/\args=as')/\True:=by simpa using h1
  refine h2.mono fun e W' hp=>?_;obtain⟨v,rfl,S',ji,fp1,fp2,rfl,dA,hsub,hlt,hrr,hrt',hnd,hb,hfrm⟩:=hp
  have hv:wh ji=.bool true:=by
   cases ji with
   |nil=>exact hrr.elim
   |cons v ji=>
    obtain⟨f1,f2,_,h3,h4⟩:=hrr;cases ji with
    |cons _ _=>exact h4.elim
    |nil=>cases h3 with|d h5=>cases h5;rfl
  refine⟨_,rfl,?_⟩;rw[hv];have hheap:∀b,b<W.heap.size->W'.heap[b]?=W.heap[b]?:=fun b hb=>dA.dw b hb;obtain⟨p,q,hA,hV,hpq,hfz,hno⟩:=id hW;have hV':DataW.TrodVars en P W (fun _=>true) [] gs q:=by rw[<-hvars];exact hV
  obtain⟨rfl,rfl⟩:=trodVars_none hV'
  have hkept:∀may:MemPlace->Prop,W.keptBut W' may:=by
   intro may;refine⟨hfrm.io.1,hfrm.io.2.1,fun i hi=>?_⟩;have:=hheap i hi;rw[this];cases hx:W.heap[i]?with
   |none=>trivial
   |some o=>cases o<;>simp
  refine zE (pa:=eB) (pv:=[]) hW (fun _ _ _=>?_) (fun sp hsp=>?_) (fun _ _=>?_) (by simp) (hkept _) hfrm.yL ?_
  .rw [hspec.1,hrt];exact trodAll_cons_mk (shut_bool htb _) trodAll_mk0
  .rw [hspec.2.1];have hbp:eB=p:=by rw[hpq,List.append_nil]
   refine xI hl hts (by rw[hbp];exact hA) (fun x hx=>?_) hsp;have hx':=hW.lt x hx;have hs:=hheap x.block hx';cases x with|cell b off=>exact kM hs off|map b=>exact hs
  .rw [hspec.2.2,hvars];rfl
  .exact ok_one hrt rfl (okWide_bool_mk htb _)
 .rw [hcall]at h1;simp at h1
end
theorem Jt{W:World}{k:IntKind}{l:List Int}(hg:∀g d,Oe g=some d->g=0/\d=.pt (l.map fun x=>.lit (.int k x)))(h0:0<W.heap.size)
  (hc:∀(j:Nat)(x:Int),l[j]?=some x->W.cell? ⟨0,j,none⟩=some (.int k x)):sE (S0 W) W:=by
 intro g d h;obtain⟨rfl,rfl⟩:=hg g d h;refine .pt (fun j=>.int k (l.getD j 0)) h0 (fun j x hx=>?_) (fun j x hx=>?_)
 .rw [aD]at hx;obtain⟨y,hy,rfl⟩:=aB.1 hx;rw[Nat.zero_add,hc j y hy,ck,hy];rfl
 .rw [aD]at hx;obtain⟨y,hy,rfl⟩:=aB.1 hx;rw[ck,hy];exact .lit rfl
end Go.Ev
