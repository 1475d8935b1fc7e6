/- Typed data over the abstract machine, and what its operations do to it. Conditions: as stated. -/
import Derived.Test.YtjjajcecekocdaaGreatEvW
import Derived.OpenShut
import Derived.WideKeyArgs
import Derived.Deep.Slices
import Derived.ProofKit
import Derived.WalkKit
import Derived.JoinedCond
open Array renaming getElem?_eq_some_iff->bk
open BitVec renaming ofInt->bJ
open Bool renaming false_eq_true->aH
open List renaming getD->lc,getElem?_eq_getElem->aC,getElem?_eq_some_iff->ap,getElem?_map->aQ,length_map->aM,length_nil->abI,map_append->ed,map_cons->aq,map_drop->gm,map_nil->aW,map_take->gH,mem_append_left->aI,mem_append_right->aG,range->fB
open Nat renaming sub_zero->mg
open Option renaming map_eq_some_iff->aP,map_none->gr,map_some->bK
open Option.some renaming inj->aa,injEq->bM
noncomputable section
namespace Go.Ev
inductive Sl(α:Type)where
 |nil
 |mk (l:List α)
 deriving Inhabited,DecidableEq
def Sl.l{α:Type}:Sl α->List α
 |.nil=>[]
 |.mk l=>l
@[simp] theorem Sl.ZC {α:Type} (l:List α):(Sl.mk l).l=l:=rfl
@[simp] theorem Sl.Zf {α:Type}:(Sl.nil:Sl α).l=[]:=rfl
def Sl.fF{α:Type}:Sl α->Bool
 |.nil=>true
 |.mk _=>false
abbrev dI(k:IntKind)(n:Int):D:=.lit (.int k n)
abbrev dB(b:Bool):D:=.lit (.bool b)
abbrev dS(s:ByteArray):D:=.lit (.string s)
abbrev tI(k:IntKind)(n:Int):TV:=.c (.d (.lit (.int k n)))
abbrev tB(b:Bool):TV:=.c (.d (.lit (.bool b)))
def wL{α:Type}(sz:Nat)(enc:α->List D):Sl α->D
 |.nil=>.lit (.slice none 0 0)
 |.mk l=>.sl sz (l.map enc)
def mT{α:Type}(sz:Nat)(enc:α->List D)(id:Nat):Sl α->C
 |.nil=>.d (.lit (.slice none 0 0))
 |.mk l=>.cE sz id 0 (l.map enc).length
def Q2{α:Type}(sz:Nat)(enc:α->List D):Sl α->T
 |.nil=>.d (.lit (.slice none 0 0))
 |.mk l=>.sl sz (l.map enc)
abbrev wr(k:IntKind)(n:Int):Int:=k.wrap n
def QF(k:IntKind)(a b:Int):Int:=k.wrap (bJ k.bits a&&&bJ k.bits b).toNat
def QE:{f:IntKind->Int->Int->Int//f=QF}:=Classical.choice ⟨⟨_,rfl⟩⟩
def oe(k:IntKind)(a b:Int):Int:=QE.1 k a b
theorem fU:oe=QF:=funext fun k=>funext fun a=>funext fun b=>congrFun (congrFun (congrFun QE.2 k) a) b
def VT(k:IntKind)(a b:Int):Int:=k.wrap (bJ k.bits a|||bJ k.bits b).toNat
def VS:{f:IntKind->Int->Int->Int//f=VT}:=Classical.choice ⟨⟨_,rfl⟩⟩
def H_(k:IntKind)(a b:Int):Int:=VS.1 k a b
theorem M_:H_=VT:=funext fun k=>funext fun a=>funext fun b=>congrFun (congrFun (congrFun VS.2 k) a) b
def QC(k:IntKind)(a b:Int):Int:=k.wrap (bJ k.bits a^^^bJ k.bits b).toNat
def QB:{f:IntKind->Int->Int->Int//f=QC}:=Classical.choice ⟨⟨_,rfl⟩⟩
def CI(k:IntKind)(a b:Int):Int:=QB.1 k a b
theorem H9:CI=QC:=funext fun k=>funext fun a=>funext fun b=>congrFun (congrFun (congrFun QB.2 k) a) b
def EZ(k:IntKind)(a b:Int):Int:=k.wrap (bJ k.bits a&&&~~~bJ k.bits b).toNat
def EY:{f:IntKind->Int->Int->Int//f=EZ}:=Classical.choice ⟨⟨_,rfl⟩⟩
def qT(k:IntKind)(a b:Int):Int:=EY.1 k a b
theorem z7:qT=EZ:=funext fun k=>funext fun a=>funext fun b=>congrFun (congrFun (congrFun EY.2 k) a) b
def YU(k:IntKind)(a:Int):Int:=k.wrap (bJ k.bits (if k.signed then-1 else k.max)^^^bJ k.bits a).toNat
def SR(k:IntKind)(a b:Int):Int:=k.wrap (a*2^(min b.toNat k.bits))
def M9(k:IntKind)(a b:Int):Int:=a.fdiv (2^(min b.toNat k.bits))
def Su(k:IntKind)(a b:Int):Option Int:=if b=0 then none else some (k.wrap (a.tdiv b))
def Q6(_:IntKind)(a b:Int):Option Int:=if b=0 then none else some (a.tmod b)
def NZ(k:IntKind)(a b:Int):Option Int:=if b<0 then none else some (SR k a b)
def Ix(k:IntKind)(a b:Int):Option Int:=if b<0 then none else some (M9 k a b)
def SH(a b:ByteArray):Option ByteArray:=if((a.size+b.size:Nat):Int)>IntKind.i64.max then none else some (a++b)
def YV(s:ByteArray)(i:Int):Option Int:=if 0<=i then s[i.toNat]?.map fun b=>(b.toNat:Int)else none
def Ap(s:ByteArray)(lo hi:Int):Option ByteArray:=if 0<=lo/\lo<=hi/\hi<=s.size then some (s.extract lo.toNat hi.toNat)else none
def OL{α:Type}(z:α)(l c:Int):Option (List α):=if 0<=l/\l<=c/\c<=2147483648 then some (List.replicate l.toNat z)else none
def Sl.to{α:Type}(s:Sl α)(r:List α):Sl α:=match s with|.nil=>.nil|.mk _=>.mk r
section
variable{c:Ev.Call}{H:bC}{nx:Nat}{k:IntKind}{a b x:Int}{s t u:ByteArray}
theorem Si(h:Su k a b=some x):cC c (.th .quo) [some (tI k a),some (tI k b)] H nx=some (tI k x,[],[],nx):=by
 unfold Su at h;split at h
 .simp at h
 .rename_i hb;obtain rfl:=aa h;simp[cC,oG,pf,hb,lv]
theorem Sg(h:Q6 k a b=some x):cC c (.th .rem) [some (tI k a),some (tI k b)] H nx=some (tI k x,[],[],nx):=by
 unfold Q6 at h;split at h
 .simp at h
 .rename_i hb;obtain rfl:=aa h;simp[cC,oG,pf,hb,lv]
theorem Sf{k2:IntKind}(h:NZ k a b=some x):cC c (.th .shl) [some (tI k a),some (tI k2 b)] H nx=some (tI k x,[],[],nx):=by
 unfold NZ at h;split at h
 .simp at h
 .rename_i hb;obtain rfl:=aa h;simp[cC,oG,pf,hb,lv,SR]
theorem Se{k2:IntKind}(h:Ix k a b=some x):cC c (.th .shr) [some (tI k a),some (tI k2 b)] H nx=some (tI k x,[],[],nx):=by
 unfold Ix at h;split at h
 .simp at h
 .rename_i hb;obtain rfl:=aa h;simp[cC,oG,pf,hb,lv,M9]
theorem Sj(h:SH s t=some u):cC c (.th .add) [some (.c (.d (dS s))),some (.c (.d (dS t)))] H nx=some (.c (.d (dS u)),[],[],nx):=by
 unfold SH at h;split at h
 .simp at h
 .rename_i hb;obtain rfl:=aa h;simp only[cC,oG,pf];rw[if_neg hb];rfl
theorem Vy(h:YV s a=some x):cC c .p9 [some (.c (.d (dS s))),some (tI k a)] H nx=some (tI .u8 x,[],[],nx):=by
 unfold YV at h;split at h
 .rename_i ha;obtain⟨y,hy,rfl⟩:=aP.1 h;simp only[cC,cG];rw[if_pos ha,hy];rfl
 .simp at h
end
def eX(i:Int)(n:Nat):Option Nat:=if 0<=i/\i<n then some i.toNat else none
theorem jr{i:Int}{n m:Nat}:eX i n=some m<->i=m/\m<n:=by
 unfold eX;split
 .simp only[bM];omega
 .simp only[reduceCtorEq,false_iff];omega
theorem cB{i n:Nat}(h:i<n):eX (i:Int) n=some i:=jr.2 ⟨rfl,h⟩
def gt{α:Type}[Inhabited α](l:List α)(n:Nat):α:=l.getD n default
theorem L_{α:Type}[Inhabited α]{l:List α}{n:Nat}(h:n<l.length):l[n]?=some (gt l n):=by simp[gt,lc,h]
theorem gX{α:Type}[Inhabited α]{l:List α}{n:Nat}(h:n<l.length):gt l n=l[n]:=by simp[gt,lc,h]
theorem Ch{α:Type}[Inhabited α]{l:List α}{n:Nat}{enc:α->List D}(h:n<l.length):(l.map enc)[n]?=some (enc (gt l n)):=by rw[aQ,L_ h];rfl
def ld{α:Type}(l:List α):Option (List α):=if l.length<=2147483648 then some l else none
theorem xn{α:Type}{l m:List α}:ld l=some m<->l=m/\l.length<=2147483648:=by
 unfold ld;split
 .simp_all
 .rename_i hl;simp only[reduceCtorEq,false_iff,not_and];rintro rfl;omega
theorem ZJ{α:Type}{l:List α}(h:l.length<=2147483648):ld l=some l:=xn.2 ⟨rfl,h⟩
def oX{α:Type}(l:List α)(lo hi:Int):Option (List α):=if 0<=lo/\lo<=hi/\hi<=l.length then some ((l.drop lo.toNat).take (hi.toNat-lo.toNat))else none
theorem qn{α β:Type}{x:Option α}{f:α->Option β}{r:β}(h:x.bind f=some r):∃a,x=some a/\f a=some r:=Option.bind_eq_some_iff.1 h
theorem uG{α:Type}{l:List α}{enc:α->List D}:((l.map enc).drop 0).take (l.map enc).length=l.map enc:=by rw[List.drop_zero,List.take_length]
theorem Pw{α:Type}{l:List α}{enc:α->List D}{a b:Nat}:((l.map enc).drop a).take b=((l.drop a).take b).map enc:=by rw[gH,gm]
section
variable{α:Type}{c:Ev.Call}{H:bC}{nx sz id off len m n:Nat}{k:IntKind}{i:Int}{enc:α->List D}{s:Sl α}{l:List α}{agg:Bool}{v:TV}
theorem p_o{k:Nat}(hl:aw H id=some (.aK sz (l.map enc))):dU H k (.cE sz id 0 (l.map enc).length)=some (.sl sz (l.map enc),[id],[id]):=by
 have:dU H k (.cE sz id 0 (l.map enc).length)=(if 0+(l.map enc).length<=(l.map enc).length then some (.sl sz (((l.map enc).drop 0).take (l.map enc).length),[id],[id])else none):=by cases k<;>simp only[dU,hl]
 rw[this,if_pos (by omega),uG]
theorem SE{lo hi:Int}{r:List α}(hc:oX l lo hi=some r):lo.toNat+(r.map enc).length<=(l.map enc).length/\((l.map enc).drop lo.toNat).take (r.map enc).length=r.map enc:=by
 unfold oX at hc;split at hc
 .rename_i h;obtain rfl:=aa hc;refine⟨by simp;omega,?_⟩;rw[Pw];congr 1;simp
 .simp at hc
theorem V6{bD rd:List Nat}{r:List (C×List Nat×List Nat)}(hl:aw H id=some (.aK sz (l.map enc)))(h:eY H r=true):eY H ((.cE sz id 0 (l.map enc).length,bD,rd)::r)=true:=by simp[eY,hl,h]
theorem Vr[Inhabited α](h:eX i s.l.length=some n):cC c (.indexAddr none sz) [some (.c (.d (wL sz enc s))),some (tI k i)] H nx=some (.c (.d (.pt (enc (gt s.l n)))),[],[],nx):=by obtain⟨rfl,hn⟩:=jr.1 h;cases s with|nil=>simp[Sl.l]at hn|mk l=>have hn':n<l.length:=hn;simp only[cC,cG,je,wL,Int.natCast_nonneg,and_self,if_true,Int.toNat_natCast];rw[Ch hn'];rfl
theorem YD(h:eX i l.length=some n):cC c (.indexAddr none sz) [some (.c (.cE sz id 0 (l.map enc).length)),some (tI k i)] H nx=some (.c (.ep id n 0),[],[],nx):=by obtain⟨rfl,hn⟩:=jr.1 h;simp only[cC,cG,je,aM];rw[if_pos (by refine⟨by omega,by omega,?_⟩;trivial)];simp
theorem Vs(h:eX i l.length=some n):cC c (.indexAddr none sz) [some (.c (.cE sz id off (l.map enc).length)),some (tI k i)] H nx=some (.c (.ep id (off+n) 0),[],[],nx):=by obtain⟨rfl,hn⟩:=jr.1 h;simp only[cC,cG,je,aM];rw[if_pos (by refine⟨by omega,by omega,?_⟩;trivial)];simp
theorem LL{X:Prop}(h:eX i (Sl.l (Sl.nil:Sl α)).length=some n):X:=by obtain⟨_,hn⟩:=jr.1 h;simp[Sl.l]at hn
theorem NU[Inhabited α]{cs:List C}{ds:List D}{az:List Nat}{u:eS}{y:α}(hl:aw H id=some (.aK sz (l.map enc)))(hn:n<l.length)(hc:cellsOf v=some cs)(hm:cs.length=m)(hw:dZ H cs=some (ds,az))(hf:dJ H az az=some u)
  (hid:az.contains id=false) (hlen:off+m<=(enc (gt l n)).length)
  (hy:aX (enc (gt l n)) off ds=enc y):cC c (.store m) [some (.c (.ep id n off)),some v] H nx=some (.ia [],(id,some (.aK sz ((l.set n y).map enc)))::u,id::az,nx):=by
 simp only[cC,mL,hc,hm,if_true,hl,Ch hn,hw,hf];rw[if_pos ⟨hlen,hid⟩,hy,List.map_set]
theorem RJ:cC c (.len false) [some (.c (.d (wL sz enc s)))] H nx=some (tI .i64 s.l.length,[],[],nx):=by cases s with|nil=>rfl|mk l=>simp[cC,u5,wL,Sl.l,lv]
theorem Qn:cC c (.len false) [some (.c (mT sz enc id s))] H nx=some (tI .i64 s.l.length,[],[],nx):=by cases s with|nil=>rfl|mk l=>simp[cC,u5,mT,Sl.l,lv]
theorem Rx{neg:Bool}:cC c (.rS 0 neg) [some (.c (.d (wL sz enc s)))] H nx=some (tB (if neg then !s.fF else s.fF),[],[],nx):=by cases s<;>rfl
theorem Vl{neg:Bool}:cC c (.rS 0 neg) [some (.c (mT sz enc id s))] H nx=some (tB (if neg then !s.fF else s.fF),[],[],nx):=by cases s<;>rfl
theorem N6:gF sz H (.d (wL sz enc s))=some (s.l.map enc,[]):=by cases s with|nil=>rfl|mk l=>simp[gF,wL,Sl.l]
theorem pK{l r:List α}{lo hi:Int}:oX l lo hi=some r<->(0<=lo/\lo<=hi/\hi<=l.length)/\(l.drop lo.toNat).take (hi.toNat-lo.toNat)=r:=by
 unfold oX;split
 .rename_i h;simp[h]
 .rename_i h;simp[h]
theorem VO{lo hi:Option Int}{r:List α}(hc:oX l (lo.getD 0) (hi.getD l.length)=some r):cZ false sz (.cE sz id 0 (l.map enc).length) lo hi=some (.cE sz id (lo.getD 0).toNat (r.map enc).length):=by obtain⟨h,rfl⟩:=pK.1 hc;simp only[cZ,aH,if_false,aM];rw[if_pos ⟨trivial,h⟩];simp;omega
theorem SD{lo hi:Option Int}{r:List α}(hc:oX s.l (lo.getD 0) (hi.getD s.l.length)=some r):cZ false sz (.d (wL sz enc s)) lo hi=some (.d (wL sz enc (s.to r))):=by obtain⟨h,rfl⟩:=pK.1 hc;cases s with|nil=>simp only[Sl.l,abI]at h;simp only[cZ,wL,aH,if_false];rw[if_pos ⟨h.1,h.2.1,by simpa using h.2.2⟩];rfl|mk l=>simp only[Sl.l]at h|-;simp only[cZ,wL,aH,if_false,aM];rw[if_pos ⟨trivial,h.1,h.2.1,h.2.2⟩];simp[gH,gm,Sl.to]
theorem MF{lo hi:Option Int}{r:List α}(hc:oX (Sl.l (Sl.nil:Sl α)) (lo.getD 0) (hi.getD (Sl.l (Sl.nil:Sl α)).length)=some r):cZ false sz (.d (.lit (.slice none 0 0))) lo hi=some (.d (.lit (.slice none 0 0))):=by obtain⟨h,rfl⟩:=pK.1 hc;simp only[Sl.l,abI]at h;simp only[cZ,aH,if_false];rw[if_pos ⟨h.1,h.2.1,by simpa using h.2.2⟩]
section
variable{r:List α}{i j:Int}{k k2:IntKind}
def GA(l:List α)(off n:Nat)(x:List α):List α:=aX l off (x.take n)
theorem Gz{off n:Nat}{x:List α}:aX (l.map enc) off ((x.map enc).take n)=(GA l off n x).map enc:=by simp[GA,aX]
theorem SF{xc:C}{x:List α}{az:List Nat}(hl:aw H id=some (.aK sz (l.map enc)))(hx:gF sz H xc=some (x.map enc,az)):
  cC c (.copy sz) [some (.c (.cE sz id 0 (l.map enc).length)),some (.c xc)] H nx=some (tI .i64 (min x.length l.length:Nat),[(id,some (.aK sz ((GA l 0 l.length x).map enc)))],id::az,nx):=by
 simp only[cC,jY,hx,hl];rw[if_pos ⟨trivial,by simp⟩];simp only[Gz,aM];rfl
theorem vC{off n:Nat}{x:List α}(h:off+n<=l.length):(GA l off n x).length=l.length:=eT _ _ _ (by simp only[List.length_take];omega)
def RL(a b:List α):Option Unit:=if a.length=b.length then some ()else none
theorem Ji{a b:List α}{u:Unit}:RL a b=some u<->a.length=b.length:=by unfold RL;split<;>simp_all
theorem Pa{z:α}{zero:List Value}{n m:Int}(hz:dn zero=enc z)(h:OL z n m=some l):cC c (.makeSlice zero) [some (tI k n),some (tI k2 m)] H nx=some (.c (.cE zero.length nx 0 (l.map enc).length),[(nx,some (.aK zero.length (l.map enc)))],[],nx+1):=by
 unfold OL at h;split at h
 .rename_i hb;obtain rfl:=aa h;simp only[cC,cG];rw[if_pos (by simpa[te]using hb),hz];simp
 .simp at h
end
end
structure Mp(K V:Type)where
 es:List (K×V×Nat)
 bP:Nat
def Mp.none{K V:Type}:Mp K V:=⟨[],0⟩
instance{K V:Type}:Inhabited (Mp K V):=⟨.none⟩
section
variable{κ ν:Type}
def f_[DecidableEq κ](k:κ):List (κ×ν×Nat)->Nat->Option (Nat×κ×ν×Nat)
 |[],_=>none
 |e::r,i=>if k=e.1 then some (i,e)else f_ k r (i+1)
def rH[DecidableEq κ](m:Mp κ ν)(z:ν)(k:κ):ν:=match f_ k m.es 0 with|some (_,e)=>e.2.1|none=>z
def tQ[DecidableEq κ](m:Mp κ ν)(k:κ):Bool:=(f_ k m.es 0).isSome
def tR[DecidableEq κ](m:Mp κ ν)(z:ν)(k:κ):Mp κ ν×ν×Int:=match f_ k m.es 0 with|some (_,e)=>(m,e.2.1,e.2.2)|none=>(⟨m.es++[(k,z,m.bP)],m.bP+1⟩,z,m.bP)
def pX:List (κ×ν×Nat)->Nat->ν->List (κ×ν×Nat)
 |[],_,_=>[]
 |e::r,0,v=>(e.1,v,e.2.2)::r
 |e::r,i+1,v=>e::pX r i v
def HD(m:Mp κ ν)(s:Int)(v:ν):Option (Mp κ ν):=(m.es.findIdx? (fun e=>decide ((e.2.2:Int)=s))).map fun i=>⟨pX m.es i v,m.bP⟩
def B6(ek:κ->List Value)(ev:ν->List D)(e:κ×ν×Nat):rY:=(ek e.1,ev e.2.1,e.2.2)
def ym(ka va:Bool)(ek:κ->List Value)(ev:ν->List D)(m:Mp κ ν):Option Ob:=some (.map ka va (m.es.map (B6 ek ev)) m.bP)
variable{ek:κ->List Value}{ev:ν->List D}{ks:List Kd}{ka va:Bool}
theorem ne[DecidableEq κ]{k:κ}:∀{l:List (κ×ν×Nat)}{i j:Nat}{e:κ×ν×Nat},f_ k l i=some (j,e)->i<=j/\l[j-i]?=some e/\e.1=k:=by
 intro l;induction l with
 |nil=>intro i j e h;simp[f_]at h
 |cons x l ih=>
  intro i j e h;simp only[f_]at h;split at h
  .rename_i hk;obtain⟨rfl,rfl⟩:i=j/\x=e:=by simpa using h
   exact⟨Nat.le_refl _,by simp,hk.symm⟩
  .obtain ⟨h1,h2,h3⟩:=ih h;have e1:j-i=(j-(i+1))+1:=by omega
   exact⟨by omega,by rw[e1];simpa using h2,h3⟩
theorem tY[DecidableEq κ](heq:∀a b,gB ks (ek a) (ek b)=some (decide (a=b)))(k:κ):∀(l:List (κ×ν×Nat))(i:Nat),mF ks (ek k) (l.map (B6 ek ev)) i=some ((f_ k l i).map (·.1)):=by
 intro l;induction l with
 |nil=>intro i;rfl
 |cons x l ih=>
  intro i;simp only[aq,mF,f_];have:(B6 ek ev x).1=ek x.1:=rfl;rw[this,heq];by_cases h:k=x.1
  .simp [h]
  .simp [h,ih]
theorem zK{l:List (κ×ν×Nat)}{j:Nat}{e:κ×ν×Nat}(h:l[j]?=some e):(l.map (B6 ek ev)).getD j default=B6 ek ev e:=by simp[List.getD_eq_getElem?_getD,h]
variable{m:Mp κ ν}{z:ν}{k:κ}{zero:List Value}{tv:ν->TV}{kt:TV}{H:bC}{id nx:Nat}{c:Call}
theorem RB[DecidableEq κ](hl:aw H id=ym ka va ek ev m)(hk:nh ka ks kt=some (ek k))(heq:∀a b,gB ks (ek a) (ek b)=some (decide (a=b)))(hz:dn zero=ev z)(hv:∀x,pM va (ev x)=some (tv x)):
  cC c (.lookup ka ks va zero false) [some (.c (.om id)),some kt] H nx=some (tv (rH m z k),[],[id],nx):=by
 have h:=tY (ev:=ev) heq k m.es 0;simp only[cC,iQ,hk,hl,ym,and_self,if_true,h];unfold rH;cases hf:f_ k m.es 0 with|none=>simp only[gr,hz,hv,aH,if_false]|some p=>obtain⟨j,e⟩:=p;obtain⟨_,h2,_⟩:=ne hf;rw[mg]at h2;simp only[bK,zK h2,B6,hv,aH,if_false]
theorem OO[DecidableEq κ](hl:aw H id=ym ka va ek ev m)(hk:nh ka ks kt=some (ek k))(heq:∀a b,gB ks (ek a) (ek b)=some (decide (a=b)))(hz:dn zero=ev z)(hv:∀x,pM va (ev x)=some (tv x)):
  cC c (.lookup ka ks va zero true) [some (.c (.om id)),some kt] H nx=some (.ia [tv (rH m z k),tB (tQ m k)],[],[id],nx):=by
 have h:=tY (ev:=ev) heq k m.es 0;simp only[cC,iQ,hk,hl,ym,and_self,if_true,h];unfold rH tQ;cases hf:f_ k m.es 0 with|none=>simp only[gr,hz,hv,Option.isSome_none,lv]|some p=>obtain⟨j,e⟩:=p;obtain⟨_,h2,_⟩:=ne hf;rw[mg]at h2;simp only[bK,zK h2,B6,hv,Option.isSome_some,lv]
theorem VB[DecidableEq κ](hl:aw H id=ym ka va ek ev m)(hk:nh ka ks kt=some (ek k))(heq:∀a b,gB ks (ek a) (ek b)=some (decide (a=b)))(hz:dn zero=ev z)(hv:∀x,pM va (ev x)=some (tv x)):
  cC c (.mapEntry ka ks va zero) [some (.c (.om id)),some kt] H nx=some (.ia [tv (tR m z k).2.1,tI .i64 (tR m z k).2.2],[(id,ym ka va ek ev (tR m z k).1)],[id],nx):=by
 have h:=tY (ev:=ev) heq k m.es 0;simp only[cC,nN,hk,hl,ym,and_self,if_true,h];unfold tR;cases hf:f_ k m.es 0 with|none=>simp only[gr,hz,hv,lv,ed,aq,aW,B6]|some p=>obtain⟨j,e⟩:=p;obtain⟨_,h2,_⟩:=ne hf;rw[mg]at h2;simp only[bK,zK h2,B6,hv,lv]
theorem A7{ds:List D}{v:ν}(hd:ev v=ds):∀{l:List (κ×ν×Nat)}{i:Nat},i<l.length->
  (l.map (B6 ek ev)).set i (((l.map (B6 ek ev)).getD i default).1,ds,((l.map (B6 ek ev)).getD i default).2.2)=(pX l i v).map (B6 ek ev):=by
 intro l;induction l with
 |nil=>intro i h;simp at h
 |cons x l ih=>intro i h;cases i with|zero=>simp[pX,B6,hd]|succ i=>have:=ih (i:=i) (by simpa using h);simp only[aq,List.set_cons_succ,List.getD_cons_succ,pX];rw[this]
theorem VA{m':Mp κ ν}{s:Int}{v:ν}{n:Nat}{xv:TV}{kd:IntKind}(hs:HD m s v=some m')(hl:aw H id=ym ka va ek ev m)(hx:(cellsOf xv).bind zN=some (ev v))(hn:(ev v).length=n)(ha:qN xv=va):
  cC c (.entryStore va n) [some (.c (.om id)),some (tI kd s),some xv] H nx=some (.ia [],[(id,ym ka va ek ev m')],[id],nx):=by
 unfold HD at hs;obtain⟨i,hi,rfl⟩:=aP.1 hs;have hf:(m.es.map (B6 ek ev)).findIdx? (fun e=>decide ((e.2.2:Int)=s))=some i:=by rw[List.findIdx?_map];exact hi
 have hlt:i<m.es.length:=by obtain⟨h1,_⟩:=List.findIdx?_eq_some_iff_getElem.1 hi;exact h1
 simp only[cC,nO,cG,hx,hl,ym,hn,ha,and_self,if_true,hf,A7 (ek:=ek) (ev:=ev) (v:=v) rfl hlt]
def gW[DecidableEq κ](m:Mp κ ν)(k:κ)(v:ν):Mp κ ν:=match f_ k m.es 0 with|some (i,_)=>⟨pX m.es i v,m.bP⟩|none=>⟨m.es++[(k,v,m.bP)],m.bP+1⟩
def jF[DecidableEq κ](m:Mp κ ν)(k:κ):Mp κ ν:=match f_ k m.es 0 with|some (i,_)=>⟨m.es.eraseIdx i,m.bP⟩|none=>m
theorem Uf[DecidableEq κ]{v:ν}{n:Nat}{xv:TV}(hl:aw H id=ym ka va ek ev m)(hk:nh ka ks kt=some (ek k))(heq:∀a b,gB ks (ek a) (ek b)=some (decide (a=b)))(hx:cellsOf xv=some ((ev v).map .d))(hv:dZ H ((ev v).map .d)=some (ev v,[]))
  (hn:(ev v).length=n) (ha:qN xv=va):cC c (.tT ka ks va n) [some (.c (.om id)),some kt,some xv] H nx=some (.ia [],[(id,ym ka va ek ev (gW m k v))],[id],nx):=by
 have h:=tY (ev:=ev) heq k m.es 0;have e0:dJ H [] []=some []:=rfl;simp only[cC,sJ,hk,hx,hv,e0,hl,ym];rw[if_pos ⟨trivial,trivial,hn,ha,rfl⟩];simp only[h];unfold gW;cases hf:f_ k m.es 0 with
 |none=>simp only[gr,ed,aq,aW,B6]
 |some p=>
  obtain⟨i,e⟩:=p;obtain⟨_,h2,_⟩:=ne hf;have hlt:i<m.es.length:=by simpa using(ap.1 h2).1
  simp only[bK,A7 (ek:=ek) (ev:=ev) (v:=v) rfl hlt]
theorem VH[DecidableEq κ](hl:aw H id=ym ka va ek ev m)(hk:nh ka ks kt=some (ek k))(heq:∀a b,gB ks (ek a) (ek b)=some (decide (a=b))):
  cC c (.tU ka ks) [some (.c (.om id)),some kt] H nx=some (.ia [],[(id,ym ka va ek ev (jF m k))],[id],nx):=by
 have h:=tY (ev:=ev) heq k m.es 0
 have er:∀(l:List (κ×ν×Nat))(i:Nat),(l.map (B6 ek ev)).eraseIdx i=(l.eraseIdx i).map (B6 ek ev):=by
  intro l;induction l with
  |nil=>intro i;rfl
  |cons x l ih=>intro i;cases i with|zero=>rfl|succ i=>simp only[aq,List.eraseIdx_cons_succ,ih]
 simp only[cC,sK,hk,hl,ym];rw[if_pos trivial];simp only[h];unfold jF;cases hf:f_ k m.es 0 with|none=>simp only[gr]|some p=>obtain⟨i,e⟩:=p;simp only[bK,er]
end
open Go.ChangeShapes Go.WideShapes Go.ChangeAt Go.RowKit
def S0(w:World)(b:Nat):Prop:=b<w.heap.size
def lw(w:World)(cs:List Value)(ds:List D):Prop:=cs.length=ds.length/\∀(j:Nat)(d:D)(v:Value),ds[j]?=some d->cs[j]?=some v->RD (S0 w) w d v
def rW(P:Program)(t:TypeId){α:Type}(enc:α->List D)(fit:α->Prop):Prop:=∀(H:Type)(e:TypeId×Value->H)(w:World)(fuel:Nat)(cs:List Value)(x:DataW H×List MemPlace),DataW.trod e P w 0 (fun _=>true) true fuel t cs=some x->∃a,fit a/\lw w cs (enc a)
section
variable{P:Program}{t e:TypeId}
theorem lw.one{w:World}{v:Value}{d:D}(h:RD (S0 w) w d v):lw w [v] [d]:=by refine⟨rfl,fun j d' v' hd hv=>?_⟩;cases j with|zero=>obtain rfl:=aa hd;obtain rfl:=aa hv;exact h|succ j=>simp at hd
theorem lw.Ti{w:World}{cs:List Value}{n:Nat}{a b:List D}(h1:lw w (cs.take n) a)(h2:lw w (cs.drop n) b)(hn:n<=cs.length):lw w cs (a++b):=by
 have l1:n=a.length:=by rw[<-h1.1];simp;omega
 refine⟨by have:=h1.1;have:=h2.1;simp at*;omega,fun j d v hd hv=>?_⟩;by_cases hj:j<a.length
 .rw [List.getElem?_append_left hj]at hd;exact h1.2 j d v hd (by rw[List.getElem?_take,if_pos (by omega)];exact hv)
 .rw [List.getElem?_append_right (by omega)]at hd;refine h2.2 (j-a.length) d v hd ?_;rw[List.getElem?_drop,l1,show a.length+(j-a.length)=j by omega];exact hv
theorem lw.nil{w:World}{cs:List Value}(h:cs.length=0):lw w cs []:=⟨h,fun j d v hd=>by simp at hd⟩
theorem IU{k:IntKind}(ht:P.underlying t=some (.int k)):rW P t (fun x:Int=>[dI k x]) (fun x=>k.min<=x/\x<=k.max):=by intro H en w fuel cs x h;obtain⟨n,rfl,_,hw⟩:=DataW.trod_int ht h;exact⟨n,by simpa[Lit.wf]using hw,.one (.lit rfl)⟩
theorem F3(ht:P.underlying t=some .bool):rW P t (fun x:Bool=>[dB x]) (fun _=>True):=by intro H en w fuel cs x h;obtain⟨n,rfl,_⟩:=DataW.trod_bool ht h;exact⟨n,trivial,.one (.lit rfl)⟩
theorem B1(ht:P.underlying t=some .string):rW P t (fun x:ByteArray=>[dS x]) (fun s=>s.size<=maxLen):=by intro H en w fuel cs x h;obtain⟨n,rfl,_,hm⟩:=DataW.trod_string ht h;exact⟨n,hm,.one (.lit rfl)⟩
theorem DL{k:FloatKind}(ht:P.underlying t=some (.float k)):rW P t (fun x:Nat=>[D.lit (.float k x)]) (fun b=>(Lit.float k b).wf=true):=by
 intro H en w fuel cs x h;cases fuel with
 |zero=>simp[DataW.trod]at h
 |succ n=>
  unfold DataW.trod at h;simp only[ht]at h
  match cs,h with
  |[.float k' b],h=>
   simp only at h;split at h
   .rename_i hw;obtain⟨rfl,hw⟩:=hw;exact⟨b,hw,.one (.lit rfl)⟩
   .simp at h
theorem DK{α:Type}[Inhabited α]{enc:α->List D}{fit:α->Prop}{sz:Nat}(ht:P.underlying t=some (.slice e))(hc:P.cellsOf e=sz)(hsz:0<sz)(hlen:∀a,(enc a).length=sz)(he:rW P e enc fit):
  rW P t (fun s:Sl α=>[wL sz enc s]) (fun s=>s.l.length<=maxLen/\∀x∈s.l,fit x):=by
 intro H en w fuel cs x h;rcases Go.Deep.open_slice ht h with⟨rfl,_⟩|⟨a,len,cap,m,n,D',Pl,rfl,hb,hl,hmax,hm,_,hx⟩
 .exact ⟨.nil,⟨by simp[Sl.l],by simp[Sl.l]⟩,.one (.lit rfl)⟩
 .simp only[if_true]at hm;rw[hm]at hx;have hx':∀i,i<len->∃y,fit y/\∃cs',w.cells? 0 (a.add (i*sz)) sz=some cs'/\lw w cs' (enc y):=by intro i hi;obtain⟨cs',h1,h2⟩:=hx i (by omega);obtain⟨y,h3,h4⟩:=he H en w n cs' _ h2;rw[hc]at h1;exact⟨y,h3,cs',h1,h4⟩
  have hch:∃Y:Nat->α,∀i,i<len->fit (Y i)/\∃cs',w.cells? 0 (a.add (i*sz)) sz=some cs'/\lw w cs' (enc (Y i)):=by refine⟨fun i=>if hi:i<len then Classical.choose (hx' i hi)else default,fun i hi=>?_⟩;simp only[dif_pos hi];exact Classical.choose_spec (hx' i hi)
  obtain⟨Y,hY⟩:=hch;refine⟨.mk ((fB len).map Y),⟨by simp[Sl.l];omega,fun x hx=>?_⟩,.one ?_⟩
  .simp only[Sl.l,List.mem_map,List.mem_range]at hx;obtain⟨i,hi,rfl⟩:=hx;exact(hY i hi).1
  .simp only[wL]
   have hrow:∀(i:Nat)(r:List D),(((fB len).map Y).map enc)[i]?=some r->i<len/\r=enc (Y i):=by
    intro i r hi;rw[aQ,aQ]at hi;by_cases hlt:i<len
    .rw [List.getElem?_range hlt]at hi;exact⟨hlt,by simpa using hi.symm⟩
    .rw [List.getElem?_eq_none (by simp;omega)]at hi;simp at hi
   by_cases h0:cap=0
   .obtain rfl:len=0:=by omega
    subst h0;exact .uq hsz
   .have hcell:∀i,i<cap->∃cs',w.cells? 0 (a.add (i*sz)) sz=some cs':=by intro i hi;obtain⟨cs',h1,h2⟩:=hx i hi;rw[hc]at h1;exact⟨cs',h1⟩
    obtain⟨cs0,h1⟩:=hcell 0 (by omega);obtain⟨_,hl0,hc0⟩:=World.cells?_some h1;have hz:=hc0 0 hsz;rw[Nat.zero_mul]at hz;have hadd:(a.add 0).add 0=a:=by simp[Addr.add]
    rw[hadd,aC (by omega)]at hz;obtain⟨b,off,spot⟩:=a
    have hsp:spot=none/\b<w.heap.size:=by
     unfold World.cell? at hz;split at hz
     .rename_i hh;split at hz
      .simp at hz
      .rename_i hs;refine⟨by simpa using hs,(bk.1 hh).1⟩
     .simp at hz
    obtain⟨rfl,hblk⟩:=hsp
    have key:∀(i:Nat)(r:List D),(((fB len).map Y).map enc)[i]?=some r->∀(j:Nat)(x:D),r[j]?=some x->∃v,w.cell? ⟨b,off+i*sz+j,none⟩=some v/\RD (S0 w) w x v:=by
     intro i r hi j x hj;obtain⟨hlt,rfl⟩:=hrow i r hi;obtain⟨_,cs',h2,h3⟩:=hY i hlt;obtain⟨_,h4,h5⟩:=World.cells?_some h2;have hjl:j<sz:=by rw[<-hlen (Y i)];exact(ap.1 hj).1
     have h6:=h5 j hjl;rw[ph,ph,aC (by omega)]at h6;exact⟨_,h6,h3.2 j x _ hj (aC (by omega))⟩
    have hh:=RD.sl (S:=S0 w) (w:=w) (sz:=sz) (rows:=((fB len).map Y).map enc) (b:=b) (off:=off) (cap:=cap) (fun i j=>(w.cell? ⟨b,off+i*sz+j,none⟩).getD undef) hblk hsz (by simp;omega)
     (fun i r hi=>by obtain⟨_,rfl⟩:=hrow i r hi;exact hlen _) (fun i r hi j x hj=>by obtain⟨v,h2,_⟩:=key i r hi j x hj;rw[h2];rfl) (fun i r hi j x hj=>by obtain⟨v,h2,h3⟩:=key i r hi j x hj;rw[h2];exact h3)
    simpa using hh
theorem DM{H:Type}{en:TypeId×Value->H}{w:World}{fuel:Nat}{cs:List Value}{x:DataW H×List MemPlace}{fs:Array Field}(ht:P.underlying t=some (.struct fs))(h:DataW.trod en P w 0 (fun _=>true) true fuel t cs=some x){i:Nat}{f:Field}(hi:fs[i]?=some f)
  {α:Type} {enc:α->List D} {fit:α->Prop} (ho:rW P f.type enc fit):∃a,fit a/\lw w ((cs.drop f.offset).take (P.cellsOf f.type)) (enc a):=by
 obtain⟨xs,n,rfl,_,hl,hxl,hf⟩:=DataW.trod_struct ht h;have h1:=hf i f hi;have hlt:i<xs.length:=by rw[hxl];exact(bk.1 hi).1
 rw[aC hlt]at h1;exact ho H en w n _ _ h1
theorem Fy{H:Type}{en:TypeId×Value->H}{w:World}{fuel:Nat}{cs:List Value}{x:DataW H×List MemPlace}{fs:Array Field}(ht:P.underlying t=some (.struct fs))(h:DataW.trod en P w 0 (fun _=>true) true fuel t cs=some x):cs.length=P.cellsOf t:=by obtain⟨xs,n,rfl,_,hl,_⟩:=DataW.trod_struct ht h;exact hl
theorem J8{H:Type}{en:TypeId×Value->H}{w:World}{fuel:Nat}{cs:List Value}{x:DataW H×List MemPlace}{n:Nat}(ht:P.underlying t=some (.array n e))(h:DataW.trod en P w 0 (fun _=>true) true fuel t cs=some x):cs.length=P.cellsOf t:=by obtain⟨_,_,_,_,hl,_⟩:=DataW.trod_array ht h;exact hl
theorem F1{H:Type}{en:TypeId×Value->H}{w:World}{fuel:Nat}{cs:List Value}{x:DataW H×List MemPlace}{n:Nat}(ht:P.underlying t=some (.array n e))(h:DataW.trod en P w 0 (fun _=>true) true fuel t cs=some x){i:Nat}(hi:i<n)
  {α:Type} {enc:α->List D} {fit:α->Prop} (ho:rW P e enc fit):∃a,fit a/\lw w ((cs.drop (i*P.cellsOf e)).take (P.cellsOf e)) (enc a):=by
 obtain⟨xs,m,_,_,_,hxl,hf⟩:=DataW.trod_array ht h;have h1:=hf i hi;have hlt:i<xs.length:=by omega
 rw[aC hlt]at h1;exact ho H en w m _ _ h1
theorem lw.field{w:World}{cs:List Value}{off n m:Nat}{a b:List D}(h1:lw w ((cs.drop off).take n) a)(hm:off+n=m)(h2:lw w (cs.drop m) b)(hl:m<=cs.length):lw w (cs.drop off) (a++b):=by refine lw.Ti h1 ?_ (by simp;omega);rw[List.drop_drop,hm];exact h2
theorem Az{w:World}{r:Reach}{b:Nat}{v:Value}(h:Value.okWide P w r b t v)(hs:match P.underlying t with|some (.struct _)|some (.array _ _)|some (.interface _)|some (.func ..)|some (.chan ..)|some .unsafePointer|some (.map _ _)=>False|_=>True):one v=true:=by
 unfold Value.okWide at h;split at h
 .rename_i he;rw[he]at hs;exact hs.elim
 .rename_i he;rw[he]at hs;exact hs.elim
 .unfold Cell.okWide at h;split at h
  all_goals first
   |(rename_i he;rw[he]at hs;exact hs.elim)
   |skip
  unfold Cell.ok at h;split at h<;>first|rfl|exact h.elim
theorem VU{α:Type}{d:α->D}{fit:α->Prop}(ho:rW P t (fun a=>[d a]) fit){w:World}{r:Reach}{b:Nat}{v:Value}(hv:Value.okWide P w r b t v)
  (hs:match P.underlying t with|some (.struct _)|some (.array _ _)|some (.interface _)|some (.func ..)|some (.chan ..)|some .unsafePointer|some (.map _ _)=>False|_=>True)
  {H:Type} {en:TypeId×Value->H} {x:DataW H} {ps:List MemPlace} (h:DataW.Trod en P w 0 (fun _=>true) true t v x ps):∃a,fit a/\RA (S0 w) w (.d (d a)) v []:=by
 obtain⟨fuel,h⟩:=h;obtain⟨a,h1,h2⟩:=ho H en w fuel _ _ h;have hone:=sN (Az hv hs);refine⟨a,h1,?_,rfl⟩;exact h2.2 0 _ v rfl (by rw[hone];rfl)
theorem Nc{α:Type}{enc:α->List D}{fit:α->Prop}(ho:rW P t enc fit){w:World}{v:Value}{aK:Array Value}(hv:v=.agg aK)
  {H:Type} {en:TypeId×Value->H} {x:DataW H} {ps:List MemPlace} (h:DataW.Trod en P w 0 (fun _=>true) true t v x ps):∃a,fit a/\RA (S0 w) w (.agg (enc a)) v []:=by
 subst hv;obtain⟨fuel,h⟩:=h;obtain⟨a,h1,h2⟩:=ho H en w fuel _ _ h;have h3:(Value.agg aK).cells.toList=aK.toList:=rfl;rw[h3]at h2;refine⟨a,h1,aK,rfl,by have:=h2.1;simpa using this.symm,fun i d hi=>?_,rfl⟩;have hlt:i<aK.size:=by have:=h2.1;have:=(ap.1 hi).1;simp at*;omega
 refine h2.2 i d _ hi ?_;rw[Array.getElem?_toList,Array.getD_eq_getD_getElem?,Array.getElem?_eq_getElem hlt];rfl
theorem PX{α:Type}{enc:α->List D}{fit:α->Prop}(ho:rW P t enc fit){w:World}{r:Reach}{b:Nat}{v:Value}(hv:Value.okWide P w r b t v){fs:Array Field}(hs:P.underlying t=some (.struct fs))
  {H:Type} {en:TypeId×Value->H} {x:DataW H} {ps:List MemPlace} (h:DataW.Trod en P w 0 (fun _=>true) true t v x ps):∃a,fit a/\RA (S0 w) w (.agg (enc a)) v []:=by
 unfold Value.okWide at hv;rw[hs]at hv;obtain⟨aK,hv,_,_⟩:=hv;exact Nc ho hv h
theorem PW{α:Type}{enc:α->List D}{fit:α->Prop}(ho:rW P t enc fit){w:World}{r:Reach}{b:Nat}{v:Value}(hv:Value.okWide P w r b t v){n:Nat}(hs:P.underlying t=some (.array n e))
  {H:Type} {en:TypeId×Value->H} {x:DataW H} {ps:List MemPlace} (h:DataW.Trod en P w 0 (fun _=>true) true t v x ps):∃a,fit a/\RA (S0 w) w (.agg (enc a)) v []:=by
 unfold Value.okWide at hv;rw[hs]at hv;obtain⟨aK,hv,_,_⟩:=hv;exact Nc ho hv h
theorem Ao{H:Type}{en:TypeId×Value->H}(hl:laidOutB P=true){W W':World}{sp:Nat->Bool}:∀{ts:List TypeId}{vs:List Value}{ds:List (DataW H)}{ps:List MemPlace},ts.all (fun t=>P.readableRec t&&decide (t<P.types.size))=true->
  DataW.TrodAll en P W 0 (fun _=>true) true ts vs ds ps->(∀p∈ps,W.sameAt W' p)->(∀p∈ps,sp p.block=true)->DataW.TrodAll en P W' 0 sp true ts vs ds ps:=by
 intro ts;induction ts with
 |nil=>intro vs ds ps _ h _ _;cases vs<;>cases ds<;>exact h
 |cons t ts ih=>
  intro vs ds ps hts h hsame hsp;cases vs with
  |nil=>cases ds<;>exact h
  |cons v vs=>
   cases ds with
   |nil=>exact h
   |cons d ds=>
    obtain⟨p,q,h1,h2,rfl⟩:=h;simp only[List.all_cons,Bool.and_eq_true,decide_eq_true_eq]at hts
    exact⟨p,q,WideElems.Trod_stays hl hts.1.1 hts.1.2 h1 (fun x hx=>hsame x (aI _ hx)) (fun x hx=>hsp x (aI _ hx)),
     ih hts.2 h2 (fun x hx=>hsame x (aG _ hx)) (fun x hx=>hsp x (aG _ hx)),rfl⟩
theorem BZ{P:Program}{H:Type}{enc:TypeId×Value->H}{f:Func}{s:ChangeSpec}{mH gx handsOn again:Bool}{W W':World}{args:Array Value}{v:Value}{ds gs:List (DataW H)}{e9 pa pv:List MemPlace}
  (hW:DataW.Whole enc P f.params.toList s.vars mH W args.toList ds gs e9)
  (hres:∀(b:Nat)(sp:Nat->Bool)(hd:Bool),DataW.TrodAll enc P W' b sp hd f.resultTypes.toList (v.resultList f.resultTypes.size) (s.fn H (ds++gs)).results [])
  (hargs:∀sp:Nat->Bool,(∀p∈e9,sp p.block=true)->DataW.TrodAll enc P W' 0 sp true f.params.toList args.toList (s.fn H (ds++gs)).args pa)
  (hvars:∀sp:Nat->Bool,(∀p∈e9,sp p.block=true)->DataW.TrodVars enc P W' sp s.vars (s.fn H (ds++gs)).vars pv)
  (hps:e9=pa++pv) (hk:W.keptBut W' (·∈e9)) (hfz:∀a,a.block<W.heap.size->W'.frozen? a=W.frozen? a)
  (mo:∀(j:Nat)(t:TypeId)(r:Value),f.resultTypes[j]?=some t->(v.resultList f.resultTypes.size)[j]?=some r->Value.okWide P W' .any 0 t r):
  s.post enc P f mH gx handsOn again W args v W':=by
 have hold:∀p∈e9,(fun b=>decide (b<W.heap.size)) p.block=true:=fun p hp=>by simpa using hW.lt p hp
 refine⟨ds,gs,e9,[],pa,pv,hW,hres _ _ _,hargs _ hold,hvars _ hold,World.keptBut_mono (fun p hp=>⟨hp,?_⟩) hk,fun _=>?_⟩
 .rw [hps,List.mem_append]at hp;exact Or.inr hp
 .have hlt:=fun p hp=>hW.lt p hp;obtain⟨_,_,_,_,_,hz,hn⟩:=hW;refine⟨mo,_,_,([]++pa)++pv,⟨[]++pa,pv,trodAll_append (hargs _ (fun _ _=>rfl)) (hres _ _ _),hvars _ (fun _ _=>rfl),rfl,?_,?_⟩,?_⟩
  .intro b off hp;rw[hfz _ (hlt _ (by rw[hps];simpa using hp))];exact hz b off (by rw[hps];simpa using hp)
  .intro ha;have:=hn ha;rw[hps]at this;simpa using this
  .intro p hp _;rw[hps];simpa using hp
theorem MM{f:FuncId}{fn:Func}{s:ChangeSpec}{mH gx handsOn again:Bool}{tb:TypeId}{H:Type}{en:TypeId×Value->H}(hl:laidOutB P=true)(hfn:P.funcs[f]?=some fn)(hbody:fn.body.isSome=true)(hname:(fn.name== "runtime.NumGoroutine")=false)
  (hts:fn.params.toList.all (fun t=>P.readableRec t&&decide (t<P.types.size))=true) (hrt:fn.resultTypes= #[tb]) (htb:P.underlying tb=some .bool) (hvars:s.vars=[])
  {W:World} {args:Array Value} {ds gs:List (DataW H)} {e9:List MemPlace} (hW:DataW.Whole en P fn.params.toList s.vars mH W args.toList ds gs e9)
  (hspec:(s.fn H (ds++gs)).results=[.lit (.bool true)]/\(s.fn H (ds++gs)).args=ds/\(s.fn H (ds++gs)).vars=[])
  (hgl:CW (S0 W) W) (hG:∃as,Ny (S0 W) W as args.toList []/\yf P f as [.c (.d (.lit (.bool true)))] []):
  Calls P f args W fun e W'=>∃v,e=.returned v/\s.post en P fn mH gx handsOn again W args v W':=by
 obtain⟨as,hras,hgood⟩:=hG;have hent:=hgood (S0 W) W args.toList [] (fun b hb=>hb) hras List.nodup_nil (fun b hb=>by simp at hb) hgl;have hcall:(callFunc f args).run P W=.ok (.enter f args) W:=by have hb:∃c,fn.body=some c:=Option.isSome_iff_exists.1 hbody;obtain⟨c,hb⟩:=hb;simp[callFunc,run_program,hfn,hb];intro e;rw[e]at hname;simp at hname
 rw[Array.toArray_toList]at hent;rcases hent with⟨g,as',h1,h2⟩|⟨v,h1,_⟩
 .rw [hcall]at h1;obtain⟨⟨rfl,rfl⟩,_⟩:(f=g/\args=as')/\True:=by simpa using h1
  refine h2.mono fun e W' hp=>?_;obtain⟨v,rfl,S',kW,fp1,fp2,rfl,eU,hsub,hlt,hrr,hrt',hnd,hb,hfrm⟩:=hp
  have hv:yZ kW=.bool true:=by
   cases kW with
   |nil=>exact hrr.elim
   |cons v kW=>
    obtain⟨f1,f2,_,h3,h4⟩:=hrr;cases kW with
    |cons _ _=>exact h4.elim
    |nil=>cases h3 with|d h5=>cases h5;rfl
  refine⟨_,rfl,?_⟩;rw[hv];have hheap:∀b,b<W.heap.size->W'.heap[b]?=W.heap[b]?:=fun b hb=>eU.ez b hb;obtain⟨p,q,hA,hV,hpq,hfz,hno⟩:=id hW;have hV':DataW.TrodVars en P W (fun _=>true) [] gs q:=by rw[<-hvars];exact hV
  obtain⟨rfl,rfl⟩:=trodVars_none hV'
  have hkept:∀may:MemPlace->Prop,W.keptBut W' may:=by
   intro may;refine⟨hfrm.io.1,hfrm.io.2.1,fun i hi=>?_⟩;have:=hheap i hi;rw[this];cases hx:W.heap[i]?with
   |none=>trivial
   |some o=>cases o<;>simp
  refine BZ (pa:=e9) (pv:=[]) hW (fun _ _ _=>?_) (fun sp hsp=>?_) (fun _ _=>?_) (by simp) (hkept _) hfrm.Ba ?_
  .rw [hspec.1,hrt];exact trodAll_cons_mk (shut_bool htb _) trodAll_mk0
  .rw [hspec.2.1];have hbp:e9=p:=by rw[hpq,List.append_nil]
   refine Ao hl hts (by rw[hbp];exact hA) (fun x hx=>?_) hsp;have hx':=hW.lt x hx;have hs:=hheap x.block hx';cases x with|cell b off=>exact mY hs off|map b=>exact hs
  .rw [hspec.2.2,hvars];rfl
  .exact ok_one hrt rfl (okWide_bool_mk htb _)
 .rw [hcall]at h1;simp at h1
end
theorem Jp{S:Nat->Prop}{w:World}(h:∀g,Vv g=none):CW S w:=fun g d hg=>by rw[h g]at hg;simp at hg
end Go.Ev
