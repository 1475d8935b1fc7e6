/- Typed data over the abstract machine, and what its operations do to it. Conditions: as stated. -/
import Derived.Test.YtoekkpmeeclpeaaGreatEvW
import Derived.OpenShut
import Derived.WideKeyArgs
import Derived.Deep.Slices
import Derived.ProofKit
import Derived.WalkKit
import Derived.JoinedCond
open Array renaming getElem?_eq_some_iff->bq
open BitVec renaming ofInt->cU
open List renaming getElem?_eq_getElem->ao,getElem?_eq_some_iff->aB,getElem?_map->aN,mem_append_left->aU,mem_append_right->aX,range->bm
open Option renaming map_eq_some_iff->aH
open Option.some renaming inj->aa
noncomputable section
namespace Go.Ev
inductive Sl(α:Type)where
 |nil
 |mk (l:List α)
 deriving Inhabited,DecidableEq
def Sl.l{α:Type}:Sl α->List α
 |.nil=>[]
 |.mk l=>l
@[simp] theorem Sl.ZO {α:Type} (l:List α):(Sl.mk l).l=l:=rfl
@[simp] theorem Sl.Y5 {α:Type}:(Sl.nil:Sl α).l=[]:=rfl
def Sl.fA{α:Type}:Sl α->Bool
 |.nil=>true
 |.mk _=>false
abbrev dI(k:IntKind)(n:Int):D:=.lit (.int k n)
abbrev dB(b:Bool):D:=.lit (.bool b)
abbrev dS(s:ByteArray):D:=.lit (.string s)
abbrev tI(k:IntKind)(n:Int):TV:=.c (.d (.lit (.int k n)))
abbrev tB(b:Bool):TV:=.c (.d (.lit (.bool b)))
def yS{α:Type}(sz:Nat)(enc:α->List D):Sl α->D
 |.nil=>.lit (.slice none 0 0)
 |.mk l=>.sl sz (l.map enc)
def nA{α:Type}(sz:Nat)(enc:α->List D)(id:Nat):Sl α->C
 |.nil=>.d (.lit (.slice none 0 0))
 |.mk l=>.fx sz id 0 (l.map enc).length
def Sc{α:Type}(sz:Nat)(enc:α->List D):Sl α->T
 |.nil=>.d (.lit (.slice none 0 0))
 |.mk l=>.sl sz (l.map enc)
abbrev wr(k:IntKind)(n:Int):Int:=k.wrap n
def RE(k:IntKind)(a b:Int):Int:=k.wrap (cU k.bits a&&&cU k.bits b).toNat
def RB:{f:IntKind->Int->Int->Int//f=RE}:=Classical.choice ⟨⟨_,rfl⟩⟩
def A9(k:IntKind)(a b:Int):Int:=RB.1 k a b
theorem JH:A9=RE:=funext fun k=>funext fun a=>funext fun b=>congrFun (congrFun (congrFun RB.2 k) a) b
def Vp(k:IntKind)(a b:Int):Int:=k.wrap (cU k.bits a|||cU k.bits b).toNat
def Vo:{f:IntKind->Int->Int->Int//f=Vp}:=Classical.choice ⟨⟨_,rfl⟩⟩
def YM(k:IntKind)(a b:Int):Int:=Vo.1 k a b
theorem TO:YM=Vp:=funext fun k=>funext fun a=>funext fun b=>congrFun (congrFun (congrFun Vo.2 k) a) b
def Rz(k:IntKind)(a b:Int):Int:=k.wrap (cU k.bits a^^^cU k.bits b).toNat
def Ry:{f:IntKind->Int->Int->Int//f=Rz}:=Classical.choice ⟨⟨_,rfl⟩⟩
def TM(k:IntKind)(a b:Int):Int:=Ry.1 k a b
theorem QR:TM=Rz:=funext fun k=>funext fun a=>funext fun b=>congrFun (congrFun (congrFun Ry.2 k) a) b
def Gm(k:IntKind)(a b:Int):Int:=k.wrap (cU k.bits a&&&~~~cU k.bits b).toNat
def Gl:{f:IntKind->Int->Int->Int//f=Gm}:=Classical.choice ⟨⟨_,rfl⟩⟩
def zx(k:IntKind)(a b:Int):Int:=Gl.1 k a b
theorem Ir:zx=Gm:=funext fun k=>funext fun a=>funext fun b=>congrFun (congrFun (congrFun Gl.2 k) a) b
def YN(k:IntKind)(a:Int):Int:=k.wrap (cU k.bits (if k.signed then-1 else k.max)^^^cU k.bits a).toNat
def TN(k:IntKind)(a b:Int):Int:=k.wrap (a*2^(min b.toNat k.bits))
def fV(k:IntKind)(a b:Int):Int:=a.fdiv (2^(min b.toNat k.bits))
def Tu(k:IntKind)(a b:Int):Option Int:=if b=0 then none else some (k.wrap (a.tdiv b))
def So(_:IntKind)(a b:Int):Option Int:=if b=0 then none else some (a.tmod b)
def Se(k:IntKind)(a b:Int):Option Int:=if b<0 then none else some (TN k a b)
def Sd(k:IntKind)(a b:Int):Option Int:=if b<0 then none else some (fV k a b)
def TF(a b:ByteArray):Option ByteArray:=if((a.size+b.size:Nat):Int)>IntKind.i64.max then none else some (a++b)
def VH(s:ByteArray)(i:Int):Option Int:=if 0<=i then s[i.toNat]?.map fun b=>(b.toNat:Int)else none
def Bo(s:ByteArray)(lo hi:Int):Option ByteArray:=if 0<=lo/\lo<=hi/\hi<=s.size then some (s.extract lo.toNat hi.toNat)else none
def D2{α:Type}(z:α)(l c:Int):Option (List α):=if 0<=l/\l<=c/\c<=2147483648 then some (List.replicate l.toNat z)else none
def Sl.to{α:Type}(s:Sl α)(r:List α):Sl α:=match s with|.nil=>.nil|.mk _=>.mk r
section
variable{c:Ev.Call}{H:bp}{nx:Nat}{k:IntKind}{a b x:Int}{s t u:ByteArray}
theorem Ti(h:Tu k a b=some x):ci c (.A6 .quo) [some (tI k a),some (tI k b)] H nx=some (tI k x,[],[],nx):=by
 unfold Tu at h;split at h
 .simp at h
 .rename_i hb;obtain rfl:=aa h;simp[ci,pU,qA,hb,lv]
theorem Th(h:So k a b=some x):ci c (.A6 .rem) [some (tI k a),some (tI k b)] H nx=some (tI k x,[],[],nx):=by
 unfold So at h;split at h
 .simp at h
 .rename_i hb;obtain rfl:=aa h;simp[ci,pU,qA,hb,lv]
theorem Tg{k2:IntKind}(h:Se k a b=some x):ci c (.A6 .shl) [some (tI k a),some (tI k2 b)] H nx=some (tI k x,[],[],nx):=by
 unfold Se at h;split at h
 .simp at h
 .rename_i hb;obtain rfl:=aa h;simp[ci,pU,qA,hb,lv,TN]
theorem Tf{k2:IntKind}(h:Sd k a b=some x):ci c (.A6 .shr) [some (tI k a),some (tI k2 b)] H nx=some (tI k x,[],[],nx):=by
 unfold Sd at h;split at h
 .simp at h
 .rename_i hb;obtain rfl:=aa h;simp[ci,pU,qA,hb,lv,fV]
theorem Tj(h:TF s t=some u):ci c (.A6 .add) [some (.c (.d (dS s))),some (.c (.d (dS t)))] H nx=some (.c (.d (dS u)),[],[],nx):=by
 unfold TF at h;split at h
 .simp at h
 .rename_i hb;obtain rfl:=aa h;simp only[ci,pU,qA];rw[if_neg hb];rfl
theorem U8(h:VH s a=some x):ci c .ql [some (.c (.d (dS s))),some (tI k a)] H nx=some (tI .u8 x,[],[],nx):=by
 unfold VH at h;split at h
 .rename_i ha;obtain⟨y,hy,rfl⟩:=aH.1 h;simp[ci,ce];rw[if_pos ha,hy];rfl
 .simp at h
end
def cC(i:Int)(n:Nat):Option Nat:=if 0<=i/\i<n then some i.toNat else none
theorem dO{i:Int}{n m:Nat}:cC i n=some m<->i=m/\m<n:=by
 unfold cC
 grind
theorem dA{i n:Nat}(h:i<n):cC (i:Int) n=some i:=dO.2 ⟨rfl,h⟩
def gt{α:Type}[Inhabited α](l:List α)(n:Nat):α:=l.getD n default
theorem S6{α:Type}[Inhabited α]{l:List α}{n:Nat}(h:n<l.length):l[n]?=some (gt l n):=by simp[gt,h]
theorem ju{α:Type}[Inhabited α]{l:List α}{n:Nat}(h:n<l.length):gt l n=l[n]:=by simp[gt,h]
theorem Dv{α:Type}[Inhabited α]{l:List α}{n:Nat}{enc:α->List D}(h:n<l.length):(l.map enc)[n]?=some (enc (gt l n)):=by rw[aN,S6 h];rfl
def kc{α:Type}(l:List α):Option (List α):=if l.length<=2147483648 then some l else none
theorem iP{α:Type}{l m:List α}:kc l=some m<->l=m/\l.length<=2147483648:=by
 unfold kc
 grind
theorem u4{α:Type}{l:List α}(h:l.length<=2147483648):kc l=some l:=iP.2 ⟨rfl,h⟩
def nR{α:Type}(l:List α)(lo hi:Int):Option (List α):=if 0<=lo/\lo<=hi/\hi<=l.length then some ((l.drop lo.toNat).take (hi.toNat-lo.toNat))else none
theorem pT{α β:Type}{x:Option α}{f:α->Option β}{r:β}(h:x.bind f=some r):∃a,x=some a/\f a=some r:=Option.bind_eq_some_iff.1 h
theorem uV{α:Type}{l:List α}{enc:α->List D}:((l.map enc).drop 0).take (l.map enc).length=l.map enc:=by rw[List.drop_zero,List.take_length]
theorem QC{α:Type}{l:List α}{enc:α->List D}{a b:Nat}:((l.map enc).drop a).take b=((l.drop a).take b).map enc:=by rw[List.map_take,List.map_drop]
section
variable{α:Type}{c:Ev.Call}{H:bp}{nx sz id off len m n:Nat}{k:IntKind}{i:Int}{enc:α->List D}{s:Sl α}{l:List α}{agg:Bool}{v:TV}
theorem Y0{k:Nat}(hl:au H id=some (.aG sz (l.map enc))):dE H k (.fx sz id 0 (l.map enc).length)=some (.sl sz (l.map enc),[id],[id]):=by
 have:dE H k (.fx sz id 0 (l.map enc).length)=(if 0+(l.map enc).length<=(l.map enc).length then some (.sl sz (((l.map enc).drop 0).take (l.map enc).length),[id],[id])else none):=by cases k<;>simp[dE,hl]
 rw[this,if_pos (by omega),uV]
theorem Tz{lo hi:Int}{r:List α}(hc:nR l lo hi=some r):lo.toNat+(r.map enc).length<=(l.map enc).length/\((l.map enc).drop lo.toNat).take (r.map enc).length=r.map enc:=by
 unfold nR at hc;split at hc
 .grind [QC]
 .simp at hc
theorem VI{bk rd:List Nat}{r:List (C×List Nat×List Nat)}(hl:au H id=some (.aG sz (l.map enc)))(h:dY H r=true):dY H ((.fx sz id 0 (l.map enc).length,bk,rd)::r)=true:=by simp[dY,hl,h]
theorem US[Inhabited α](h:cC i s.l.length=some n):ci c (.indexAddr none sz) [some (.c (.d (yS sz enc s))),some (tI k i)] H nx=some (.c (.d (.pt (enc (gt s.l n)))),[],[],nx):=by obtain⟨rfl,hn⟩:=dO.1 h;cases s with|nil=>simp at hn|mk l=>have hn':n<l.length:=hn;simp only[ci,ce,iJ,yS,Int.toNat_natCast];rw[Dv hn'];rfl
theorem Yx(h:cC i l.length=some n):ci c (.indexAddr none sz) [some (.c (.fx sz id 0 (l.map enc).length)),some (tI k i)] H nx=some (.c (.ep id n 0),[],[],nx):=by obtain⟨rfl,hn⟩:=dO.1 h;simp_all[ci,ce,iJ]
theorem UT(h:cC i l.length=some n):ci c (.indexAddr none sz) [some (.c (.fx sz id off (l.map enc).length)),some (tI k i)] H nx=some (.c (.ep id (off+n) 0),[],[],nx):=by obtain⟨rfl,hn⟩:=dO.1 h;simp_all[ci,ce,iJ]
theorem NB{X:Prop}(h:cC i (Sl.l (Sl.nil:Sl α)).length=some n):X:=by obtain⟨_,hn⟩:=dO.1 h;simp at hn
theorem Pt[Inhabited α]{cs:List C}{ds:List D}{av:List Nat}{u:eW}{y:α}(hl:au H id=some (.aG sz (l.map enc)))(hn:n<l.length)(hc:cellsOf v=some cs)(hm:cs.length=m)(hw:dn H cs=some (ds,av))(hf:c8 H av av=some u)
  (hid:av.contains id=false) (hlen:off+m<=(enc (gt l n)).length)
  (hy:aT (enc (gt l n)) off ds=enc y):ci c (.store m) [some (.c (.ep id n off)),some v] H nx=some (.gX [],(id,some (.aG sz ((l.set n y).map enc)))::u,id::av,nx):=by
 simp only[ci,mN,hc,hm,if_true,hl,Dv hn,hw,hf];rw[if_pos ⟨hlen,hid⟩,hy,List.map_set]
theorem SV:ci c (.len false) [some (.c (.d (yS sz enc s)))] H nx=some (tI .i64 s.l.length,[],[],nx):=by cases s with|nil=>rfl|mk l=>simp[ci,vu,yS,lv]
theorem Rl:ci c (.len false) [some (.c (nA sz enc id s))] H nx=some (tI .i64 s.l.length,[],[],nx):=by cases s with|nil=>rfl|mk l=>simp[ci,vu,nA,lv]
theorem SN{neg:Bool}:ci c (.rT 0 neg) [some (.c (.d (yS sz enc s)))] H nx=some (tB (if neg then !s.fA else s.fA),[],[],nx):=by cases s<;>rfl
theorem UL{neg:Bool}:ci c (.rT 0 neg) [some (.c (nA sz enc id s))] H nx=some (tB (if neg then !s.fA else s.fA),[],[],nx):=by cases s<;>rfl
theorem PD:jh sz H (.d (yS sz enc s))=some (s.l.map enc,[]):=by cases s with|nil=>rfl|mk l=>simp[jh,yS]
theorem pY{l r:List α}{lo hi:Int}:nR l lo hi=some r<->(0<=lo/\lo<=hi/\hi<=l.length)/\(l.drop lo.toNat).take (hi.toNat-lo.toNat)=r:=by
 grind [nR]
theorem Vk{lo hi:Option Int}{r:List α}(hc:nR l (lo.getD 0) (hi.getD l.length)=some r):fI false sz (.fx sz id 0 (l.map enc).length) lo hi=some (.fx sz id (lo.getD 0).toNat (r.map enc).length):=by
 obtain⟨h,rfl⟩:=pY.1 hc;simp[fI]
 grind
theorem Tw{lo hi:Option Int}{r:List α}(hc:nR s.l (lo.getD 0) (hi.getD s.l.length)=some r):fI false sz (.d (yS sz enc s)) lo hi=some (.d (yS sz enc (s.to r))):=by obtain⟨h,rfl⟩:=pY.1 hc;cases s with|nil=>simp[fI];rw[if_pos ⟨h.1,h.2.1,by simpa using h.2.2⟩];rfl|mk l=>simp_all[fI,yS,Sl.to]
theorem Oi{lo hi:Option Int}{r:List α}(hc:nR (Sl.l (Sl.nil:Sl α)) (lo.getD 0) (hi.getD (Sl.l (Sl.nil:Sl α)).length)=some r):fI false sz (.d (.lit (.slice none 0 0))) lo hi=some (.d (.lit (.slice none 0 0))):=by obtain⟨h,rfl⟩:=pY.1 hc;simp only[fI,Bool.false_eq_true,if_false];rw[if_pos ⟨h.1,h.2.1,by simpa using h.2.2⟩]
section
variable{r:List α}{i j:Int}{k k2:IntKind}
def Cw(l:List α)(off n:Nat)(x:List α):List α:=aT l off (x.take n)
theorem H6{off n:Nat}{x:List α}:aT (l.map enc) off ((x.map enc).take n)=(Cw l off n x).map enc:=by simp[Cw,aT]
theorem TB{xc:C}{x:List α}{av:List Nat}(hl:au H id=some (.aG sz (l.map enc)))(hx:jh sz H xc=some (x.map enc,av)):
  ci c (.copy sz) [some (.c (.fx sz id 0 (l.map enc).length)),some (.c xc)] H nx=some (tI .i64 (min x.length l.length:Nat),[(id,some (.aG sz ((Cw l 0 l.length x).map enc)))],id::av,nx):=by
 simp only[ci,mY,hx,hl];simp[H6];rfl
theorem vZ{off n:Nat}{x:List α}(h:off+n<=l.length):(Cw l off n x).length=l.length:=eL _ _ _ (by simp;omega)
def P_(a b:List α):Option Unit:=if a.length=b.length then some ()else none
theorem Ch{a b:List α}{u:Unit}:P_ a b=some u<->a.length=b.length:=by unfold P_;split<;>simp_all
theorem Qv{z:α}{zero:List Value}{n m:Int}(hz:dj zero=enc z)(h:D2 z n m=some l):ci c (.makeSlice zero) [some (tI k n),some (tI k2 m)] H nx=some (.c (.fx zero.length nx 0 (l.map enc).length),[(nx,some (.aG zero.length (l.map enc)))],[],nx+1):=by
 unfold D2 at h;split at h
 .obtain rfl:=aa h;simp_all[ci,ce,KU]
 .simp at h
end
end
structure Mp(K V:Type)where
 es:List (K×V×Nat)
 bE:Nat
def Mp.none{K V:Type}:Mp K V:=⟨[],0⟩
instance{K V:Type}:Inhabited (Mp K V):=⟨.none⟩
section
variable{κ ν:Type}
def gL[DecidableEq κ](k:κ):List (κ×ν×Nat)->Nat->Option (Nat×κ×ν×Nat)
 |[],_=>none
 |e::r,i=>if k=e.1 then some (i,e)else gL k r (i+1)
def pu[DecidableEq κ](m:Mp κ ν)(z:ν)(k:κ):ν:=match gL k m.es 0 with|some (_,e)=>e.2.1|none=>z
def Nc[DecidableEq κ](m:Mp κ ν)(k:κ):Bool:=(gL k m.es 0).isSome
def mB[DecidableEq κ](m:Mp κ ν)(z:ν)(k:κ):Mp κ ν×ν×Int:=match gL k m.es 0 with|some (_,e)=>(m,e.2.1,e.2.2)|none=>(⟨m.es++[(k,z,m.bE)],m.bE+1⟩,z,m.bE)
def tn:List (κ×ν×Nat)->Nat->ν->List (κ×ν×Nat)
 |[],_,_=>[]
 |e::r,0,v=>(e.1,v,e.2.2)::r
 |e::r,i+1,v=>e::tn r i v
def yF(m:Mp κ ν)(s:Int)(v:ν):Option (Mp κ ν):=(m.es.findIdx? (fun e=>decide ((e.2.2:Int)=s))).map fun i=>⟨tn m.es i v,m.bE⟩
def Dh(ek:κ->List Value)(ev:ν->List D)(e:κ×ν×Nat):r_:=(ek e.1,ev e.2.1,e.2.2)
def Ar(ka va:Bool)(ek:κ->List Value)(ev:ν->List D)(m:Mp κ ν):Option Ob:=some (.map ka va (m.es.map (Dh ek ev)) m.bE)
variable{ek:κ->List Value}{ev:ν->List D}{ks:List Kd}{ka va:Bool}
theorem lI[DecidableEq κ]{k:κ}:∀{l:List (κ×ν×Nat)}{i j:Nat}{e:κ×ν×Nat},gL k l i=some (j,e)->i<=j/\l[j-i]?=some e/\e.1=k:=by
 intro l;induction l with
 |nil=>intro i j e h;simp[gL]at h
 |cons x l ih=>
  intro i j e h;simp[gL]at h
  grind
theorem uk[DecidableEq κ](heq:∀a b,ge ks (ek a) (ek b)=some (decide (a=b)))(k:κ):∀(l:List (κ×ν×Nat))(i:Nat),mE ks (ek k) (l.map (Dh ek ev)) i=some ((gL k l i).map (·.1)):=by
 intro l;induction l with
 |nil=>intro i;rfl
 |cons x l ih=>
  simp[mE,gL];have:(Dh ek ev x).1=ek x.1:=rfl
  grind
theorem Va{l:List (κ×ν×Nat)}{j:Nat}{e:κ×ν×Nat}(h:l[j]?=some e):(l.map (Dh ek ev)).getD j default=Dh ek ev e:=by simp[h]
variable{m:Mp κ ν}{z:ν}{k:κ}{zero:List Value}{tv:ν->TV}{kt:TV}{H:bp}{id nx:Nat}{c:Call}
theorem SP[DecidableEq κ](hl:au H id=Ar ka va ek ev m)(hk:ng ka ks kt=some (ek k))(heq:∀a b,ge ks (ek a) (ek b)=some (decide (a=b)))(hz:dj zero=ev z)(hv:∀x,qE va (ev x)=some (tv x)):
  ci c (.lookup ka ks va zero false) [some (.c (.om id)),some kt] H nx=some (tv (pu m z k),[],[id],nx):=by
 have h:=uk (ev:=ev) heq k m.es 0;simp[ci,ir,hk,hl,Ar];unfold pu;cases hf:gL k m.es 0 with|none=>simp_all|some p=>obtain⟨_,h2,_⟩:=lI hf;simp_all[Dh]
theorem P9[DecidableEq κ](hl:au H id=Ar ka va ek ev m)(hk:ng ka ks kt=some (ek k))(heq:∀a b,ge ks (ek a) (ek b)=some (decide (a=b)))(hz:dj zero=ev z)(hv:∀x,qE va (ev x)=some (tv x)):
  ci c (.lookup ka ks va zero true) [some (.c (.om id)),some kt] H nx=some (.gX [tv (pu m z k),tB (Nc m k)],[],[id],nx):=by
 have h:=uk (ev:=ev) heq k m.es 0;simp[ci,ir,hk,hl,Ar,and_self,if_true,h];unfold pu Nc;cases hf:gL k m.es 0 with|none=>simp[hz,hv,lv]|some p=>obtain⟨_,h2,_⟩:=lI hf;simp_all[Dh,lv]
theorem U_[DecidableEq κ](hl:au H id=Ar ka va ek ev m)(hk:ng ka ks kt=some (ek k))(heq:∀a b,ge ks (ek a) (ek b)=some (decide (a=b)))(hz:dj zero=ev z)(hv:∀x,qE va (ev x)=some (tv x)):
  ci c (.mapEntry ka ks va zero) [some (.c (.om id)),some kt] H nx=some (.gX [tv (mB m z k).2.1,tI .i64 (mB m z k).2.2],[(id,Ar ka va ek ev (mB m z k).1)],[id],nx):=by
 have h:=uk (ev:=ev) heq k m.es 0;simp[ci,nP,hk,hl,Ar,h];unfold mB;cases hf:gL k m.es 0 with|none=>grind [lv,Dh]|some p=>obtain⟨_,h2,_⟩:=lI hf;simp_all[Dh,lv]
theorem Cd{ds:List D}{v:ν}(hd:ev v=ds):∀{l:List (κ×ν×Nat)}{i:Nat},i<l.length->
  (l.map (Dh ek ev)).set i (((l.map (Dh ek ev)).getD i default).1,ds,((l.map (Dh ek ev)).getD i default).2.2)=(tn l i v).map (Dh ek ev):=by
 intro l;induction l with
 |nil=>intro i h;simp at h
 |cons x l ih=>intro i h;cases i with|zero=>simp[tn,Dh,hd]|succ i=>have:=ih (by simpa using h);simp only[List.map_cons,List.set_cons_succ,List.getD_cons_succ,tn];rw[this]
theorem U9{m':Mp κ ν}{s:Int}{v:ν}{n:Nat}{xv:TV}{kd:IntKind}(hs:yF m s v=some m')(hl:au H id=Ar ka va ek ev m)(hx:(cellsOf xv).bind AS=some (ev v))(hn:(ev v).length=n)(ha:qR xv=va):
  ci c (.entryStore va n) [some (.c (.om id)),some (tI kd s),some xv] H nx=some (.gX [],[(id,Ar ka va ek ev m')],[id],nx):=by
 obtain⟨i,hi,rfl⟩:=aH.1 hs;have hf:(m.es.map (Dh ek ev)).findIdx? (fun e=>decide ((e.2.2:Int)=s))=some i:=by rw[List.findIdx?_map];exact hi
 have hlt:i<m.es.length:=by
  grind [List.findIdx?_eq_some_iff_getElem]
 simp only[ci,nQ,ce,hx,hl,Ar,hn,ha,and_self,if_true,hf,Cd rfl hlt]
def Fj[DecidableEq κ](m:Mp κ ν)(k:κ)(v:ν):Mp κ ν:=match gL k m.es 0 with|some (i,_)=>⟨tn m.es i v,m.bE⟩|none=>⟨m.es++[(k,v,m.bE)],m.bE+1⟩
def Fm[DecidableEq κ](m:Mp κ ν)(k:κ):Mp κ ν:=match gL k m.es 0 with|some (i,_)=>⟨m.es.eraseIdx i,m.bE⟩|none=>m
theorem Uk[DecidableEq κ]{v:ν}{n:Nat}{xv:TV}(hl:au H id=Ar ka va ek ev m)(hk:ng ka ks kt=some (ek k))(heq:∀a b,ge ks (ek a) (ek b)=some (decide (a=b)))(hx:cellsOf xv=some ((ev v).map .d))(hv:dn H ((ev v).map .d)=some (ev v,[]))
  (hn:(ev v).length=n) (ha:qR xv=va):ci c (.uc ka ks va n) [some (.c (.om id)),some kt,some xv] H nx=some (.gX [],[(id,Ar ka va ek ev (Fj m k v))],[id],nx):=by
 have h:=uk (ev:=ev) heq k m.es 0;have e0:c8 H [] []=some []:=rfl;simp only[ci,sX,hk,hx,hv,e0,hl,Ar];rw[if_pos ⟨trivial,trivial,hn,ha,rfl⟩];simp only[h];unfold Fj;cases hf:gL k m.es 0 with
 |none=>simp[Dh]
 |some p=>
  obtain⟨i,e⟩:=p;obtain⟨_,h2,_⟩:=lI hf;have hlt:i<m.es.length:=by grind
  simp only[Option.map_some,Cd rfl hlt]
theorem Vd[DecidableEq κ](hl:au H id=Ar ka va ek ev m)(hk:ng ka ks kt=some (ek k))(heq:∀a b,ge ks (ek a) (ek b)=some (decide (a=b))):
  ci c (.ud ka ks) [some (.c (.om id)),some kt] H nx=some (.gX [],[(id,Ar ka va ek ev (Fm m k))],[id],nx):=by
 have h:=uk (ev:=ev) heq k m.es 0
 have er:∀(l:List _)(i:Nat),(l.map (Dh ek ev)).eraseIdx i=(l.eraseIdx i).map (Dh ek ev):=by
  intro l;induction l with
  |nil=>intro i;rfl
  |cons x l ih=>intro i;cases i with|zero=>rfl|succ i=>simp_all
 simp[ci,sY,hk,hl,Ar];unfold Fm
 grind
end
open Go.ChangeShapes Go.WideShapes Go.ChangeAt Go.RowKit
def S0(w:World)(b:Nat):Prop:=b<w.heap.size
def kX(w:World)(cs:List Value)(ds:List D):Prop:=cs.length=ds.length/\∀(j:Nat)(d:D)(v:Value),ds[j]?=some d->cs[j]?=some v->RD (S0 w) w d v
def rZ(P:Program)(t:TypeId){α:Type}(enc:α->List D)(fit:α->Prop):Prop:=∀(H:Type)(e:TypeId×Value->H)(w:World)(fuel:Nat)(cs:List Value)(x:DataW H×List MemPlace),DataW.trod e P w 0 (fun _=>true) true fuel t cs=some x->∃a,fit a/\kX w cs (enc a)
section
variable{P:Program}{t e:TypeId}
theorem kX.one{w:World}{v:Value}{d:D}(h:RD (S0 w) w d v):kX w [v] [d]:=by refine⟨rfl,fun j d' v' hd hv=>?_⟩;cases j with|zero=>obtain rfl:=aa hd;obtain rfl:=aa hv;exact h|succ j=>simp at hd
theorem kX.yZ{w:World}{cs:List Value}{n:Nat}{a b:List D}(h1:kX w (cs.take n) a)(h2:kX w (cs.drop n) b)(hn:n<=cs.length):kX w cs (a++b):=by
 have l1:n=a.length:=by rw[<-h1.1];simp;omega
 refine⟨by have:=h1.1;have:=h2.1;simp at*;omega,fun j d v hd hv=>?_⟩;by_cases hj:j<a.length
 .rw [List.getElem?_append_left hj]at hd;exact h1.2 j d v hd (by rw[List.getElem?_take,if_pos (by omega)];exact hv)
 .rw [List.getElem?_append_right (by omega)]at hd;refine h2.2 (j-a.length) d v hd ?_;rw[List.getElem?_drop,l1,show a.length+(j-a.length)=j by omega];exact hv
theorem kX.nil{w:World}{cs:List Value}(h:cs.length=0):kX w cs []:=⟨h,fun j d v hd=>by simp at hd⟩
theorem Kx{k:IntKind}(ht:P.underlying t=some (.int k)):rZ P t (fun x:Int=>[dI k x]) (fun x=>k.min<=x/\x<=k.max):=by intro H en w fuel cs x h;obtain⟨n,rfl,_,hw⟩:=DataW.trod_int ht h;exact⟨n,by simpa[Lit.wf]using hw,.one (.lit rfl)⟩
theorem Hs(ht:P.underlying t=some .bool):rZ P t (fun x:Bool=>[dB x]) (fun _=>True):=by intro H en w fuel cs x h;obtain⟨n,rfl,_⟩:=DataW.trod_bool ht h;exact⟨n,trivial,.one (.lit rfl)⟩
theorem Dc(ht:P.underlying t=some .string):rZ P t (fun x:ByteArray=>[dS x]) (fun s=>s.size<=maxLen):=by intro H en w fuel cs x h;obtain⟨n,rfl,_,hm⟩:=DataW.trod_string ht h;exact⟨n,hm,.one (.lit rfl)⟩
theorem E2{k:FloatKind}(ht:P.underlying t=some (.float k)):rZ P t (fun x:Nat=>[D.lit (.float k x)]) (fun b=>(Lit.float k b).wf=true):=by
 intro H en w fuel cs x h;cases fuel with
 |zero=>simp[DataW.trod]at h
 |succ n=>
  unfold DataW.trod at h;simp only[ht]at h
  match cs,h with
  |[.float k' b],h=>
   simp only at h;split at h
   .rename_i hw;obtain⟨rfl,hw⟩:=hw;exact⟨b,hw,.one (.lit rfl)⟩
   .simp at h
theorem E1{α:Type}[Inhabited α]{enc:α->List D}{fit:α->Prop}{sz:Nat}(ht:P.underlying t=some (.slice e))(hc:P.cellsOf e=sz)(hsz:0<sz)(hlen:∀a,(enc a).length=sz)(he:rZ P e enc fit):
  rZ P t (fun s:Sl α=>[yS sz enc s]) (fun s=>s.l.length<=maxLen/\∀x∈s.l,fit x):=by
 intro H en w fuel cs x h;rcases Go.Deep.open_slice ht h with⟨rfl,_⟩|⟨a,len,cap,m,n,D',Pl,rfl,hb,hl,hmax,hm,_,hx⟩
 .exact ⟨.nil,⟨by simp[Sl.l],by simp[Sl.l]⟩,.one (.lit rfl)⟩
 .simp only[if_true]at hm;rw[hm]at hx;have hx':∀i,i<len->∃y,fit y/\∃cs',w.cells? 0 (a.add (i*sz)) sz=some cs'/\kX w cs' (enc y):=by intro i hi;obtain⟨cs',h1,h2⟩:=hx i (by omega);obtain⟨y,h3,h4⟩:=he H en w n cs' _ h2;rw[hc]at h1;exact⟨y,h3,cs',h1,h4⟩
  have hch:∃Y:Nat->α,∀i,i<len->fit (Y i)/\∃cs',w.cells? 0 (a.add (i*sz)) sz=some cs'/\kX w cs' (enc (Y i)):=by refine⟨fun i=>if hi:i<len then Classical.choose (hx' i hi)else default,fun i hi=>?_⟩;simp only[dif_pos hi];exact Classical.choose_spec (hx' i hi)
  obtain⟨Y,hY⟩:=hch;refine⟨.mk ((bm len).map Y),⟨by simp[Sl.l];omega,fun x hx=>?_⟩,.one ?_⟩
  .simp only[Sl.l,List.mem_map,List.mem_range]at hx;obtain⟨i,hi,rfl⟩:=hx;exact(hY i hi).1
  .simp only[yS]
   have hrow:∀(i:Nat)(r:List D),(((bm len).map Y).map enc)[i]?=some r->i<len/\r=enc (Y i):=by
    intro i r hi;rw[aN,aN]at hi;by_cases hlt:i<len
    .rw [List.getElem?_range hlt]at hi;exact⟨hlt,by simpa using hi.symm⟩
    .rw [List.getElem?_eq_none (by simp;omega)]at hi;simp at hi
   by_cases h0:cap=0
   .obtain rfl:len=0:=by omega
    subst h0;exact .uJ hsz
   .have hcell:∀i,i<cap->∃cs',w.cells? 0 (a.add (i*sz)) sz=some cs':=by intro i hi;obtain⟨cs',h1,h2⟩:=hx i hi;rw[hc]at h1;exact⟨cs',h1⟩
    obtain⟨cs0,h1⟩:=hcell 0 (by omega);obtain⟨_,hl0,hc0⟩:=World.cells?_some h1;have hz:=hc0 0 hsz;rw[Nat.zero_mul]at hz;have hadd:(a.add 0).add 0=a:=by simp[Addr.add]
    rw[hadd,ao (by omega)]at hz;obtain⟨b,off,spot⟩:=a
    have hsp:spot=none/\b<w.heap.size:=by
     unfold World.cell? at hz;split at hz
     .rename_i hh;split at hz
      .simp at hz
      .rename_i hs;refine⟨by simpa using hs,(bq.1 hh).1⟩
     .simp at hz
    obtain⟨rfl,hblk⟩:=hsp
    have key:∀(i:Nat)(r:List D),(((bm len).map Y).map enc)[i]?=some r->∀(j:Nat)(x:D),r[j]?=some x->∃v,w.cell? ⟨b,off+i*sz+j,none⟩=some v/\RD (S0 w) w x v:=by
     intro i r hi j x hj;obtain⟨hlt,rfl⟩:=hrow i r hi;obtain⟨_,cs',h2,h3⟩:=hY i hlt;obtain⟨_,h4,h5⟩:=World.cells?_some h2;have hjl:j<sz:=by rw[<-hlen (Y i)];exact(aB.1 hj).1
     have h6:=h5 j hjl;rw[pk,pk,ao (by omega)]at h6;exact⟨_,h6,h3.2 j x _ hj (ao (by omega))⟩
    have hh:=RD.sl (S:=S0 w) (w:=w) (sz:=sz) (rows:=((bm len).map Y).map enc) (b:=b) (off:=off) (cap:=cap) (fun i j=>(w.cell? ⟨b,off+i*sz+j,none⟩).getD undef) hblk hsz (by simp;omega)
     (fun i r hi=>by obtain⟨_,rfl⟩:=hrow i r hi;exact hlen _) (fun i r hi j x hj=>by obtain⟨v,h2,_⟩:=key i r hi j x hj;rw[h2];rfl) (fun i r hi j x hj=>by obtain⟨v,h2,h3⟩:=key i r hi j x hj;rw[h2];exact h3)
    simpa using hh
theorem E3{H:Type}{en:TypeId×Value->H}{w:World}{fuel:Nat}{cs:List Value}{x:DataW H×List MemPlace}{fs:Array Field}(ht:P.underlying t=some (.struct fs))(h:DataW.trod en P w 0 (fun _=>true) true fuel t cs=some x){i:Nat}{f:Field}(hi:fs[i]?=some f)
  {α:Type} {enc:α->List D} {fit:α->Prop} (ho:rZ P f.type enc fit):∃a,fit a/\kX w ((cs.drop f.offset).take (P.cellsOf f.type)) (enc a):=by
 obtain⟨xs,n,rfl,_,hl,hxl,hf⟩:=DataW.trod_struct ht h;have h1:=hf i f hi;have hlt:i<xs.length:=by rw[hxl];exact(bq.1 hi).1
 rw[ao hlt]at h1;exact ho H en w n _ _ h1
theorem GK{H:Type}{en:TypeId×Value->H}{w:World}{fuel:Nat}{cs:List Value}{x:DataW H×List MemPlace}{fs:Array Field}(ht:P.underlying t=some (.struct fs))(h:DataW.trod en P w 0 (fun _=>true) true fuel t cs=some x):cs.length=P.cellsOf t:=by obtain⟨xs,n,rfl,_,hl,_⟩:=DataW.trod_struct ht h;exact hl
theorem LF{H:Type}{en:TypeId×Value->H}{w:World}{fuel:Nat}{cs:List Value}{x:DataW H×List MemPlace}{n:Nat}(ht:P.underlying t=some (.array n e))(h:DataW.trod en P w 0 (fun _=>true) true fuel t cs=some x):cs.length=P.cellsOf t:=by obtain⟨_,_,_,_,hl,_⟩:=DataW.trod_array ht h;exact hl
theorem Hr{H:Type}{en:TypeId×Value->H}{w:World}{fuel:Nat}{cs:List Value}{x:DataW H×List MemPlace}{n:Nat}(ht:P.underlying t=some (.array n e))(h:DataW.trod en P w 0 (fun _=>true) true fuel t cs=some x){i:Nat}(hi:i<n)
  {α:Type} {enc:α->List D} {fit:α->Prop} (ho:rZ P e enc fit):∃a,fit a/\kX w ((cs.drop (i*P.cellsOf e)).take (P.cellsOf e)) (enc a):=by
 obtain⟨xs,m,_,_,_,hxl,hf⟩:=DataW.trod_array ht h;have h1:=hf i hi;have hlt:i<xs.length:=by omega
 rw[ao hlt]at h1;exact ho H en w m _ _ h1
theorem kX.field{w:World}{cs:List Value}{off n m:Nat}{a b:List D}(h1:kX w ((cs.drop off).take n) a)(hm:off+n=m)(h2:kX w (cs.drop m) b)(hl:m<=cs.length):kX w (cs.drop off) (a++b):=by refine kX.yZ h1 ?_ (by simp;omega);rw[List.drop_drop,hm];exact h2
theorem Bw{w:World}{r:Reach}{b:Nat}{v:Value}(h:Value.okWide P w r b t v)(hs:match P.underlying t with|some (.struct _)|some (.array _ _)|some (.interface _)|some (.func ..)|some (.chan ..)|some .unsafePointer|some (.map _ _)=>False|_=>True):one v=true:=by
 unfold Value.okWide at h;split at h
 .rename_i he;rw[he]at hs;exact hs.elim
 .rename_i he;rw[he]at hs;exact hs.elim
 .unfold Cell.okWide at h;split at h
  all_goals first
   |(rename_i he;rw[he]at hs;exact hs.elim)
   |skip
  unfold Cell.ok at h;split at h<;>first|rfl|exact h.elim
theorem Vq{α:Type}{d:α->D}{fit:α->Prop}(ho:rZ P t (fun a=>[d a]) fit){w:World}{r:Reach}{b:Nat}{v:Value}(hv:Value.okWide P w r b t v)
  (hs:match P.underlying t with|some (.struct _)|some (.array _ _)|some (.interface _)|some (.func ..)|some (.chan ..)|some .unsafePointer|some (.map _ _)=>False|_=>True)
  {H:Type} {en:TypeId×Value->H} {x:DataW H} {ps:List MemPlace} (h:DataW.Trod en P w 0 (fun _=>true) true t v x ps):∃a,fit a/\RA (S0 w) w (.d (d a)) v []:=by
 obtain⟨fuel,h⟩:=h;obtain⟨a,h1,h2⟩:=ho H en w fuel _ _ h;have hone:=sZ (Bw hv hs);refine⟨a,h1,?_,rfl⟩;exact h2.2 0 _ v rfl (by rw[hone];rfl)
theorem OL{α:Type}{enc:α->List D}{fit:α->Prop}(ho:rZ P t enc fit){w:World}{v:Value}{aG:Array Value}(hv:v=.agg aG)
  {H:Type} {en:TypeId×Value->H} {x:DataW H} {ps:List MemPlace} (h:DataW.Trod en P w 0 (fun _=>true) true t v x ps):∃a,fit a/\RA (S0 w) w (.agg (enc a)) v []:=by
 subst hv;obtain⟨fuel,h⟩:=h;obtain⟨a,h1,h2⟩:=ho H en w fuel _ _ h;have h3:(Value.agg aG).cells.toList=aG.toList:=rfl;rw[h3]at h2;refine⟨a,h1,aG,rfl,by have:=h2.1;simpa using this.symm,fun i d hi=>?_,rfl⟩;have hlt:i<aG.size:=by have:=h2.1;have:=(aB.1 hi).1;simp at*;omega
 refine h2.2 i d _ hi ?_;rw[Array.getElem?_toList,Array.getD_eq_getD_getElem?,Array.getElem?_eq_getElem hlt];rfl
theorem QX{α:Type}{enc:α->List D}{fit:α->Prop}(ho:rZ P t enc fit){w:World}{r:Reach}{b:Nat}{v:Value}(hv:Value.okWide P w r b t v){fs:Array Field}(hs:P.underlying t=some (.struct fs))
  {H:Type} {en:TypeId×Value->H} {x:DataW H} {ps:List MemPlace} (h:DataW.Trod en P w 0 (fun _=>true) true t v x ps):∃a,fit a/\RA (S0 w) w (.agg (enc a)) v []:=by
 unfold Value.okWide at hv;rw[hs]at hv;obtain⟨aG,hv,_,_⟩:=hv;exact OL ho hv h
theorem QW{α:Type}{enc:α->List D}{fit:α->Prop}(ho:rZ P t enc fit){w:World}{r:Reach}{b:Nat}{v:Value}(hv:Value.okWide P w r b t v){n:Nat}(hs:P.underlying t=some (.array n e))
  {H:Type} {en:TypeId×Value->H} {x:DataW H} {ps:List MemPlace} (h:DataW.Trod en P w 0 (fun _=>true) true t v x ps):∃a,fit a/\RA (S0 w) w (.agg (enc a)) v []:=by
 unfold Value.okWide at hv;rw[hs]at hv;obtain⟨aG,hv,_,_⟩:=hv;exact OL ho hv h
theorem Bn{H:Type}{en:TypeId×Value->H}(hl:laidOutB P=true){W W':World}{sp:Nat->Bool}:∀{ts:List TypeId}{vs:List Value}{ds:List (DataW H)}{ps:List MemPlace},ts.all (fun t=>P.readableRec t&&decide (t<P.types.size))=true->
  DataW.TrodAll en P W 0 (fun _=>true) true ts vs ds ps->(∀p∈ps,W.sameAt W' p)->(∀p∈ps,sp p.block=true)->DataW.TrodAll en P W' 0 sp true ts vs ds ps:=by
 intro ts;induction ts with
 |nil=>intro vs ds ps _ h _ _;cases vs<;>cases ds<;>exact h
 |cons t ts ih=>
  intro vs ds ps hts h hsame hsp;cases vs with
  |nil=>cases ds<;>exact h
  |cons v vs=>
   cases ds with
   |nil=>exact h
   |cons d ds=>
    obtain⟨p,q,h1,h2,rfl⟩:=h;simp only[List.all_cons,Bool.and_eq_true,decide_eq_true_eq]at hts
    exact⟨p,q,WideElems.Trod_stays hl hts.1.1 hts.1.2 h1 (fun x hx=>hsame x (aU _ hx)) (fun x hx=>hsp x (aU _ hx)),
     ih hts.2 h2 (fun x hx=>hsame x (aX _ hx)) (fun x hx=>hsp x (aX _ hx)),rfl⟩
theorem Da{P:Program}{H:Type}{enc:TypeId×Value->H}{f:Func}{s:ChangeSpec}{mh fP handsOn again:Bool}{W W':World}{args:Array Value}{v:Value}{ds gs:List (DataW H)}{eU pa pv:List MemPlace}
  (hW:DataW.Whole enc P f.params.toList s.vars mh W args.toList ds gs eU)
  (hres:∀(b:Nat)(sp:Nat->Bool)(hd:Bool),DataW.TrodAll enc P W' b sp hd f.resultTypes.toList (v.resultList f.resultTypes.size) (s.fn H (ds++gs)).results [])
  (hargs:∀sp:Nat->Bool,(∀p∈eU,sp p.block=true)->DataW.TrodAll enc P W' 0 sp true f.params.toList args.toList (s.fn H (ds++gs)).args pa)
  (hvars:∀sp:Nat->Bool,(∀p∈eU,sp p.block=true)->DataW.TrodVars enc P W' sp s.vars (s.fn H (ds++gs)).vars pv)
  (hps:eU=pa++pv) (hk:W.keptBut W' (·∈eU)) (hfz:∀a,a.block<W.heap.size->W'.frozen? a=W.frozen? a)
  (hok:∀(j:Nat)(t:TypeId)(r:Value),f.resultTypes[j]?=some t->(v.resultList f.resultTypes.size)[j]?=some r->Value.okWide P W' .any 0 t r):
  s.post enc P f mh fP handsOn again W args v W':=by
 have hold:∀p∈eU,(fun b=>decide (b<W.heap.size)) p.block=true:=fun p hp=>by simpa using hW.lt p hp
 refine⟨ds,gs,eU,[],pa,pv,hW,hres _ _ _,hargs _ hold,hvars _ hold,World.keptBut_mono (fun p hp=>⟨hp,?_⟩) hk,fun _=>?_⟩
 .rw [hps,List.mem_append]at hp;exact Or.inr hp
 .have hlt:=fun p hp=>hW.lt p hp;obtain⟨_,_,_,_,_,hz,hn⟩:=hW;refine⟨hok,_,_,([]++pa)++pv,⟨[]++pa,pv,trodAll_append (hargs _ (fun _ _=>rfl)) (hres _ _ _),hvars _ (fun _ _=>rfl),rfl,?_,?_⟩,?_⟩
  .intro b off hp;rw[hfz _ (hlt _ (by rw[hps];simpa using hp))];exact hz b off (by rw[hps];simpa using hp)
  .intro ha;have:=hn ha;rw[hps]at this;simpa using this
  .intro p hp _;rw[hps];simpa using hp
theorem Ou{f:FuncId}{fn:Func}{s:ChangeSpec}{mh fP handsOn again:Bool}{tb:TypeId}{H:Type}{en:TypeId×Value->H}(hl:laidOutB P=true)(hfn:P.funcs[f]?=some fn)(hbody:fn.body.isSome=true)(hname:(fn.name== "runtime.NumGoroutine")=false)
  (hts:fn.params.toList.all (fun t=>P.readableRec t&&decide (t<P.types.size))=true) (hrt:fn.resultTypes= #[tb]) (htb:P.underlying tb=some .bool) (hvars:s.vars=[])
  {W:World} {args:Array Value} {ds gs:List (DataW H)} {eU:List MemPlace} (hW:DataW.Whole en P fn.params.toList s.vars mh W args.toList ds gs eU)
  (hspec:(s.fn H (ds++gs)).results=[.lit (.bool true)]/\(s.fn H (ds++gs)).args=ds/\(s.fn H (ds++gs)).vars=[])
  (hgl:DY (S0 W) W) (hG:∃as,O7 (S0 W) W as args.toList []/\xw P f as [.c (.d (.lit (.bool true)))] []):
  Calls P f args W fun e W'=>∃v,e=.returned v/\s.post en P fn mh fP handsOn again W args v W':=by
 obtain⟨as,hras,hgood⟩:=hG;have hent:=hgood (S0 W) W args.toList [] (fun b hb=>hb) hras List.nodup_nil (fun b hb=>by simp at hb) hgl;have hcall:(callFunc f args).run P W=.ok (.enter f args) W:=by have hb:∃c,fn.body=some c:=Option.isSome_iff_exists.1 hbody;obtain⟨c,hb⟩:=hb;simp[callFunc,run_program,hfn,hb];intro e;rw[e]at hname;simp at hname
 rw[Array.toArray_toList]at hent;rcases hent with⟨g,as',h1,h2⟩|⟨v,h1,_⟩
 .rw [hcall]at h1;obtain⟨⟨rfl,rfl⟩,_⟩:(f=g/\args=as')/\True:=by simpa using h1
  refine h2.mono fun e W' hp=>?_;obtain⟨v,rfl,S',jJ,fp1,fp2,rfl,dR,hsub,hlt,hrr,hrt',hnd,hb,hfrm⟩:=hp
  have hv:z7 jJ=.bool true:=by
   cases jJ with
   |nil=>exact hrr.elim
   |cons v jJ=>
    obtain⟨f1,f2,_,h3,h4⟩:=hrr;cases jJ with
    |cons _ _=>exact h4.elim
    |nil=>cases h3 with|d h5=>cases h5;rfl
  refine⟨_,rfl,?_⟩;rw[hv];have hheap:∀b,b<W.heap.size->W'.heap[b]?=W.heap[b]?:=fun b hb=>dR.dH b hb;obtain⟨p,q,hA,hV,hpq,hfz,hno⟩:=id hW;have hV':DataW.TrodVars en P W (fun _=>true) [] gs q:=by rw[<-hvars];exact hV
  obtain⟨rfl,rfl⟩:=trodVars_none hV'
  have hkept:∀may:MemPlace->Prop,W.keptBut W' may:=by
   intro may;refine⟨hfrm.io.1,hfrm.io.2.1,fun i hi=>?_⟩;have:=hheap i hi;rw[this];cases hx:W.heap[i]?with
   |none=>trivial
   |some o=>cases o<;>simp
  refine Da (pa:=eU) (pv:=[]) hW (fun _ _ _=>?_) (fun sp hsp=>?_) (fun _ _=>?_) (by simp) (hkept _) hfrm.Bj ?_
  .rw [hspec.1,hrt];exact trodAll_cons_mk (shut_bool htb _) trodAll_mk0
  .rw [hspec.2.1];have hbp:eU=p:=by rw[hpq,List.append_nil]
   refine Bn hl hts (by rw[hbp];exact hA) (fun x hx=>?_) hsp;have hx':=hW.lt x hx;have hs:=hheap x.block hx';cases x with|cell b off=>exact mZ hs off|map b=>exact hs
  .rw [hspec.2.2,hvars];rfl
  .exact ok_one hrt rfl (okWide_bool_mk htb _)
 .rw [hcall]at h1;simp at h1
end
theorem K5{S:Nat->Prop}{w:World}(h:∀g,UW g=none):DY S w:=fun g d hg=>by rw[h g]at hg;simp at hg
end Go.Ev
