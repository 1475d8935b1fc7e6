/- What is done of a round: rows cloned, moves laid; what a switch's ports then are. Conditions: lengths as stated. -/
import Derived.Test.YtpnnnoagjcpmhaaDoorUK
open Bool renaming and_eq_true->af
open Int renaming toNat_natCast->iv
open List renaming getElem_mem->bU,length_set->eM,mem_cons_of_mem->aA,mem_cons_self->cE,replicate->az
open Option renaming bind_some->ae
open Go.Ev Go
noncomputable section
namespace Go.Proofs.YtpnnnoagjcpmhaaDoor.U
theorem mb{α:Type}[Inhabited α]{l:List α}{i j:Nat}{x:α}:gt (l.set i x) j=if i=j/\j<l.length then x else gt l j:=by
 simp only[gt,List.getD,List.getElem?_set];by_cases h:i=j
 .subst h;by_cases hl:i<l.length
  .simp [hl]
  .simp [hl]
 .simp [h]
theorem H6{α:Type}[Inhabited α]{l:List α}{i:Nat}(h:i<l.length):l.set i (gt l i)=l:=by rw[eu h];exact List.set_getElem_self h
theorem Od{α:Type}[Inhabited α]{a b:List α}(hl:a.length=b.length)(h:∀i,i<b.length->gt a i=gt b i):a=b:=by refine List.ext_getElem hl fun i h1 h2=>?_;have:=h i h2;rwa[eu h1,eu h2]at this
theorem Hf{s:Sl Int}(hb:s.l.length<=2147483648):ij s=some s:=by unfold ij;cases s with|nil=>rfl|mk l=>have hb:l.length<=2147483648:=hb;simp only[Sl.eC,cond_false,Sl.m8,List.nil_append,jt hb,ae];cases l<;>rfl
theorem He{r:Sl (Sl Int)}(hb:r.l.length<=2147483648)(hr:∀cC∈r.l,cC.l.length<=2147483648):ow r=some (.mk r.l):=by
 have main:∀(d i:Nat)(s:List (Sl Int)),i+d=r.l.length->s.length=r.l.length->(∀j,j<i->gt s j=gt r.l j)->bL (jH r) ((i:Int),.mk s)=some (.mk r.l):=by
  intro d;induction d with
  |zero=>
   intro i s hi hs hj;obtain rfl:i=r.l.length:=by omega
   obtain rfl:s=r.l:=Od hs hj;exact cS (by simp only[jH,lI,cond_false])
  |succ d ih=>
   intro i s hi hs hj;have hlt:i<r.l.length:=by omega
   have h1:=Hf (hr (gt r.l i) (by rw[eu hlt];exact bU _));refine(dV (by simp only[jH,j4 hlt,cond_true,bP hlt,ae,h1,Sl.m8,bP (show i<s.length by omega),oE (show i<9223372036854775807 by omega)])).trans (ih (i+1) (s.set i (gt r.l i)) (by omega) (by rw[eM];exact hs) fun j hj2=>?_);rw[mb];split
   .rename_i h;rw[h.1]
   .rename_i h;exact hj j (by omega)
 have e:HA (Sl.nil:Sl Int) (r.l.length:Int) (r.l.length:Int)=some (az r.l.length Sl.nil):=by unfold HA;rw[if_pos ⟨by omega,by omega,by omega⟩];rfl
 have:=main r.l.length 0 (az r.l.length Sl.nil) (by omega) (by simp) (fun j hj=>by omega);have this:bL (jH r) (0,.mk (az r.l.length Sl.nil))=_:=this;simp only[ow,e,ae,this]
def pX(r:List (Sl Int))(m:ap):List (Sl Int):=if(0<=m.1/\m.1<(r.length:Int)/\0<=m.2.1)/\m.2.1<((gt r m.1.toNat).l.length:Int)then r.set m.1.toNat (.mk ((gt r m.1.toNat).l.set m.2.1.toNat m.2.2.1))else r
theorem LX(r:List (Sl Int))(m:ap):rg (.mk r) m=some (.mk (pX r m)):=by
 unfold rg pX;by_cases ha:0<=m.1/\m.1<(r.length:Int)/\0<=m.2.1
 .obtain ⟨n,hm1⟩:∃n:Nat,m.1=(n:Int):=⟨m.1.toNat,by omega⟩
  obtain⟨k,hm2⟩:∃k:Nat,m.2.1=(k:Int):=⟨m.2.1.toNat,by omega⟩
  have hn:n<r.length:=by omega
  have e1:(((decide ((ap.Sw m)>=0))&&(decide ((ap.Sw m)<((Sl.mk r).l.length:Int))))&&(decide ((ap.uG m)>=0)))=true:=by simp only[af,decide_eq_true_eq];exact⟨⟨ha.1,ha.2.1⟩,ha.2.2⟩
  have i1:fD (ap.Sw m) (Sl.mk r).l.length=some n:=gV.2 ⟨hm1,hn⟩;rw[e1,cond_true,i1];simp only[ae];have e2:m.1.toNat=n:=by omega
  have e3:m.2.1.toNat=k:=by omega
  rw[e2,e3];by_cases hb:m.2.1<((gt r n).l.length:Int)
  .have i2:fD (ap.uG m) (gt r n).l.length=some k:=gV.2 ⟨hm2,by omega⟩;have i1:fD (ap.Sw m) r.length=some n:=i1;have hb2:decide ((ap.uG m)<((gt (Sl.mk r).l n).l.length:Int))=true:=decide_eq_true hb;rw[hb2,cond_true];simp only[Sl.m8,H6 hn,i1,ae,i2];rw[if_pos ⟨ha,hb⟩]
  .have hb2:decide ((ap.uG m)<((gt (Sl.mk r).l n).l.length:Int))=false:=decide_eq_false hb;rw[hb2,cond_false,if_neg fun h=>hb h.2];simp only[Sl.m8,H6 hn]
 .have e1:(((decide ((ap.Sw m)>=0))&&(decide ((ap.Sw m)<((Sl.mk r).l.length:Int))))&&(decide ((ap.uG m)>=0)))=false:=by rw[Bool.eq_false_iff];simp only[ne_eq,af,decide_eq_true_eq];exact fun h=>ha ⟨h.1.1,h.1.2,h.2⟩
  rw[e1,if_neg fun h=>ha h.1];rfl
theorem zR{r:List (Sl Int)}{m:ap}:(pX r m).length=r.length:=by unfold pX;split<;>simp
theorem wL{r:List (Sl Int)}{m:ap}(s:Nat):(gt (pX r m) s).l.length=(gt r s).l.length:=by
 unfold pX;split
 .rw [mb];split
  .rename_i h;rw[Sl.m8,eM,h.1]
  .rfl
 .rfl
theorem N8{r:List (Sl Int)}{m:ap}{s h:Nat}(hs:s<r.length)(hh:h<(gt r s).l.length)(h1:m.1=(s:Int))(h2:m.2.1=(h:Int)):gt (gt (pX r m) s).l h=m.2.2.1:=by unfold pX;rw[h1,h2,iv,iv,if_pos ⟨⟨by omega,by omega,by omega⟩,by omega⟩,mb,if_pos ⟨rfl,hs⟩,Sl.m8,mb,if_pos ⟨rfl,hh⟩]
theorem LY{r:List (Sl Int)}{m:ap}{s h:Nat}(hn:¬(m.1=(s:Int)/\m.2.1=(h:Int))):gt (gt (pX r m) s).l h=gt (gt r s).l h:=by
 unfold pX;split
 .rename_i hc;rw[mb];split
  .rename_i hc2;rw[Sl.m8,mb,if_neg,hc2.1];intro h2;exact hn ⟨by omega,by omega⟩
  .rfl
 .rfl
def nM(round:Int)(so:List Int)(m:ap):Bool:=bif decide (m.2.2.2<round)then true else bif m.2.2.2==round then decide (m.1∈so)else false
theorem Fd{round:Int}{so:List Int}{m:ap}:nM round so m=true<->m.2.2.2<round\/m.2.2.2=round/\m.1∈so:=by
 unfold nM;by_cases h1:m.2.2.2<round
 .simp [h1]
 .by_cases h2:m.2.2.2=round
  .simp [h2]
  .simp [h1,h2]
def oC(round:Int)(so:List Int)(l:List ap)(r:List (Sl Int)):List (Sl Int):=l.foldl (fun r m=>bif nM round so m then pX r m else r) r
theorem JZ{old:Sl (Sl Int)}{l:Sl ap}{round:Int}{so:Sl Int}(hb:old.l.length<=2147483648)(hr:∀cC∈old.l,cC.l.length<=2147483648)(hl:l.l.length<9223372036854775807)(hs:so.l.length<9223372036854775808):
  lY old l round so=some (.mk (oC round so.l l.l old.l)):=by
 have main:∀(d i:Nat)(r:List (Sl Int)),i+d=l.l.length->bL (kz l round so) ((i:Int),.mk r)=some (.mk (oC round so.l (l.l.drop i) r)):=by
  intro d;induction d with
  |zero=>
   intro i r hi;obtain rfl:i=l.l.length:=by omega
   rw[List.drop_length];exact cS (by simp only[kz,lI,cond_false];rfl)
  |succ d ih=>
   intro i r hi;have hlt:i<l.l.length:=by omega
   have e:l.l.drop i=gt l.l i::l.l.drop (i+1):=by rw[eu hlt];exact List.drop_eq_getElem_cons hlt
   rw[e];refine(dV ?_).trans (ih (i+1) (bif nM round so.l (gt l.l i)then pX r (gt l.l i)else r) (by omega));simp only[kz,j4 hlt,cond_true,bP hlt,ae,oS _ hs,oE (show i<9223372036854775807 by omega)];have e2:(bif decide ((gt l.l i).2.2.2<round)then some true else bif(gt l.l i).2.2.2==round then some (decide ((gt l.l i).1∈so.l))else some false:Option Bool)=some (nM round so.l (gt l.l i)):=by unfold nM;cases decide ((gt l.l i).2.2.2<round)<;>cases((gt l.l i).2.2.2==round)<;>rfl
   rw[e2,ae];cases nM round so.l (gt l.l i)with|false=>rfl|true=>simp only[cond_true,LX,ae];have e3:su (.mk (pX r (gt l.l i))) (.mk r)=some ():=yH.2 zR;rw[e3];rfl
 have:=main l.l.length 0 old.l (by omega);have this:bL (kz l round so) (0,.mk old.l)=_:=this;simp only[lY,He hb hr,ae,this,List.drop_zero]
section
variable{round:Int}{so:List Int}
theorem w_:∀{l:List ap}{r:List (Sl Int)},(oC round so l r).length=r.length:=by
 intro l;induction l with
 |nil=>intro r;rfl
 |cons m l ih=>
  intro r;show(oC round so l (bif nM round so m then pX r m else r)).length=_;rw[ih];cases nM round so m
  .rfl
  .exact zR
theorem Cc(s:Nat):∀{l:List ap}{r:List (Sl Int)},(gt (oC round so l r) s).l.length=(gt r s).l.length:=by
 intro l;induction l with
 |nil=>intro r;rfl
 |cons m l ih=>
  intro r;show(gt (oC round so l (bif nM round so m then pX r m else r)) s).l.length=_;rw[ih];cases nM round so m
  .rfl
  .exact wL s
theorem Cd{s h:Nat}:∀{l:List ap}{r:List (Sl Int)},(∀m∈l,nM round so m=true->¬(m.1=(s:Int)/\m.2.1=(h:Int)))->gt (gt (oC round so l r) s).l h=gt (gt r s).l h:=by
 intro l;induction l with
 |nil=>intro r _;rfl
 |cons m l ih=>intro r hn;show gt (gt (oC round so l (bif nM round so m then pX r m else r)) s).l h=_;rw[ih fun m hm=>hn m (aA _ hm)];cases hm:nM round so m with|false=>rfl|true=>exact LY (hn m (cE ..) hm)
theorem Fp{s h:Nat}{p:Int}:∀{l:List ap}{r:List (Sl Int)},s<r.length->h<(gt r s).l.length->(∀m∈l,m.1=(s:Int)->m.2.1=(h:Int)->m.2.2.1=p)->(∃m∈l,nM round so m=true/\m.1=(s:Int)/\m.2.1=(h:Int))->gt (gt (oC round so l r) s).l h=p:=by
 intro l;induction l with
 |nil=>intro r _ _ _ ⟨m,hm,_⟩;simp at hm
 |cons m l ih=>
  intro r hs hh hp hex;show gt (gt (oC round so l (bif nM round so m then pX r m else r)) s).l h=_;have hs':s<(bif nM round so m then pX r m else r).length:=by cases nM round so m<;>simp[zR,hs]
  have hh':h<(gt (bif nM round so m then pX r m else r) s).l.length:=by cases nM round so m<;>simp[wL,hh]
  by_cases hin:∃m∈l,nM round so m=true/\m.1=(s:Int)/\m.2.1=(h:Int)
  .exact ih hs' hh' (fun m hm=>hp m (aA _ hm)) hin
  .rw [Cd fun m hm h1 h2=>hin ⟨m,hm,h1,h2⟩];obtain⟨m',hm',h1,h2,h3⟩:=hex;rcases List.mem_cons.1 hm' with rfl|hm'
   .rw [h1,cond_true,N8 hs hh h2 h3];exact hp m' (cE ..) h2 h3
   .exact absurd ⟨m',hm',h1,h2,h3⟩ hin
end
section
variable{t:ah}{old now:Sl (Sl Int)}{round:Int}{so:List Int}
def KI(t:ah)(now:Sl (Sl Int))(round:Int)(so:List Int)(h s:Nat):Prop:=(ei t now h s:Int)<round\/(ei t now h s:Int)=round/\(s:Int)∈so
def ud(t:ah)(old now:Sl (Sl Int))(round:Int)(so:List Int):Sl (Sl Int):=.mk (oC round so (u_ t old now) old.l)
theorem qJ(hO:gk t old)(hN:gk t now):old.l.length=now.l.length:=by have:=hO.1.len;have:=hN.1.len;omega
theorem yG(hO:gk t old)(hN:gk t now){s h:Nat}(hs:s<old.l.length)(hh:h<t.aR.l.length):
  (KI t now round so h s->cK (ud t old now round so) h s=cK now h s)/\(¬KI t now round so h s->cK (ud t old now round so) h s=cK old h s):=by
 have hlen:=qJ hO hN;have hrow:=hO.1.cC hs;have at':∀m∈u_ t old now,m.1=(s:Int)->m.2.1=(h:Int)->m.2.2.1=cK now h s/\m.2.2.2=(ei t now h s:Int):=by intro m hm h1 h2;obtain⟨h',s',_,_,_,rfl⟩:=zL.1 (DF.1 hm);obtain rfl:s'=s:=Int.ofNat_inj.1 h1;obtain rfl:h'=h:=Int.ofNat_inj.1 h2;exact⟨rfl,rfl⟩
 have off:(∀m∈u_ t old now,nM round so m=true->¬(m.1=(s:Int)/\m.2.1=(h:Int)))->cK (ud t old now round so) h s=cK old h s:=fun hn=>Cd hn;constructor
 .intro hS;by_cases hp:cK now h s=cK old h s
  .by_cases hex:∃m∈u_ t old now,nM round so m=true/\m.1=(s:Int)/\m.2.1=(h:Int)
   .exact Fp hs (by omega) (fun m hm h1 h2=>(at' m hm h1 h2).1) hex
   .rw [hp];exact off fun m hm h1 h2=>hex ⟨m,hm,h1,h2⟩
  .refine Fp hs (by omega) (fun m hm h1 h2=>(at' m hm h1 h2).1) ⟨((s:Int),(h:Int),cK now h s,(ei t now h s:Int)),DF.2 (zL.2 ⟨h,s,hh,by omega,hp,rfl⟩),Fd.2 hS,rfl,rfl⟩
 .intro hS;refine off fun m hm hhit⟨h1,h2⟩=>hS ?_;have:=Fd.1 hhit;rw[(at' m hm h1 h2).2,h1]at this;exact this
theorem GE(hO:gk t old)(hN:gk t now):eV t (ud t old now round so):=by
 have hlen:=qJ hO hN;refine⟨hO.1.rZ,?_,fun cC hm=>?_⟩
 .show ((oC round so _ _).length:Int)=_;rw[w_];exact hO.1.len
 .obtain ⟨s,hs,rfl⟩:=List.mem_iff_getElem.1 hm;have hs2:s<old.l.length:=by rwa[ud,Sl.m8,w_]at hs
  rw[<-eu hs];have e1:(gt (ud t old now round so).l s).l.length=t.aR.l.length:=by show(gt (oC round so _ _) s).l.length=_;rw[Cc];exact hO.1.cC hs2
  refine⟨e1,fun p hp=>?_⟩;obtain⟨h,hh,rfl⟩:=List.mem_iff_getElem.1 hp;rw[<-eu hh];have hh2:h<t.aR.l.length:=by omega
  have prt:∀r:Sl (Sl Int),eV t r->s<r.l.length->0<=cK r h s/\cK r h s<8:=by intro r hV hs;have:=hV.cC hs;refine(hV.aj (gt r.l s) (by rw[eu hs];exact bU _)).2 _ ?_;show gt (gt r.l s).l h∈_;rw[eu (show h<(gt r.l s).l.length by omega)];exact bU _
  obtain⟨m1,m2⟩:=yG (round:=round) (so:=so) hO hN hs2 hh2;show 0<=cK (ud t old now round so) h s/\cK (ud t old now round so) h s<8;by_cases hS:KI t now round so h s
  .rw [m1 hS];exact prt now hN.1 (by omega)
  .rw [m2 hS];exact prt old hO.1 hs2
theorem G6(hO:gk t old)(hN:gk t now){l:Sl ap}(hl:l.l=u_ t old now){so:Sl Int}(hs:so.l.length<9223372036854775808):lY old l round so=some (ud t old now round so.l):=by have h8:=hO.1.o5;have hh8:=hO.1.rM;have h64:=IM (old:=old) hN;rw[JZ (by omega) (fun cC hm=>by have:=(hO.1.aj cC hm).1;omega) (by rw[hl];omega) hs,hl];rfl
end
end Go.Proofs.YtpnnnoagjcpmhaaDoor.U
