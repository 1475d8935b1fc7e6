/- Going down, starting, deeds, side by side. Conditions: as stated. -/
import Derived.Test.YtoekkpmeeclpeaaGreatHf
import Derived.Test.YtoekkpmeeclpeaaGreatSK
import Derived.Test.YtoekkpmeeclpeaaGreatHb
open Bool renaming and_eq_true->ax,not_eq_true'->fS,not_false->fq,not_true->bX,or_eq_false_iff->bV,true_and->fV
open List renaming getElem?_eq_getElem->bf,getElem_of_mem->fD,length_append->au,length_map->br,length_replicate->bz,mem_of_getElem?->bA,not_mem_nil->bF,replicate->az,replicate_succ'->qO
open Option renaming bind_some->aa
open Option.some renaming inj->af
open Go.Ev Go
namespace Go.Proofs.YtoekkpmeeclpeaaGreat.S
def Wd:aZ:=(false,(0,0),0)
def cx0(c:aA)(R:Sl (Sl (Sl Int)))(l:Sl aI)(s:ap)(ph:Int)(ask:Arr 8 Int):Cx:=⟨c,R,l,s,ph,(Sl.nil,Sl.nil,0,0,0,0),0,.none,0,-1,0,-1,pM (.ar 8 HI),ask,.nil,.nil⟩
def XP(c:aA)(R:Sl (Sl (Sl Int)))(l:Sl ba)(s:ap)(ph:Int)(es:Sl aZ)(ak:Sl Bool)(ad:Sl Int):Rx:=⟨c,R,l,s,ph,(Sl.nil,Sl.nil,0,0,0,0),0,.nil,0,false,0,.nil,false,0,es,ak,ad,.nil,.nil⟩
theorem ZG:∃ask:Arr 8 Int,ua=some (0,(Sl.nil,Sl.nil,0,0,0,0),0,Mp.none,0,-1,0,-1,pM (.ar 8 HI),ask,Sl.nil,Sl.nil)/\∀i,i<8->gt ask.1 i=-1:=by
 have H:Wq ua fun t=>∃ask:Arr 8 Int,t=(0,(Sl.nil,Sl.nil,0,0,0,0),0,Mp.none,0,-1,0,-1,pM (.ar 8 HI),ask,Sl.nil,Sl.nil)/\∀i,i<8->gt ask.1 i=-1:=by
  refine Wq.bind (P:=fun t=>∃ask:Arr 8 Int,t=(0,(Sl.nil,Sl.nil,0,0,0,0),0,Mp.none,0,-1,0,-1,pM (.ar 8 HI),ask,Sl.nil,Sl.nil)/\∀i,i<8->gt ask.1 i=-1) ?_ ?_
  .refine Wq.up 8 (by omega) (fun i t=>∃ask:Arr 8 Int,t=(0,(Sl.nil,Sl.nil,0,0,0,0),0,Mp.none,0,-1,0,-1,pM (.ar 8 HI),ask,Sl.nil,Sl.nil)/\∀j,j<i->gt ask.1 j=-1) ⟨_,rfl,fun j hj=>absurd hj (by omega)⟩ ?_;rintro i _ hi ⟨ask,rfl,ha⟩;refine Wq.cond (fun hb=>?_) (fun hb=>Wq.some ⟨ask,rfl,fun j hj=>ha j (by have:=of_decide_eq_false hb;omega)⟩);have hlt:i<8:=by have:=of_decide_eq_true hb;omega
   rw[p8 (by omega) (by omega)];refine Wq.some ⟨_,rfl,hlt,_,rfl,fun j hj=>?_⟩
   grind [gt,Arr.set,ask,Kb,Int.toNat_natCast]
  .rintro _ ⟨ask,rfl,ha⟩;exact Wq.some ⟨_,rfl,ha⟩
 obtain⟨t,h,ask,rfl,ha⟩:=H;exact⟨ask,h,ha⟩
section
variable{c:aA}{R:Sl (Sl (Sl Int))}{n K:Nat}{x:Cx}{r:Rx}{now up:Int}
theorem OX(hn:r.C.T.ao=n)(h8:n<=8):∃es ak ad,lF r.tu=some (XP r.C r.lg r.L r.At 0 es ak ad).tu/\es.l=az n Wd/\ak.l=az n false/\ad.l=az n 0:=by
 have H:Wq (aJ nC (0,(XP r.C r.lg r.L r.At 0 .nil .nil .nil).tu)) fun t=>∃es ak ad,t=(XP r.C r.lg r.L r.At 0 es ak ad).tu/\es.l=az n Wd/\ak.l=az n false/\ad.l=az n 0:=by
  refine Wq.up n (by omega) (fun i t=>∃es ak ad,t=(XP r.C r.lg r.L r.At 0 es ak ad).tu/\es.l=az i Wd/\ak.l=az i false/\ad.l=az i 0) ⟨.nil,.nil,.nil,rfl,rfl,rfl,rfl⟩ ?_;rintro i _ hi ⟨es,ak,ad,rfl,e1,e2,e3⟩;dsimp only[nC];simp only[Rx.pr,Rx.st];refine Wq.cond (fun hb=>?_) fun hb=>Wq.some ?_
  .have hlt:(i:Int)<r.C.T.ao:=of_decide_eq_true hb;show Wq (Option.bind (fA (es.l++_)) _) _;rw[jw (by grind)];show Wq (Option.bind (fA (ak.l++_)) _) _;rw[jw (by grind)];show Wq (Option.bind (fA (ad.l++_)) _) _;rw[jw (by grind)];refine Wq.some ⟨_,rfl,by omega,_,_,_,rfl,?_,?_,?_⟩
   .rw [Sl.lc,e1,qO];rfl
   .rw [Sl.lc,e2,qO]
   .rw [Sl.lc,e3,qO]
  .have hb:¬(i:Int)<r.C.T.ao:=of_decide_eq_false hb
   grind
 obtain⟨t,ht,es,ak,ad,rfl,h⟩:=H;refine⟨es,ak,ad,?_,h⟩;unfold lF;have ht':aJ nC (0,(⟨ah.C r.tu,ah.lg r.tu,ah.L r.tu,ah.At r.tu,0,(⟨Sl.nil,Sl.nil,0,0,0,0⟩:aQ),0,Sl.nil,0,false,0,Sl.nil,false,0,Sl.nil,Sl.nil,Sl.nil,Sl.nil,Sl.nil⟩:ah))=_:=ht;rw[ht'];rfl
theorem rl0{l:Sl aI}{l':Sl ba}{s:ap}{ph:Int}{ask:Arr 8 Int}{es:Sl aZ}{ak:Sl Bool}{ad:Sl Int}(hn:c.T.ao=n)(h8:n<=8)(hl:l'.l=l.l)(ha:∀i,i<8->gt ask.1 i=-1)(e1:es.l=az n Wd)(e2:ak.l=az n false)(e3:ad.l=az n 0):
  Rl n (cx0 c R l s ph ask) (XP c R l' s ph es ak ad)/\∀i,i<8->Et (gt (cx0 c R l s ph ask).vF.1 i):=by
 have hz:=fun i hi=>by
  have:∀i:Fin 8,gt (pM (.ar 8 HI)).1 i.val=Wd:=fun i=>by
   match i with|0=>rfl|1=>rfl|2=>rfl|3=>rfl|4=>rfl|5=>rfl|6=>rfl|7=>rfl
  exact this ⟨i,hi⟩
 have hg:∀{α:Type}[Inhabited α]{l:List α}{a:α}{i:Nat},l=az n a->i<n->gt l i=a:=fun h hi=>by subst h;rw[dx (by rw[bz];exact hi),List.getElem_replicate]
 refine⟨⟨rfl,⟨hn,h8⟩,rfl,hl,rfl,rfl,rfl,rfl,WR.nil,fun h=>absurd rfl h,.inl ⟨rfl,rfl⟩,⟨Int.le_refl 0,(by decide:(0:Int)<256)⟩,fun s _=>⟨fun e=>by rw[show(cx0 c R l _ ph ask).skip=0 from rfl,yk]at e;exact(nomatch e),fun e=>(bF e).elim⟩,fun s e=>(bF e).elim,.inl ⟨rfl,rfl⟩,⟨by show es.l.length=n;rw[e1,bz],fun i hi=>?_⟩,⟨by show ak.l.length=n;rw[e2,bz],by show ad.l.length=n;rw[e3,bz],fun i hi=>?_⟩,rfl,rfl,fun m e=>(bF e).elim,fun m e=>(bF e).elim⟩,fun i hi=>?_⟩
 .show gt es.l i=gt (pM (.ar 8 HI)).1 i;rw[hg e1 hi,hz i (by omega)]
 .show Tm (gt ak.l i) (gt ad.l i) (gt ask.1 i);rw[hg e2 hi,ha i (by omega)];exact .inl ⟨rfl,rfl⟩
 .show Et (gt (pM (.ar 8 HI)).1 i);rw[hz i hi];exact⟨by decide,by decide⟩
theorem abV(h:Bd c R n K x r):C2 (wR x.tu) (sV r.tu) (Bd c R n (K+200)):=by
 obtain⟨hsw,h8⟩:=h.rl.sw;have z1:=h.z.l;obtain⟨ask,h1,h2⟩:=ZG;obtain⟨es,ak,ad,h3,e1,e2,e3⟩:=OX (r:=r) (n:=n) (by rw[h.rl.c];exact hsw) h8;unfold wR sV;rw[h1,h3];simp only[aa,Cx.pr,Rx.st];obtain⟨g1,g2⟩:=rl0 (c:=x.c) (R:=x.gp) (l:=x.l) (l':=r.L) (s:=x.bK) (ph:=6) hsw h8 h.rl.l h2 e1 e2 e3;refine C2.some (x:=cx0 x.c x.gp x.l x.bK 6 ask) ⟨⟨?_,h.hc,h.hR,h.j,af8,g2,by show x.l.l.length<=_;omega,by show 0<=_;omega,by show 0<=_;omega,by show 0<=_;omega⟩,fun e=>absurd e (by show¬(6:Int)=5;decide),fun _=>rfl⟩;have:({XP r.C r.lg r.L r.At 0 es ak ad with gR:=6}:Rx)=XP x.c x.gp r.L x.bK 6 es ak ad:=by rw[h.rl.c,h.rl.rt,h.rl.bK];rfl
 rw[this];exact g1
theorem abU(hE:kB c R)(h:Bd c R n K x r)(hK:K<=50000)(h0:0<=now/\now<=1099511627776):
  C2 (wQ x.tu now up) (sU r.tu now up) (Bd c R n (K+200)):=by
 have hc:=h.hc;have hR:=h.hR;subst hc hR;unfold wQ sU;simp only[Cx.pr,Cx.st,Rx.pr,Rx.st];refine W2.cond (by rw[h.rl.ph]) (fun _=>C2.some (h.mono (by omega))) fun hb=>?_;have hph:x.cI=6:=by simpa using hb
 have hw:=h.we (.inr (.inr hph));refine W2.cond (by rw[h.rl.bK]) (fun hb=>?_) fun hb=>?_
 .have ho:x.bK.hZ=false:=by simpa using hb
  exact C2.some (x:={x with cI:=0}) (r:={r with gR:=0}) ⟨⟨⟨h.rl.c,h.rl.sw,h.rl.rt,h.rl.l,h.rl.bK,rfl,h.rl.pl,h.rl.nv,h.rl.eG,h.rl.gE,h.rl.bH,h.rl.FY,h.rl.skip,h.rl.GF,h.rl.zj,h.rl.vF,h.rl.ask,h.rl.out,h.rl.ev,h.rl.wn,h.rl.fo⟩,h.hc,h.hR,h.j,F9 ho,h.e,h.z.cp (by omega) rfl rfl rfl rfl⟩,fun e=>absurd e (by show¬(0:Int)=5;decide),fun _=>hw⟩
 .have ho:x.bK.hZ=true:=by simpa using hb
  obtain⟨ht,ha,_,p0,hp0⟩:=h.j.op ho;have hnow:=h.j.now;have hmk:=aev (x:={x with cI:=0}) (t:=x.bK.At) hE h.hc h.hR hnow ht;obtain⟨p,e,hp1,hp2,_⟩:=Y_ hE hnow ht ha;have hm:Fi x.c x.gp x.bK.lh x.bK.dF x.bK.At p/\e=0:=by unfold Fi at hp0;rw[hp0]at hp1;cases hp1;exact⟨hp0,rfl⟩
  obtain⟨hm,rfl⟩:=hm
  rw[show mK ({x with cI:=0}:Cx).tu (ap.dF x.bK) (ap.At x.bK)=_ from hmk,h.rl.bK,h.rl.rt,h.rl.c,
   p8 (show 0<=ay.lh x.bK from hnow.1) (show ay.lh x.bK<_ from hnow.2),p8 (show 0<=ay.dF x.bK from ht.1) (show ay.dF x.bK<_ from ht.2),aeu hE]
  simp only[aa];rw[show lG x.c.T (gt x.gp.l (({x with cI:=0}:Cx).bK.lh).toNat) (gt x.gp.l x.bK.dF.toNat) x.bK.At (2*x.c.qf+2) x.c.zQ=_ from hp1,show lO x.c.T (gt x.gp.l (ay.lh x.bK).toNat) (gt x.gp.l (ay.dF x.bK).toNat) (ay.At x.bK) (2*x.c.qf+2) x.c.zQ=_ from hp2];simp only[aa,Cx.pr,Cx.st];refine W2.cond rfl (fun hb=>?_) fun _=>?_
  .simp only[ax,fS]at hb;exact C2.some (x:={x with cI:=3,eM:=p}) (r:={r with C:=x.c,lg:=x.gp,At:=x.bK,gR:=3,ja:=p}) ⟨⟨⟨rfl,h.rl.sw,rfl,h.rl.l,rfl,rfl,rfl,h.rl.nv,h.rl.eG,h.rl.gE,h.rl.bH,h.rl.FY,h.rl.skip,h.rl.GF,h.rl.zj,h.rl.vF,h.rl.ask,h.rl.out,h.rl.ev,h.rl.wn,h.rl.fo⟩,h.hc,h.hR,h.j,Np (.inl rfl) ho hb.1 hb.2 hm,h.e,h.z.cp (by omega) rfl rfl rfl rfl⟩,fun e=>absurd e (by show¬(3:Int)=5;decide),fun _=>hw⟩
  .refine W2.xf (W2.yh ((JM (x:={x with cI:=0,eM:=p}) (r:={r with C:=x.c,lg:=x.gp,At:=x.bK,gR:=0,ja:=p}) hE ⟨rfl,h.rl.sw,rfl,h.rl.l,rfl,rfl,rfl,h.rl.nv,h.rl.eG,h.rl.gE,h.rl.bH,h.rl.FY,h.rl.skip,h.rl.GF,h.rl.zj,h.rl.vF,h.rl.ask,h.rl.out,h.rl.ev,h.rl.wn,h.rl.fo⟩ h.hc h.hR h.j ho hm h.e (h.z.cp (Nat.le_refl _) rfl rfl rfl rfl) (by omega) h0).mono ?_));rintro _ _ ⟨y,s,rfl,rfl,g⟩;exact⟨y,s,rfl,rfl,g.mono (by omega)⟩
theorem Yj{gE:Sl ac}{n:Int}(hl:gE.l.length<=1000000):∃m b,wg gE n=some (m,b,gE):=by
 have H:Wq (wg gE n) fun t=>∃m b,t=(m,b,gE):=by refine Wq.cond (fun _=>Wq.some ⟨_,_,rfl⟩) fun hb=>?_;simp only[bV,beq_eq_false_iff_ne,decide_eq_false_iff_not]at hb;obtain⟨h1,h2⟩:=hb;have h3:0<=n.tmod gE.l.length:=Int.tmod_nonneg _ (by omega);have h4:n.tmod gE.l.length<gE.l.length:=Int.tmod_lt_of_pos _ (by omega);unfold X7;rw[if_neg h1];simp only[aa];rw[p8 h3 h4];exact Wq.some ⟨_,_,rfl⟩
 obtain⟨t,h,m,b,rfl⟩:=H;exact⟨m,b,h⟩
theorem Sy{m:ac}:∃r,uS m=some r/\WG r.gW.l:=by
 have h0:WG ([]:List aV):=⟨⟨by simp,fun _ h=>(bF h).elim⟩,fun _ h=>(bF h).elim⟩
 unfold uS;cases(m.bP==1)<;>exact⟨_,rfl,h0⟩
theorem G5{α:Type}(s:Sl α):py s s=some ():=by cases s with|nil=>rfl|mk l=>exact if_pos rfl
structure SJ(d:bc):Prop where
 now:0<=d.lh/\d.lh<=1099511627776
 few:WG d.M.gW.l
theorem afC(hE:kB c R)(h:Bd c R n K x r)(hK:K<=40000){d:bc}(hd:SJ d){gE:Sl ac}(hs:gE.l.length<=1000000):
  W2 (Cf x.tu d gE) (Aj r.tu d gE) fun a b=>∃(e:Int)(y:Cx)(s:Rx),a=(e,y.tu,gE)/\b=(e,s.tu,gE)/\Bd c R n (K+200) y s:=by
 refine W2.bind (P:=fun a b=>∃(y:Cx)(s:Rx),Bd c R n (K+200) y s/\((a=.inl (gE,y.tu)/\b=.inl (gE,s.tu))\/∃e,a=.inr (e,y.tu)/\b=.inr (e,s.tu))) ?_ ?_
 .have hstay:∃(y:Cx)(s:Rx),Bd c R n (K+200) y s/\(((Sum.inl (gE,x.tu):(Sl ac×Tu)⊕(Int×Tu))=.inl (gE,y.tu)/\(Sum.inl (gE,r.tu):(Sl ac×Ru)⊕(Int×Ru))=.inl (gE,s.tu))\/∃e,(Sum.inl (gE,x.tu):(Sl ac×Tu)⊕(Int×Tu))=.inr (e,y.tu)/\(Sum.inl (gE,r.tu):(Sl ac×Ru)⊕(Int×Ru))=.inr (e,s.tu)):=⟨x,r,h.mono (by omega),.inl ⟨rfl,rfl⟩⟩
  refine W2.cond rfl (fun _=>?_) fun _=>?_
  .refine W2.bind (Ys hE h (by omega) hd.now) ?_;rintro _ _ ⟨e,y,s,rfl,rfl,g⟩;exact W2.some ⟨y,s,g,.inr ⟨e,rfl,rfl⟩⟩
  refine W2.bind (W2.cond rfl (fun _=>W2.some rfl) fun _=>W2.some rfl) ?_;rintro b _ rfl;refine W2.cond rfl (fun _=>?_) fun _=>W2.cond rfl (fun _=>?_) fun _=>W2.cond rfl (fun _=>?_) fun _=>W2.cond rfl (fun _=>?_) fun _=>W2.cond rfl (fun _=>?_) fun _=>?_
  .refine W2.bind (abT hE h (by omega) hd.now) ?_;rintro _ _ ⟨y,s,rfl,rfl,g⟩;exact W2.some ⟨y,s,g,.inl ⟨rfl,rfl⟩⟩
  .refine W2.bind (Yr hE h (by omega) hd.now hd.few) ?_;rintro _ _ ⟨y,s,rfl,rfl,g⟩;exact W2.some ⟨y,s,g,.inl ⟨rfl,rfl⟩⟩
  .obtain ⟨m,b,hp⟩:=Yj hs;rw[hp];simp;rw[G5];refine W2.cond rfl (fun _=>?_) fun _=>W2.some hstay;obtain⟨q,hr,hf⟩:=Sy;rw[hr];simp;refine W2.bind (Yr hE h (by omega) hd.now hf) ?_;rintro _ _ ⟨y,s,rfl,rfl,g⟩;exact W2.some ⟨y,s,g,.inl ⟨rfl,rfl⟩⟩
  .refine W2.bind (abV h) ?_;rintro _ _ ⟨y,s,rfl,rfl,g⟩;exact W2.some ⟨y,s,g,.inl ⟨rfl,rfl⟩⟩
  .refine W2.bind (abU hE h (by omega) hd.now) ?_;rintro _ _ ⟨y,s,rfl,rfl,g⟩;exact W2.some ⟨y,s,g,.inl ⟨rfl,rfl⟩⟩
  .exact W2.some hstay
 .rintro _ _ ⟨y,s,g,⟨rfl,rfl⟩|⟨e,rfl,rfl⟩⟩
  .exact W2.some ⟨0,y,s,rfl,rfl,g⟩
  .exact W2.some ⟨e,y,s,rfl,rfl,g⟩
end
end Go.Proofs.YtoekkpmeeclpeaaGreat.S
open Go.Ev Go Go.Fl Go.Ways
namespace Go.Proofs.YtoekkpmeeclpeaaGreat.S
theorem afV{b:Sl Int}{L:List Nat}(hl:b.l=gM L)(hw:∀x∈L,Jc x)(hb:L.length<=17592186044416):A8 b=some (f9 (L.map kQ)):=by
 unfold A8;have e0:b.l.length=L.length:=by rw[hl,br]
 have:=Li (f:=wV b) L kQ (fun i s hi hs=>by
  simp only[wV];rw[decide_eq_true (by omega),cond_true,Bw (by omega),aa,hl,wO hi];unfold Kh;rw[Kf,aa,Mk (hw _ (xC hi)),aa,aa,Hv.2 ⟨rfl,by rw[au];simp;omega⟩,aa,Fp (by omega)]) (fun s=>by
  simp only[wV];rw[decide_eq_false (by omega),cond_false])
 rw[this];rfl
theorem acu{l:List Int}(h:∀x∈l,0<=x/\x<=18446744073709551615):∃L:List Nat,l=gM L/\∀x∈L,Jc x:=by
 refine⟨l.map Int.toNat,?_,fun x hx=>?_⟩
 .rw [gM,List.map_map];refine(List.map_id l).symm.trans (List.map_congr_left fun x hx=>?_);have:=h x hx;show x=((x.toNat:Nat):Int)
  omega
 .obtain ⟨y,hy,rfl⟩:=List.mem_map.1 hx;have:=h y hy;unfold Jc;omega
theorem gp{t:am}{b:Sl Int}{L:List Nat}(hl:b.l=gM L)(hw:∀x∈L,Jc x)(h1:t.aS.l.length<=30)(h2:t.aU.l.length<=12)(hb:L.length<=30):
  ∃(s:Sl (Sl Int))(e:Int),k_ t (f9 (L.map kQ))=some (s,e)/\oO t b=some (s,e)/\(e=0->jS t s):=by
 have hr:=GT (t:=t) hw (by omega);have hrR:=EK (t:=t) hl hb h1 h2;cases hok:Vs t L with
 |false=>rw[hok]at hr hrR;exact⟨Sl.nil,2,by unfold k_;rw[hr];rfl,by unfold oO;rw[hrR];rfl,fun e=>absurd e (by decide)⟩
 |true=>
  obtain⟨hV,hL,hn,hcl⟩:=RB hok;have h8:=rA hV;obtain⟨r1,r2⟩:=OE hV hL hn hl h2;rw[hcl];rcases Q8 hV hL hn h2 with⟨q1,q2⟩|⟨q1,q2⟩
  .exact ⟨_,_,q2,r1 q1,fun e=>absurd e (by decide)⟩
  .exact ⟨_,_,q2,r2 q1,fun _=>XW hV q1⟩
theorem UX{c:aA}(h1:c.T.aS.l.length<=30)(h2:c.T.aU.l.length<=12)(h3:c.dI.l.length<=6)(h4:∀s∈c.dI.l,s.l.length<=30)(h5:∀s∈c.dI.l,∀x∈s.l,0<=x/\x<=18446744073709551615):
  ∀(k i:Nat)(s:Sl (Sl (Sl Int))),i+k=c.dI.l.length->s.l.length=i->(∀a∈s.l,jS c.T a)->
   (aJ (iL c) ((i:Int),s)=some (.inl 2)/\aJ (iE c) ((i:Int),s)=some (.inl false))\/∃r,aJ (iL c) ((i:Int),s)=some (.inr r)/\aJ (iE c) ((i:Int),s)=some (.inr r)/\r.l.length=c.dI.l.length/\∀a∈r.l,jS c.T a:=by
 intro k;induction k with
 |zero=>
  intro i s hi hs hok;obtain rfl:i=c.dI.l.length:=by omega
  exact .inr ⟨s,bW (by simp only[iL,ij,cond_false]),bW (by simp only[iE,ij,cond_false]),hs,hok⟩
 |succ k ih=>
  intro i s hi hs hok;have hlt:i<c.dI.l.length:=by omega
  have hm:gt c.dI.l i∈c.dI.l:=xC hlt;obtain⟨L,hL,hLw⟩:=acu (h5 _ hm);have hLn:L.length<=30:=by have:=h4 _ hm;rw[hL,br]at this;exact this
  obtain⟨r,e,r1,r2,r3⟩:=gp hL hLw h1 h2 hLn;have hof:=afV hL hLw (by omega);have hwr:wr .i64 ((i:Int)+1)=((i+1:Nat):Int):=Fp (by omega);have hcap:fA (s.l++[r])=some (s.l++[r]):=kz (by rw[au,hs];simp;omega);cases he:(e !=0)with
  |true=>
   refine .inl ⟨bW ?_,bW ?_⟩
   .simp only[iL,fT hlt,cond_true,aY hlt,aa,hof,r1,he]
   .simp only[iE,fT hlt,cond_true,aY hlt,aa,r2,he]
  |false=>
   have q1:iL c ((i:Int),s)=some (.inl (((i+1:Nat):Int),Sl.mk (s.l++[r]))):=by simp only[iL,fT hlt,cond_true,aY hlt,aa,hof,r1,he,cond_false,hcap,hwr]
   have q2:iE c ((i:Int),s)=some (.inl (((i+1:Nat):Int),Sl.mk (s.l++[r]))):=by simp only[iE,fT hlt,cond_true,aY hlt,aa,r2,he,cond_false,hcap,hwr]
   rw[dD q1,dD q2];have he0:e=0:=by simpa using he
   refine ih (i+1) _ (by omega) (by rw[zX,au,hs];rfl) fun a ha=>?_;rw[zX]at ha;rcases List.mem_append.1 ha with ha|ha
   .exact hok a ha
   .obtain rfl:=List.mem_singleton.1 ha;exact r3 he0
theorem QW{s:Sl Int}(h:s.l.length<=12):dz s=some (!decide (∀x∈s.l,-1048576<=x/\x<=1048576)):=by
 have h1:=xO (f:=dX s) s.l (fun i(x:Int)=>if-1048576<=x/\x<=1048576 then none else some (i:Int)) () (by omega) (fun i hi=>by
  simp only[dX,fT hi,cond_true,aY hi,aa,Dq,nY];by_cases hc:-1048576<=gt s.l i/\gt s.l i<=1048576
  .rw [if_pos hc,decide_eq_true (show gt s.l i>=-1048576 by omega),decide_eq_true (show gt s.l i<=1048576 by omega)];rfl
  .rw [if_neg hc];have:((decide (gt s.l i>=-1048576))&&(decide (gt s.l i<=1048576)))=false:=by rw[Bool.and_eq_false_iff,decide_eq_false_iff_not,decide_eq_false_iff_not];omega
   rw[this];rfl) (by simp only[dX,ij,cond_false])
 unfold dz eN;rw[h1];cases hs:lE (fun i(x:Int)=>if-1048576<=x/\x<=1048576 then none else some (i:Int)) s.l 0 with
 |none=>
  have:∀x∈s.l,-1048576<=x/\x<=1048576:=fun x hx=>by
   obtain⟨j,hj,rfl⟩:=fD hx;have:=nP.1 hs j _ (bf hj);split at this
   .assumption
   .cases this
  rw[decide_eq_true this];rfl
 |some q=>
  obtain⟨j,x,hj,h6,_⟩:=kw hs;split at h6
  .cases h6
  .rename_i hx;obtain rfl:=af h6;rw[decide_eq_false (fun h=>hx (h x (bA hj)))];simp only[aa,fq];rw[decide_eq_true (by omega)]
theorem Oh{c:aA}(h:c.iU.l.length<=12):aJ (qr c) 0=some (bif decide (∀x∈c.iU.l,-1048576<=x/\x<=1048576)then .inr ()else .inl false):=by
 have h1:=xO (f:=qr c) c.iU.l (fun _(x:Int)=>if-1048576<=x/\x<=1048576 then none else some false) () (by omega) (fun i hi=>by
  simp only[qr,fT hi,cond_true,aY hi,aa];by_cases ha:gt c.iU.l i< -1048576
  .rw [decide_eq_true ha,cond_true,if_neg (by omega)];rfl
  .rw [decide_eq_false ha,cond_false];by_cases hb:gt c.iU.l i>1048576
   .rw [decide_eq_true hb,if_neg (by omega)];rfl
   .rw [decide_eq_false hb,if_pos (by omega)];rfl) (by simp only[qr,ij,cond_false])
 rw[h1];cases hs:lE (fun _(x:Int)=>if-1048576<=x/\x<=1048576 then none else some false) c.iU.l 0 with
 |none=>
  have:∀x∈c.iU.l,-1048576<=x/\x<=1048576:=fun x hx=>by
   obtain⟨j,hj,rfl⟩:=fD hx;have:=nP.1 hs j _ (bf hj);split at this
   .assumption
   .cases this
  rw[decide_eq_true this];rfl
 |some q=>
  obtain⟨j,x,hj,h6,_⟩:=kw hs;split at h6
  .cases h6
  .rename_i hx;obtain rfl:=af h6;rw[decide_eq_false (fun h=>hx (h x (bA hj)))];rfl
def okB(w:Bool)(n m sw sq rate AI wide dL margin retry:Int):Bool:=((((w&&decide (n>=1))&&decide (n<=16))&&(m==sw))&&(((decide (rate>=0))&&(decide (rate<=500)))&&(((decide (AI>=sq))&&(decide (AI<=64)))&&(((decide (wide>=0))&&(decide (wide<=65536)))&&(((decide (dL>=0))&&(decide (dL<=65536)))&&(((decide (margin>=0))&&(decide (margin<=65536)))&&((decide (retry>=1))&&(decide (retry<=65536)))))))))
def noB(w:Bool)(n m sw sq rate AI:Int):Bool:=((((((((!w)||(decide (n<1)))||(decide (n>16)))||(m !=sw))||(decide (rate<0)))||(decide (rate>500)))||(decide (AI<sq)))||(decide (AI>64)))
def noC(wide dL margin retry:Int):Bool:=((((((((decide (wide<0))||(decide (wide>65536)))||(decide (dL<0)))||(decide (dL>65536)))||(decide (margin<0)))||(decide (margin>65536)))||(decide (retry<1)))||(decide (retry>65536)))
theorem adT(w:Bool)(n m sw sq rate AI wide dL margin retry:Int):okB w n m sw sq rate AI wide dL margin retry=!(noB w n m sw sq rate AI||noC wide dL margin retry):=by rw[Bool.eq_iff_iff,fS,bV];simp only[okB,noB,noC,ax,bV,decide_eq_true_eq,decide_eq_false_iff_not,beq_iff_eq,bne_eq_false_iff_eq,Bool.not_eq_false'];cases w<;>simp only[Bool.false_eq_true,false_and,true_and]<;>omega
theorem Sr{c:aA}(h1:c.T.aS.l.length<=30)(h2:c.T.aU.l.length<=12)(h3:c.dI.l.length<=6)(h4:∀s∈c.dI.l,s.l.length<=30)(h5:∀s∈c.dI.l,∀x∈s.l,0<=x/\x<=18446744073709551615)(h6:c.iU.l.length<=12):
  (∃r,ri c=some (r,0)/\qs c=some (r,true)/\kB c r)\/∃r,ri c=some (r,2)/\qs c=some (r,false):=by
 by_cases hV:gB c.T
 .obtain ⟨w,q1,q2⟩:∃w,qj c.T=some w/\w5 c.T=some w:=by obtain⟨s,_,_,h⟩:=Ja hV;exact⟨_,h,(N3 hV).trans h⟩
  have hR:mW c.T=some true:=by rw[BJ,decide_eq_true hV]
  have hR2:oy c.T=some true:=by rw[DL h1 h2,decide_eq_true hV]
  have p:ri c=bif okB w (c.dI.l.length:Int) (c.iU.l.length:Int) c.T.ao (c.T.aU.l.length:Int) c.BF c.HA c.qf c.zQ c.A7 c.Aw&&decide (∀x∈c.iU.l,-1048576<=x/\x<=1048576)then((aJ (iL c) (0,Sl.nil)).bind fun
    |.inl i23=>some (Sl.nil,i23)
    |.inr s24=>some (s24,0))else some (Sl.nil,2):=by
   unfold ri nY;rw[hR];simp only[aa,cond_true];rw[q1];simp only[aa,NP,QW h6];unfold okB;generalize(((w&&decide ((c.dI.l.length:Int)>=1))&&decide ((c.dI.l.length:Int)<=16))&&((c.iU.l.length:Int)==c.T.ao))=a;cases a with
   |false=>rfl
   |true=>simp only[cond_true,aa,fV];generalize(((decide (c.BF>=0))&&(decide (c.BF<=500)))&&_)=b;cases b with|false=>rfl|true=>simp only[bX,cond_false,aa,fV];cases decide (∀x∈c.iU.l,-1048576<=x/\x<=1048576)<;>rfl
  have q:qs c=bif(noB w (c.dI.l.length:Int) (c.iU.l.length:Int) c.T.ao (c.T.aU.l.length:Int) c.BF c.HA||noC c.qf c.zQ c.A7 c.Aw)then some (Sl.nil,false)else bif decide (∀x∈c.iU.l,-1048576<=x/\x<=1048576)then((aJ (iE c) (0,Sl.nil)).bind fun
    |.inl b19=>some (Sl.nil,b19)
    |.inr s20=>some (s20,true))else some (Sl.nil,false):=by
   unfold qs;rw[hR2];simp only[aa,bX,cond_false];rw[q2];simp only[aa,Oh h6];unfold noB noC;generalize((((((((!w)||_)||_)||_)||_)||_)||_)||_)=a;cases a with
   |true=>rfl
   |false=>simp only[cond_false,Bool.false_or];generalize((((((((decide (c.qf<0))||_)||_)||_)||_)||_)||_)||_)=b;cases b with|true=>rfl|false=>simp only[cond_false];cases decide (∀x∈c.iU.l,-1048576<=x/\x<=1048576)<;>rfl
  rw[p,q,adT];have hno:=adT w (c.dI.l.length:Int) (c.iU.l.length:Int) c.T.ao (c.T.aU.l.length:Int) c.BF c.HA c.qf c.zQ c.A7 c.Aw;cases hq:noB w (c.dI.l.length:Int) (c.iU.l.length:Int) c.T.ao (c.T.aU.l.length:Int) c.BF c.HA||noC c.qf c.zQ c.A7 c.Aw with
  |true=>exact .inr ⟨Sl.nil,rfl,rfl⟩
  |false=>
   cases decide (∀x∈c.iU.l,-1048576<=x/\x<=1048576)with
   |false=>exact .inr ⟨Sl.nil,rfl,rfl⟩
   |true=>
    simp only[fq,Bool.and_self,cond_true,cond_false];rcases UX h1 h2 h3 h4 h5 c.dI.l.length 0 Sl.nil (by omega) rfl (fun _ h=>(bF h).elim)with⟨a,b⟩|⟨r,a,b,hl,ho⟩
    .have a:aJ (iL c) (0,Sl.nil)=some (.inl 2):=a;have b:aJ (iE c) (0,Sl.nil)=some (.inl false):=b;rw[a,b];exact .inr ⟨Sl.nil,rfl,rfl⟩
    .have a:aJ (iL c) (0,Sl.nil)=some (.inr r):=a;have b:aJ (iE c) (0,Sl.nil)=some (.inr r):=b;rw[a,b];refine .inl ⟨r,rfl,rfl,?_⟩;have hsw:=hV.sw;rw[hq,fq]at hno;simp only[okB,ax,decide_eq_true_eq]at hno;exact⟨⟨by omega,by omega⟩,ho,⟨by omega,by omega⟩,by omega,by omega⟩
 .have hR:mW c.T=some false:=by rw[BJ,decide_eq_false hV]
  have hR2:oy c.T=some false:=by rw[DL h1 h2,decide_eq_false hV]
  refine .inr ⟨Sl.nil,?_,?_⟩
  .unfold ri;rw[hR];rfl
  .unfold qs;rw[hR2];rfl
end Go.Proofs.YtoekkpmeeclpeaaGreat.S
