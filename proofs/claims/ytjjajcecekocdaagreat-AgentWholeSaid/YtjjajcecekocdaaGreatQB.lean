/- Matches and packets: which may be, which packets a match hits, for the agent's program. Conditions: as stated. -/
import Derived.Test.YtjjajcecekocdaaGreatQA
open Int renaming eq_ofNat_of_zero_le->eR
open Option renaming bind_some->ah
open Go.Ev Go
namespace Go.Proofs.YtjjajcecekocdaaGreat.A
def top(f:Nat):Int:=if f=2 then 15 else 255
theorem G9{f:Nat}(hf:f<4):rA (f:Int)=some (top f):=by
 obtain rfl|rfl|rfl|rfl:f=0\/f=1\/f=2\/f=3:=by omega
 all_goals rfl
theorem yJ{f:Nat}(hf:f<4):pU (f:Int)=some (top f):=by
 obtain rfl|rfl|rfl|rfl:f=0\/f=1\/f=2\/f=3:=by omega
 all_goals decide
theorem tE(f:Nat):top f<=255:=by unfold top;split<;>omega
abbrev lx(m:aj)(f:Nat):Int:=gt (aj.nT m).1 f
abbrev vl(m:aj)(f:Nat):Int:=gt (aj.vH m).1 f
structure uT(m:aj):Prop where
 lo:-1<=aj.dk m
 hi:aj.dk m<=7
 b:∀f,f<4->0<=lx m f/\lx m f<=top f/\0<=vl m f/\∀i,bt (vl m f) i=true->bt (lx m f) i=true
theorem RS{f:Nat}(h:f<4):eX (f:Int) 4=some f:=cB h
theorem Bz{v m:Int}(hv:0<=v)(hm:0<=m)(h:∀i,bt v i=true->bt m i=true):v<=m:=by have:=QZ (v:=v.toNat) (m:=m.toNat) h;omega
theorem GN{v:Int}(h1:v<=255){i:Nat}(hi:8<=i):bt v i=false:=PO (by omega) hi
theorem Uj{m:aj}{f:Nat}(hf:f<4)(h1:0<=lx m f)(h2:lx m f<=255)(h3:0<=vl m f)(h4:vl m f<=255):
  bw (pR m (f:Int)) 0=some (bif tt (∀i,i<8->bt (vl m f) i=true->bt (lx m f) i=true)then .inr ()else .inl false):=by
 refine x9 8 (by omega) (fun i=>bt (vl m f) i=true->bt (lx m f) i=true) () (fun i hi=>?_) ?_
 .simp only[pR];rw[decide_eq_true (by omega),cond_true,RS hf];simp only[ah];rw[oL h3 (by omega) (by omega),oL h1 (by omega) (by omega)];simp only[ah];cases bt (vl m f) i<;>cases bt (lx m f) i<;>simp[tt]
 .rfl
theorem DB(m:aj):qF m=some (tt (uT m)):=by
 unfold qF;by_cases hp:aj.dk m< -1\/aj.dk m>7
 .rw [fK,fK,G8,iC hp,cond_true,eI fun h=>by have:=h.lo;have:=h.hi;omega]
 rw[fK,fK,G8,eI hp,cond_false];rw[x9 (f:=pQ m) 4 (by omega) (fun f=>0<=lx m f/\lx m f<=top f/\0<=vl m f/\vl m f<=top f/\∀i,i<8->bt (vl m f) i=true->bt (lx m f) i=true) () (fun f hf=>?_) rfl]
 .have:uT m<->∀f,f<4->0<=lx m f/\lx m f<=top f/\0<=vl m f/\vl m f<=top f/\∀i,i<8->bt (vl m f) i=true->bt (lx m f) i=true:=by
   constructor
   .intro h f hf;obtain⟨h1,h2,h3,h4⟩:=h.b f hf;exact⟨h1,h2,h3,Int.le_trans (Bz h3 h1 h4) h2,fun i _=>h4 i⟩
   .intro h;refine⟨by omega,by omega,fun f hf=>?_⟩;obtain⟨h1,h2,h3,h4,h5⟩:=h f hf;refine⟨h1,h2,h3,fun i hb=>?_⟩;by_cases hi:i<8
    .exact h5 i hi hb
    .rw [GN (Int.le_trans h4 (tE f)) (by omega)]at hb;cases hb
  rw[cJ this];cases hc:tt _<;>simp only[cond_true,cond_false,ah]
 .simp only[pQ];rw[decide_eq_true (by omega),cond_true,RS hf,G9 hf];simp only[ah];by_cases h1:lx m f<0
  .rw [decide_eq_true h1,eI (by omega)];rfl
  rw[decide_eq_false h1,cond_false];by_cases h2:lx m f>top f
  .rw [decide_eq_true h2,eI (by omega)];rfl
  rw[decide_eq_false h2,cond_false];by_cases h3:vl m f<0
  .rw [decide_eq_true h3,eI (by omega)];rfl
  rw[decide_eq_false h3,cond_false];by_cases h4:vl m f>top f
  .rw [decide_eq_true h4,eI (by omega)];rfl
  rw[decide_eq_false h4];simp only[ah,cond_false];have:=tE f;rw[Uj hf (by omega) (by omega) (by omega) (by omega)];have e:(0<=lx m f/\lx m f<=top f/\0<=vl m f/\vl m f<=top f/\∀i,i<8->bt (vl m f) i=true->bt (lx m f) i=true)<->∀i,i<8->bt (vl m f) i=true->bt (lx m f) i=true:=⟨fun h=>h.2.2.2.2,fun h=>⟨by omega,by omega,by omega,by omega,h⟩⟩
  rw[cJ e];cases tt _<;>simp only[cond_true,cond_false,ah]
theorem D3(m:aj)(hfit:∀f,f<4->vl m f<9223372036854775808):qL m=some (tt (uT m)):=by
 unfold qL;by_cases hp:aj.dk m< -1\/aj.dk m>=8
 .rw [fK,fK,G8,iC hp,cond_true,eI fun h=>by have:=h.lo;have:=h.hi;omega]
 rw[fK,fK,G8,eI hp,cond_false];rw[x9 (f:=pZ m) 4 (by omega) (fun f=>0<=lx m f/\lx m f<=top f/\0<=vl m f/\∀i,bt (vl m f) i=true->bt (lx m f) i=true) () (fun f hf=>?_) rfl]
 .have:uT m<->∀f,f<4->0<=lx m f/\lx m f<=top f/\0<=vl m f/\∀i,bt (vl m f) i=true->bt (lx m f) i=true:=⟨fun h=>h.b,fun h=>⟨by omega,by omega,h⟩⟩
  rw[cJ this];cases hc:tt _<;>simp only[cond_true,cond_false,ah]
 .simp only[pZ];rw[decide_eq_true (by omega),cond_true,RS hf,yJ hf];simp only[ah];by_cases h1:lx m f<0
  .rw [decide_eq_true h1,eI (by omega)];rfl
  rw[decide_eq_false h1,cond_false];by_cases h2:lx m f>top f
  .rw [decide_eq_true h2,eI (by omega)];rfl
  rw[decide_eq_false h2,cond_false];by_cases h3:vl m f<0
  .rw [decide_eq_true h3,eI (by omega)];rfl
  rw[decide_eq_false h3];simp only[cond_false,ah];have:=tE f;have hv:=hfit f hf;have e:(0<=lx m f/\lx m f<=top f/\0<=vl m f/\∀i,bt (vl m f) i=true->bt (lx m f) i=true)<->(qT .i64 (vl m f) (lx m f)=0):=by obtain⟨v,hv2⟩:=eR (a:=vl m f) (by omega);obtain⟨k,hk2⟩:=eR (a:=lx m f) (by omega);rw[hv2,hk2];rw[J7 (by omega) (by omega),Int.natCast_eq_zero,V_];simp only[bt,Int.toNat_natCast];exact⟨fun h=>h.2.2.2,fun h=>⟨by omega,by omega,by omega,h⟩⟩
  rw[cJ e];by_cases hc:qT .i64 (vl m f) (lx m f)=0
  .rw [iC hc,hc];rfl
  .rw [eI hc,show(qT .i64 (vl m f) (lx m f) !=0)=true by simpa using hc];rfl
theorem uT.Vn{m:aj}(h:uT m){f:Nat}(hf:f<4):∃k v:Nat,lx m f=k/\vl m f=v/\k<256/\v<256/\∀i,v.testBit i=true->k.testBit i=true:=by obtain⟨h1,h2,h3,h4⟩:=h.b f hf;have:=tE f;have:=Bz h3 h1 h4;obtain⟨k,hk⟩:=eR h1;obtain⟨v,hv⟩:=eR h3;refine⟨k,v,hk,hv,by omega,by omega,fun i hi=>?_⟩;have:=h4 i;rw[hk,hv]at this;exact this hi
end Go.Proofs.YtjjajcecekocdaaGreat.A
