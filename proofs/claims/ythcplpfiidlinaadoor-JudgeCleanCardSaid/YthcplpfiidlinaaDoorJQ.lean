/- JudgeClean, JudgeFinds: what is found of plans that are made. Conditions: as stated. -/
import Derived.Test.YthcplpfiidlinaaDoorJP
open Go.Ev Go
open Bool renaming not_false->eK,not_true->cm
open Option renaming bind_some->af
namespace Go.Proofs.YthcplpfiidlinaaDoor.J
theorem G9{n:Int}(h0:0<=n)(h1:n<=1125899906842624):oO n=n:=by unfold oO;rw[if_neg (by omega:¬-1125899906842624>n),if_neg (by omega)]
theorem N0{n:Int}(h0:0<=n)(h1:n<=1048576):sF n=n:=by unfold sF;rw[if_neg (by omega:¬0>n),if_neg (by omega)]
section
variable{t:ah}{old now:Sl (Sl Int)}{R:List aj}{s h:Nat}
structure Sv(t:ah)(old now:Sl (Sl Int))(at' miss lead:Int)(p:bh):Prop where
 mv:p.qR.l=g_ t old now
 rd:OW (g_ t old now) (jf t at' miss lead) (nf t miss) p.gO.l
 ms:p.MT=miss
theorem N3(hS1:m7 t old)(hS2:m7 t now){at' miss lead:Int}:∃p e,lu t old now at' miss lead=some (p,e)/\(e=0->(In at' miss lead/\gk t old/\gk t now)/\Sv t old now at' miss lead p):=by
 by_cases hc:In at' miss lead/\gk t old/\gk t now
 .obtain ⟨p,e,h1,h2⟩:=IL hc.2.1 hc.2.2 hc.1;refine⟨p,e,h1,fun he=>⟨hc,?_⟩⟩;by_cases hz:g_ t old now=[]
  .have:=(h2.none hz).2;omega
  .obtain ⟨s,R,g1,g2,_,g4⟩:=h2.P1 hz;rcases g4 with⟨_,_,g5⟩|⟨_,g5,_⟩
   .omega
   .rw [g5];exact⟨g1,g2,rfl⟩
 .exact ⟨tC,2,K6 hS1 hS2 hc,fun he=>absurd he (by decide)⟩
theorem PP(hN:gk t now){ms:List ae}(hms:∀m∈ms,m∈g_ t old now)(hR:Cr ms R):∀r∈R,r.2.2.l.length<=8:=by intro r hr;obtain⟨i,hi,rfl⟩:=K4 hr;have h1:=hR.SA i hi;refine Cd h1.OK fun x hx=>?_;obtain⟨m,hm,_,rfl⟩:=(h1.BL x).1 hx;obtain⟨h,s,a,b,_,rfl⟩:=yE.1 (hms m hm);have:=hN.1.sv;show 0<=(s:Int)/\(s:Int)<8;omega
theorem Mv(hV:lh t){at' miss lead:Int}(hI:In at' miss lead)(hR:OW (g_ t old now) (jf t at' miss lead) (nf t miss) R)(hl:R.length<=8){j:Nat}(h1:1<=j)(hj:j<R.length):qs (nf t miss) R j=false:=by
 unfold qs;have a:=hR.PN j hj;have b:=hR.PN (j-1) (by omega);have t1:=xx hV hI (show j<=8 by omega);have t2:=xx hV hI (show j-1<=8 by omega);rw[a,b,G9 t1.1 (by omega),G9 t2.1 (by omega),decide_eq_false_iff_not]
 have e:(j:Int)*nf t miss=((j-1:Nat):Int)*nf t miss+nf t miss:=by
  have:(j:Int)=((j-1:Nat):Int)+1:=by omega
  rw[this,Int.add_mul,Int.one_mul]
 omega
theorem Mw{p:bh}(hO:gk t old)(hN:gk t now)(hm:p.qR.l.length<=64)(hR:p.gO.l.length<=8)(hw:∀r∈p.gO.l,r.2.2.l.length<=8)(hS1:m7 t old)(hS2:m7 t now):∃s,hZ t old now p=some s/\s.l=Gq t old now p:=by obtain⟨s,e1,e2⟩:=Jp (t:=t) (old:=old) (now:=now) (p:=p) hS1 hS2 (by omega) (by omega) (fun r hr=>by have:=hw r hr;omega);rw[Bq ⟨hO,hN⟩,cond_true]at e2;exact⟨s,e1,e2⟩
theorem Jo(t:ah)(old now:Sl (Sl Int))(at' miss lead:Int)(ho:old.l.length<9223372036854775808)(hn:now.l.length<9223372036854775808):nE t old now at' miss lead=some true:=by
 unfold nE;rw[xZ ho];by_cases hS1:m7 t old
 rotate_left
 .rw [decide_eq_false hS1];simp only[af,eK,cond_true,lx]
 rw[decide_eq_true hS1,xZ hn];by_cases hS2:m7 t now
 rotate_left
 .rw [decide_eq_false hS2];simp only[af,eK,cm,cond_false,cond_true,lx]
 rw[decide_eq_true hS2];simp only[af,cm,cond_false];obtain⟨p,e,m1,m2⟩:=N3 hS1 hS2 (at':=at') (miss:=miss) (lead:=lead);rw[m1];simp only[af];by_cases he:e=0
 rotate_left
 .rw [bne_iff_ne.2 he];simp only[cond_true,lx,af]
 obtain⟨⟨hI,hO,hN⟩,hM⟩:=m2 he;rw[he];have hl:=hM.rd.len hN;obtain⟨a,a1,a2⟩:=Mw (p:=p) hO hN (by rw[hM.mv];exact FE hN) hl (PP hN (fun _ h=>h) hM.rd.w) hS1 hS2
 have hz:a.l=[]:=by
  rw[a2];unfold Gq;have hI2:=hI;unfold In at hI2;rw[hM.mv,hM.ms,IG hM.rd.w (fun s hs=>hN.1.di hs),F8 hM.rd.w hN.1.len,CX hM.rd.w hO hN,N0 hI2.2.1.1 hI2.2.1.2];have:sR (2*miss+iF t+1) p.gO.l 1 (p.gO.l.length-1)=[]:=List.flatMap_eq_nil_iff.2 fun j hj=>by rw[List.mem_range'_1]at hj;have:=Mv hO.1.tR hI hM.rd hl (j:=j) (by omega) (by omega);have:qs (2*miss+iF t+1) p.gO.l j=false:=this;rw[this];rfl
  rw[this];rfl
 have hz2:((a.l.length:Int)==0)=true:=by rw[hz];rfl
 simp only[bne_self_eq_false,cond_false,a1,af,hz2,cond_true,lx]
end
end Go.Proofs.YthcplpfiidlinaaDoor.J
