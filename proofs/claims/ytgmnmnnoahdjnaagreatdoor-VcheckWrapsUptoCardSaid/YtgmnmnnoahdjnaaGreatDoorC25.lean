import Derived.Test.YtgmnmnnoahdjnaaGreatDoorC21
import Derived.Test.YtgmnmnnoahdjnaaGreatDoorC20
import Derived.Test.YtgmnmnnoahdjnaaGreatDoorC19
open Go.Value renaming int → Zi, slice → Zs, string → Zt, pointer → Zp
open Go.IntKind renaming i64 → Zq
set_option maxRecDepth 100000
set_option maxHeartbeats 16000000
set_option linter.unusedVariables false
set_option linter.unusedSimpArgs false
namespace Go.Proofs.YtgmnmnnoahdjnaaGreatDoor
section
section
variable {T:List ak}
theorem px (hT:WT T):∀ (n:Nat),(∀ acc p,p<T.length->12*(T.length-p)+1<=n->bt T (n+1) acc p=bt T n acc p)/\(∀ p,p<T.length->12*(T.length-p)+1<=n->br T (n+1) p=br T n p)
 | 0=>⟨λ acc p hp h=>by omega,λ p hp h=>by omega⟩
 |n+1=>by
  obtain ⟨hS,hK⟩:=px hT n;have hE:=(iE hT n).1;have hI:=λ p hp=>eh hT n 1 p hp
  have hIK:=(sw hT n).2;have hIS:=(sw hT n).1;refine ⟨λ acc p hp h=>?_,λ p hp h=>?_⟩
  ·conv=>lhs;unfold bt
   conv=>rhs;unfold bt
   split
   ·rename_i hs
    have h0:=hT.next hp (au hs);have h1:=hI (p+1) h0;rw [hE 1 (p+1) (by omega) h0 (by omega)];cases hx:aC T n 1 (p+1) with
    | bad q=>rfl
    |ok a q =>
     rw [hx] at h1;simp only;split
     ·rename_i hs2
      have h2:=hT.next h1.2 (au hs2);have h3:=hI (q+1) h2;rw [hE 1 (q+1) (by omega) h2 (by have:=h1.1;omega)];cases hy:aC T n 1 (q+1) with
      | bad r=>rfl
      |ok b r =>
       rw [hy] at h3;simp only;split
       ·rename_i hs3;exact hS _ (r+1) (hT.next h3.2 (au hs3)) (by have:=h1.1;have:=h3.1;omega)
       ·rfl
     ·rfl
   split
   ·rename_i hs
    have h0:=hT.next hp (au hs);have h1:=hI (p+1) h0;rw [hE 1 (p+1) (by omega) h0 (by omega)];cases hx:aC T n 1 (p+1) with
    | bad q=>rfl
    |ok a q =>
     rw [hx] at h1;simp only;rw [hK q h1.2 (by have:=h1.1;omega)];have h2:=hIK q h1.2;cases hy:br T n q with
     | bad r=>rfl
     |ok body r =>
      rw [hy] at h2;simp only;split
      ·rename_i hs3
       have h4:=hT.next h2.2 (au hs3);rw [hK (r+1) h4 (by have:=h1.1;have:=h2.1;omega)];have h5:=hIK (r+1) h4;cases hz:br T n (r+1) with
       | bad u=>rfl
       | ok els u=>rw [hz] at h5;exact hS _ u h5.2 (by have:=h1.1;have:=h2.1;have:=h5.1;omega)
      ·exact hS _ r h2.2 (by have:=h1.1;have:=h2.1;omega)
   split
   ·rename_i hs
    have h0:=hT.next hp (au hs);split
    ·rename_i hk
     have h9:=hT.next h0 (by omega);split
     ·rename_i hs2
      have h8:=hT.next h9 (au hs2);have h1:=hI (p+3) h8;rw [hE 1 (p+3) (by omega) h8 (by omega)];cases hx:aC T n 1 (p+3) with
      | bad q=>rfl
      |ok a q =>
       rw [hx] at h1;simp only;rw [hK q h1.2 (by have:=h1.1;omega)];have h2:=hIK q h1.2;cases hy:br T n q with
       | bad r=>rfl
       | ok body r=>rw [hy] at h2;exact hS _ r h2.2 (by have:=h1.1;have:=h2.1;omega)
     ·rfl
    ·rfl
   ·rfl
  ·conv=>lhs;unfold br
   conv=>rhs;unfold br
   split
   ·rename_i hs
    have h0:=hT.next hp (au hs);rw [hS [] (p+1) h0 (by omega)]
   ·rfl
theorem qO (hT:WT T) {acc:List SJ} {p:Nat} (hp:p<T.length):∀ {n m:Nat},12*(T.length-p)+1<=n->n<=m->bt T m acc p=bt T n acc p:=by
 intro n m h hm
 induction m with
 |zero =>
  obtain rfl:n=0:=by omega
  rfl
 |succ m ih =>
  rcases Nat.lt_or_ge m n with h1 | h1
  ·obtain rfl:n=m+1:=by omega
   rfl
  ·rw [(px hT m).1 acc p hp (by omega),ih h1]
def TkS (T:List ak) (acc:List SJ) (p:Nat) (l:List SJ) (q:Nat):Prop:=∃ N,∀ n,N<=n->bt T n acc p=.ok l q
def TkK (T:List ak) (p:Nat) (l:List SJ) (q:Nat):Prop:=∃ N,∀ n,N<=n->br T n p=.ok l q
theorem TkS.stop {acc:List SJ} {p:Nat} (h1:al T p dF=false) (h2:al T p wIf=false) (h3:al T p fJ=false):TkS T acc p acc p:=by
 refine ⟨1,λ n hn=>?_⟩;obtain ⟨m,rfl⟩:∃ m,n=m+1:=⟨n-1,by omega⟩
 unfold bt;rw [if_neg (by rw [h1];decide),if_neg (by rw [h2];decide),if_neg (by rw [h3];decide)]
theorem TkS.emit {acc:List SJ} {p:Nat} {a b:EJ} {q r u:Nat} {l:List SJ} (hr:rdT T p=aS dF) (ha:TkE T 1 (p+1) a q) (h1:rdT T q=ap [44]) (hb:TkE T 1 (q+1) b r) (h2:rdT T r=ap [59]) (hl:TkS T (acc++[.mk 1 [] a b [] []]) (r+1) l u):TkS T acc p l u:=by
 obtain ⟨N1,hN1⟩:=ha;obtain ⟨N2,hN2⟩:=hb;obtain ⟨N3,hN3⟩:=hl;refine ⟨N1+N2+N3+1,λ n hn=>?_⟩;obtain ⟨m,rfl⟩:∃ m,n=m+1:=⟨n-1,by omega⟩
 unfold bt;rw [if_pos (by rw [bf hr];decide),hN1 m (by omega)];simp only;rw [if_pos (by rw [bf h1];decide),hN2 m (by omega)];simp only;rw [if_pos (by rw [bf h2];decide),hN3 m (by omega)]
theorem TkS.if0 {acc:List SJ} {p:Nat} {a:EJ} {q r u:Nat} {body l:List SJ} (hr:rdT T p=aS wIf) (ha:TkE T 1 (p+1) a q) (hb:TkK T q body r) (h2:al T r dc=false) (hl:TkS T (acc++[.mk 2 [] a aM body []]) r l u):TkS T acc p l u:=by
 obtain ⟨N1,hN1⟩:=ha;obtain ⟨N2,hN2⟩:=hb;obtain ⟨N3,hN3⟩:=hl;refine ⟨N1+N2+N3+1,λ n hn=>?_⟩;obtain ⟨m,rfl⟩:∃ m,n=m+1:=⟨n-1,by omega⟩
 unfold bt;rw [if_neg (by rw [bf hr];decide),if_pos (by rw [bf hr];decide),hN1 m (by omega)];simp only;rw [hN2 m (by omega)];simp only;rw [if_neg (by rw [h2];decide),hN3 m (by omega)]
theorem TkS.if1 {acc:List SJ} {p:Nat} {a:EJ} {q r t u:Nat} {body els l:List SJ} (hr:rdT T p=aS wIf) (ha:TkE T 1 (p+1) a q) (hb:TkK T q body r) (h2:rdT T r=aS dc) (he:TkK T (r+1) els t) (hl:TkS T (acc++[.mk 2 [] a aM body els]) t l u):TkS T acc p l u:=by
 obtain ⟨N1,hN1⟩:=ha;obtain ⟨N2,hN2⟩:=hb;obtain ⟨N3,hN3⟩:=hl;obtain ⟨N4,hN4⟩:=he;refine ⟨N1+N2+N3+N4+1,λ n hn=>?_⟩;obtain ⟨m,rfl⟩:∃ m,n=m+1:=⟨n-1,by omega⟩
 unfold bt;rw [if_neg (by rw [bf hr];decide),if_pos (by rw [bf hr];decide),hN1 m (by omega)];simp only;rw [hN2 m (by omega)];simp only;rw [if_pos (by rw [bf h2];decide),hN4 m (by omega)];simp only;rw [hN3 m (by omega)]
theorem TkS.for_ {acc:List SJ} {p:Nat} {s:List UInt8} {a:EJ} {q r u:Nat} {body l:List SJ} (hr:rdT T p=aS fJ) (h1:rdT T (p+1)=eR s) (h2:rdT T (p+2)=aS wIn) (ha:TkE T 1 (p+3) a q) (hb:TkK T q body r) (hl:TkS T (acc++[.mk 3 s a aM body []]) r l u):TkS T acc p l u:=by
 obtain ⟨N1,hN1⟩:=ha;obtain ⟨N2,hN2⟩:=hb;obtain ⟨N3,hN3⟩:=hl;refine ⟨N1+N2+N3+1,λ n hn=>?_⟩;obtain ⟨m,rfl⟩:∃ m,n=m+1:=⟨n-1,by omega⟩
 obtain ⟨h3,h4,_⟩:=iJ (show rdT T (p+1)=(1,s,0) from h1);unfold bt;rw [if_neg (by rw [bf hr];decide),if_neg (by rw [bf hr];decide),if_pos (by rw [bf hr];decide),if_pos h3,if_pos (by rw [bf h2];decide),hN1 m (by omega)];simp only;rw [hN2 m (by omega)];simp only;rw [h4,hN3 m (by omega)]
theorem TkK.block {p:Nat} {l:List SJ} {q:Nat} (h1:rdT T p=ap [123]) (hl:TkS T [] (p+1) l q) (h2:rdT T q=ap [125]):TkK T p l (q+1):=by
 obtain ⟨N,hN⟩:=hl;refine ⟨N+1,λ n hn=>?_⟩;obtain ⟨m,rfl⟩:∃ m,n=m+1:=⟨n-1,by omega⟩
 unfold br;rw [if_pos (by rw [bf h1];decide),hN m (by omega)];simp only;rw [if_pos (by rw [bf h2];decide)]
def sS (T:List ak) (q:Nat):Prop:=al T q dF=false/\al T q wIf=false/\al T q fJ=false/\al T q dc=false
theorem sS.of {q:Nat} {k:Int} {t:List UInt8} {n:Int} (h:rdT T q=(k,t,n)) (ht:t≠dF/\t≠wIf/\t≠fJ/\t≠dc):sS T q:=by
 refine ⟨?_,?_,?_,?_⟩<;>rw [bf h,decide_eq_false_iff_not]
 ·exact λ e=>ht.1 e.2
 ·exact λ e=>ht.2.1 e.2
 ·exact λ e=>ht.2.2.1 e.2
 ·exact λ e=>ht.2.2.2 e.2
end
theorem pR {b:EJ} (h:fW b=true):b=aM:=by
 obtain ⟨k,v,s,kids⟩:=b;unfold fW at h;rw [Bool.and_eq_true,decide_eq_true_eq] at h;obtain ⟨⟨rfl,rfl,h3⟩,h4⟩:=h;obtain rfl:=List.length_eq_zero_iff.1 h3;rw [ru h4];rfl
theorem rO {T:List ak} {p:Nat} (x:SJ) {r:List LX} (h:At T p (dA x++r)):al T p dc=false:=by
 obtain ⟨k,s,a,b,body,els⟩:=x;unfold dA at h;by_cases h1:k=1
 ·rw [if_pos h1] at h;rw [bf (show rdT T p=(2,dF,0) from (At.cons.1 h).1)];decide
 ·rw [if_neg h1] at h;by_cases h3:k=3
  ·rw [if_pos h3] at h;rw [bf (show rdT T p=(2,fJ,0) from (At.cons.1 h).1)];decide
  ·rw [if_neg h3] at h;rw [bf (show rdT T p=(2,wIf,0) from (At.cons.1 h).1)];decide
def zi (T:List ak) (d:Nat):Prop:=∀ l:List SJ,cF d l=true->∀ p,At T p (ap [123]::(aq l++[ap [125]]))->TkK T p l (p+(aq l).length+2)
theorem iH {T:List ak} {d:Nat} (ih:d≠0->zi T (d-1)):∀ l:List SJ,cF d l=true->∀ acc p,At T p (aq l)->sS T (p+(aq l).length)->TkS T acc p (acc++l) (p+(aq l).length)
 |[],_,acc,p,_,hs=>by
  rw [List.append_nil];unfold aq at hs ⊢;exact .stop hs.1 hs.2.1 hs.2.2.1
 | .mk k s a b body els::l,hm,acc,p,ha,hs=>by
  unfold cF at hm;rw [Bool.and_eq_true] at hm;obtain ⟨hx,hl⟩:=hm;unfold ly at hx;rw [Bool.and_eq_true,Bool.and_eq_true,decide_eq_true_eq,decide_eq_true_eq] at hx;obtain ⟨hd,hfa,hk⟩:=hx;have hK:=ih hd;unfold aq at ha hs ⊢;obtain ⟨hA,hL⟩:=At.app.1 ha;rw [List.length_append,← Nat.add_assoc] at hs ⊢;have hrest:=λ acc=>iH ih l hl acc _ hL hs
  have hel:al T (p+(dA (.mk k s a b body els)).length) dc=false:=by
   cases l with
   | nil=>unfold aq at hs;exact hs.2.2.2
   | cons y r=>exact rO y (r:=aq r) (by rw [aq] at hL;exact hL)
  have happ:∀ z:SJ,acc++z::l=(acc++[z])++l:=λ z=>by rw [List.append_assoc];rfl
  by_cases h1:k=1
  ·subst h1;rw [if_pos rfl,Bool.and_eq_true,decide_eq_true_eq,decide_eq_true_eq] at hk;obtain ⟨hfb,rfl,hlen⟩:=hk;obtain rfl:body=[]:=List.length_eq_zero_iff.1 (by omega);obtain rfl:els=[]:=List.length_eq_zero_iff.1 (by omega);have e:dA (.mk 1 [] a b [] [])=aS dF::(aw 1 a++ap [44]::(aw 1 b++[ap [59]])):=by unfold dA;rw [if_pos rfl]
   have hn:(dA (.mk 1 [] a b [] [])).length=1+(aw 1 a).length+1+(aw 1 b).length+1:=by rw [e];simp only [List.length_cons,List.length_append,List.length_nil];omega
   rw [e] at hA;obtain ⟨g1,g2⟩:=At.cons.1 hA;obtain ⟨g3,g4⟩:=At.app.1 g2;obtain ⟨g5,g6⟩:=At.cons.1 g4;obtain ⟨g7,g8⟩:=At.app.1 g6;have g9:=(At.cons.1 g8).1;rw [happ];refine .emit g1 (gK hfa g3 (.of g5 (by decide) (by decide) 1)) g5 (gK hfb g7 (.of g9 (by decide) (by decide) 1)) g9 ?_;have:=hrest (acc++[.mk 1 [] a b [] []]);rwa [hn,show p+(1+(aw 1 a).length+1+(aw 1 b).length+1)=p+1+(aw 1 a).length+1+(aw 1 b).length+1 by omega] at this ⊢
  rw [if_neg h1] at hk;by_cases h2:k=2
  ·subst h2;rw [if_pos rfl,Bool.and_eq_true,Bool.and_eq_true,Bool.and_eq_true,decide_eq_true_eq] at hk;obtain ⟨hb,rfl,hmb,hme⟩:=hk;obtain rfl:=pR hb;rw [happ];by_cases he:els=[]
   ·subst he;have e:dA (.mk 2 [] a aM body [])=aS wIf::(aw 1 a++(ap [123]::(aq body++[ap [125]]))):=by unfold dA;rw [if_neg (by decide),if_neg (by decide)];simp
    have hn:(dA (.mk 2 [] a aM body [])).length=1+(aw 1 a).length+(aq body).length+2:=by rw [e];simp only [List.length_cons,List.length_append,List.length_nil];omega
    rw [e] at hA;obtain ⟨g1,g2⟩:=At.cons.1 hA;obtain ⟨g3,g4⟩:=At.app.1 g2;have g5:=(At.cons.1 g4).1;have h9:=hrest (acc++[.mk 2 [] a aM body []]);rw [hn,show p+(1+(aw 1 a).length+(aq body).length+2)=p+1+(aw 1 a).length+(aq body).length+2 by omega] at h9 hel;rw [hn,show p+(1+(aw 1 a).length+(aq body).length+2)=p+1+(aw 1 a).length+(aq body).length+2 by omega];exact .if0 g1 (gK hfa g3 (.of g5 (by decide) (by decide) 1)) (hK body hmb _ g4) hel h9
   ·have hlen:els.length≠0:=λ h=>he (List.length_eq_zero_iff.1 h)
    have e:dA (.mk 2 [] a aM body els)=aS wIf::(aw 1 a++((ap [123]::(aq body++[ap [125]]))++aS dc::(ap [123]::(aq els++[ap [125]])))):=by
     unfold dA;rw [if_neg (by decide),if_neg (by decide),if_neg hlen];simp
    have hn:(dA (.mk 2 [] a aM body els)).length=1+(aw 1 a).length+(aq body).length+2+1+(aq els).length+2:=by rw [e];simp only [List.length_cons,List.length_append,List.length_nil];omega
    rw [e] at hA;obtain ⟨g1,g2⟩:=At.cons.1 hA;obtain ⟨g3,g4⟩:=At.app.1 g2;obtain ⟨g5,g6⟩:=At.app.1 g4;have g7:=(At.cons.1 g5).1;rw [show p+1+(aw 1 a).length+(ap [123]::(aq body++[ap [125]])).length=p+1+(aw 1 a).length+(aq body).length+2 by simp only [List.length_cons,List.length_append,List.length_nil];omega] at g6;obtain ⟨g8,g9⟩:=At.cons.1 g6;have h9:=hrest (acc++[.mk 2 [] a aM body els]);rw [hn,show p+(1+(aw 1 a).length+(aq body).length+2+1+(aq els).length+2)=p+1+(aw 1 a).length+(aq body).length+2+1+(aq els).length+2 by omega] at h9;rw [hn,show p+(1+(aw 1 a).length+(aq body).length+2+1+(aq els).length+2)=p+1+(aw 1 a).length+(aq body).length+2+1+(aq els).length+2 by omega];exact .if1 g1 (gK hfa g3 (.of g7 (by decide) (by decide) 1)) (hK body hmb _ g5) g8 (hK els hme _ g9) h9
  rw [if_neg h2] at hk;by_cases h3:k=3
  ·subst h3;rw [if_pos rfl,Bool.and_eq_true,Bool.and_eq_true,Bool.and_eq_true,decide_eq_true_eq] at hk;obtain ⟨hb,hn0,hmb,hle⟩:=hk;obtain rfl:=pR hb;obtain rfl:=List.length_eq_zero_iff.1 hle;rw [happ];have e:dA (.mk 3 s a aM body [])=aS fJ::eR s::aS wIn::(aw 1 a++(ap [123]::(aq body++[ap [125]]))):=by unfold dA;rw [if_neg (by decide),if_pos rfl];simp
   have hn:(dA (.mk 3 s a aM body [])).length=3+(aw 1 a).length+(aq body).length+2:=by rw [e];simp only [List.length_cons,List.length_append,List.length_nil];omega
   rw [e] at hA;obtain ⟨g1,g2⟩:=At.cons.1 hA;obtain ⟨g3,g4⟩:=At.cons.1 g2;obtain ⟨g5,g6⟩:=At.cons.1 g4;obtain ⟨g7,g8⟩:=At.app.1 g6;have g9:=(At.cons.1 g8).1;have h9:=hrest (acc++[.mk 3 s a aM body []]);rw [hn,show p+(3+(aw 1 a).length+(aq body).length+2)=p+1+1+1+(aw 1 a).length+(aq body).length+2 by omega] at h9;rw [hn,show p+(3+(aw 1 a).length+(aq body).length+2)=p+1+1+1+(aw 1 a).length+(aq body).length+2 by omega];exact .for_ g1 g3 g5 (gK hfa g7 (.of g9 (by decide) (by decide) 1)) (hK body hmb _ g8) h9
  ·rw [if_neg h3] at hk;cases hk
theorem lM (T:List ak):∀ d,zi T d
 |d=>by
  intro l hl p ha;have ih:d≠0->zi T (d-1):=λ h=>lM T (d-1)
  obtain ⟨h1,h2⟩:=At.cons.1 ha;obtain ⟨h3,h4⟩:=At.app.1 h2;have h5:=(At.cons.1 h4).1;have h6:=TkK.block h1 (iH ih l hl [] _ h3 (.of h5 (by decide))) h5;rw [show p+1+(aq l).length+1=p+(aq l).length+2 by omega] at h6;exact h6
termination_by d=>d
decreasing_by omega
theorem sF {T:List ak} {d:Nat} {l:List SJ} (hl:cF d l=true) {p:Nat} (ha:At T p (aq l)) (hs:sS T (p+(aq l).length)):TkS T [] p l (p+(aq l).length):=iH (λ _=>lM T (d-1)) l hl [] p ha hs
theorem uv {T:List ak} (hT:WT T) {d:Nat} {l:List SJ} (hl:cF d l=true) (ha:At T 0 (aq l)) (he:T.length=(aq l).length+1):gJ T=.ok l (aq l).length:=by
 obtain ⟨m,hm,h6⟩:=hT.last;have hlen:m=(aq l).length:=by omega
 subst hlen;have hno:∀ w,al T (aq l).length w=false:=λ w=>by unfold al;rw [h6,decide_eq_false_iff_not];omega
 have h:=sF hl ha (by rw [Nat.zero_add];exact ⟨hno _,hno _,hno _,hno _⟩);obtain ⟨N,hN⟩:=h;have h1:=hN (max (n9 T) N) (Nat.le_max_right _ _);rw [qO hT (by omega) (n:=n9 T) (by unfold n9;omega) (Nat.le_max_left _ _),Nat.zero_add] at h1;unfold gJ;rw [h1];simp only;rw [if_pos h6]
def pM (T:List ak):Nat:=12*T.length+23
theorem A6 (T:List ak):n9 T=pM T+1:=by unfold n9 pM;omega
def eE (T:List ak) (lvl p:Nat):PR EJ:=aC T (pM T+1) lvl p
def eB (T:List ak) (lvl:Nat) (x:EJ) (p:Nat):PR EJ:=fI T (pM T+1) lvl x p
def eP (T:List ak) (x:EJ) (p:Nat):PR EJ:=dK T (pM T+1) x p
def eA (T:List ak) (p:Nat):PR EJ:=bz T (pM T+1) p
def eL (T:List ak) (acc:List EJ) (p:Nat):PR EJ:=dJ T (pM T+1) acc p
def eS (T:List ak) (acc:List SJ) (p:Nat):PR (List SJ):=bt T (pM T+1) acc p
def eK (T:List ak) (p:Nat):PR (List SJ):=br T (pM T+1) p
section
variable {T:List ak} (hT:WT T)
include hT
theorem np {lvl p:Nat} (hl:lvl<=8) (hp:p<T.length):aC T (pM T) lvl p=eE T lvl p:=((iE hT (pM T)).1 lvl p hl hp (by unfold pM;omega)).symm
theorem AO {lvl p:Nat} {x:EJ} (hl:lvl<=7) (hp:p<T.length):fI T (pM T) lvl x p=eB T lvl x p:=((iE hT (pM T)).2.1 lvl x p hl hp (by unfold pM;omega)).symm
theorem AT {p:Nat} {x:EJ} (hp:p<T.length):dK T (pM T) x p=eP T x p:=((iE hT (pM T)).2.2.1 x p hp (by unfold pM;omega)).symm
theorem BC {p:Nat} (hp:p<T.length):bz T (pM T) p=eA T p:=((iE hT (pM T)).2.2.2.1 p hp (by unfold pM;omega)).symm
theorem AR {p:Nat} {acc:List EJ} (hp:p<T.length):dJ T (pM T) acc p=eL T acc p:=((iE hT (pM T)).2.2.2.2 acc p hp (by unfold pM;omega)).symm
theorem vA {p:Nat} {acc:List SJ} (hp:p<T.length):bt T (pM T) acc p=eS T acc p:=((px hT (pM T)).1 acc p hp (by unfold pM;omega)).symm
theorem zE {p:Nat} (hp:p<T.length):br T (pM T) p=eK T p:=((px hT (pM T)).2 p hp (by unfold pM;omega)).symm
theorem yV {lvl p:Nat} (hp:p<T.length):(eE T lvl p).In T p:=(nu hT _).1 lvl p hp
theorem AM {p:Nat} (hp:p<T.length):(eA T p).In T p:=(nu hT _).2.2.2.1 p hp
theorem sV {p:Nat} {acc:List SJ} (hp:p<T.length):(eS T acc p).In0 T p:=(sw hT _).1 acc p hp
theorem yW {p:Nat} (hp:p<T.length):(eK T p).In T p:=(sw hT _).2 p hp
theorem d8 {lvl p q:Nat} {x:EJ} (hp:p<T.length) (h:eE T lvl p=.ok x q):p<q/\q<T.length:=by have:=yV hT (lvl:=lvl) hp;rw [h] at this;exact this
theorem oX {lvl p q:Nat} (hp:p<T.length) (h:eE T lvl p=.bad q):p<=q/\q<T.length:=by have:=yV hT (lvl:=lvl) hp;rw [h] at this;exact this
theorem yU {p q:Nat} {x:EJ} (hp:p<T.length) (h:eA T p=.ok x q):p<q/\q<T.length:=by have:=AM hT hp;rw [h] at this;exact this
theorem lY {p q:Nat} {x:List SJ} (hp:p<T.length) (h:eK T p=.ok x q):p<q/\q<T.length:=by have:=yW hT hp;rw [h] at this;exact this
theorem rK {p q:Nat} (hp:p<T.length) (h:eK T p=.bad q):p<=q/\q<T.length:=by have:=yW hT hp;rw [h] at this;exact this
theorem zC {lvl p:Nat} (h:lvl=3∨lvl=7) (hp:p<T.length):eE T lvl p=(match dx T lvl p with
  | some k=>(match eE T lvl (p+1) with | .ok x q=>.ok (eOp k [x]) q | .bad q=>.bad q)
  | none=>eE T (lvl+1) p):=by
 conv=>lhs;unfold eE aC
 rw [if_pos h];cases ho:dx T lvl p with
 | none=>simp only;rw [np hT (by omega) hp]
 | some k=>simp only;rw [np hT (by omega) (hT.next hp (fD ho))];rfl
theorem xW {p:Nat} (hp:p<T.length):eE T 8 p=(match eA T p with | .ok x q=>eP T x q | .bad q=>.bad q):=by
 conv=>lhs;unfold eE aC
 rw [if_neg (by omega),if_pos (Nat.le_refl _),BC hT hp];cases ho:eA T p with
 | bad q=>rfl
 | ok x q=>simp only;rw [AT hT (yU hT hp ho).2]
theorem zB {lvl p:Nat} (h3:¬ (lvl=3∨lvl=7)) (h8:¬ 8<=lvl) (hp:p<T.length):eE T lvl p=(match eE T (lvl+1) p with | .ok x q=>eB T lvl x q | .bad q=>.bad q):=by
 conv=>lhs;unfold eE aC
 rw [if_neg h3,if_neg h8,np hT (by omega) hp];cases ho:eE T (lvl+1) p with
 | bad q=>rfl
 | ok x q=>simp only;rw [AO hT (by omega) (d8 hT hp ho).2]
theorem AN {lvl p:Nat} {x:EJ} (hl:lvl<=7) (hp:p<T.length):eB T lvl x p=(match dx T lvl p with
  | none=>.ok x p
  |some k=>match eE T (lvl+1) (p+1) with
   | .bad q=>.bad q
   | .ok y q=>if lvl=4 then .ok (eOp k [x,y]) q else eB T lvl (eOp k [x,y]) q):=by
 conv=>lhs;unfold eB fI
 cases ho:dx T lvl p with
 | none=>rfl
 |some k =>
  simp only;have h1:=hT.next hp (fD ho);rw [np hT (by omega) h1];cases hx:eE T (lvl+1) (p+1) with
  | bad q=>rfl
  | ok y q=>simp only;rw [AO hT hl (d8 hT h1 hx).2]
theorem yZ {p:Nat} {x:EJ} (hp:p<T.length):eP T x p=(if al T p [46]=true then (if tkK T (p+1)=1 then eP T (.mk 3 cn (tkT T (p+1)) [x]) (p+2) else .bad (p+1)) else .ok x p):=by
 conv=>lhs;unfold eP dK
 by_cases hs:al T p [46]=true
 ·rw [if_pos hs,if_pos hs];by_cases hk:tkK T (p+1)=1
  ·rw [if_pos hk,if_pos hk,AT hT (hT.next (hT.next hp (au hs)) (by omega))]
  ·rw [if_neg hk,if_neg hk]
 ·rw [if_neg hs,if_neg hs]
theorem AK {p:Nat} (hp:p<T.length):eA T p=(if tkK T p=1 then .ok (.mk 2 cn (tkT T p) []) (p+1)
  else if tkK T p=3 then .ok (fa (nr (tkN T p))) (p+1)
  else if tkK T p=4 then .ok (fa (jX (tkT T p))) (p+1)
  else if al T p nw=true then .ok (fa (.mk 1 0 [] [] [])) (p+1)
  else if al T p jm=true then .ok (fa (fP true)) (p+1)
  else if al T p gi=true then .ok (fa (fP false)) (p+1)
  else if al T p [40]=true then (match eE T 1 (p+1) with
   | .ok x q=>if al T q [41]=true then .ok x (q+1) else .bad q
   | .bad q=>.bad q)
  else if al T p [91]=true then (if al T (p+1) [93]=true then .ok (eOp 4 []) (p+2) else eL T [] (p+1))
  else .bad p):=by
 conv=>lhs;unfold eA bz
 by_cases h40:al T p [40]=true
 ·rw [np hT (by omega) (hT.next hp (au h40))]
  repeat' split
  all_goals first | rfl | contradiction | simp_all
 ·by_cases h91:al T p [91]=true
  ·rw [AR hT (hT.next hp (au h91))]
   repeat' split
   all_goals first | rfl | contradiction | simp_all
  ·repeat' split
   all_goals first | rfl | contradiction | simp_all
theorem yX {p:Nat} {acc:List EJ} (hp:p<T.length):eL T acc p=(match eE T 1 p with
  | .bad q=>.bad q
  | .ok x q=>if al T q [44]=true then eL T (acc++[x]) (q+1) else if al T q [93]=true then .ok (eOp 4 (acc++[x])) (q+1) else .bad q):=by
 conv=>lhs;unfold eL dJ
 rw [np hT (by omega) hp];cases hx:eE T 1 p with
 | bad q=>rfl
 |ok x q =>
  simp only;by_cases hs:al T q [44]=true
  ·rw [if_pos hs,if_pos hs,AR hT (hT.next (d8 hT hp hx).2 (au hs))]
  ·rw [if_neg hs,if_neg hs]
theorem AP {p:Nat} (hp:p<T.length):eK T p=(if al T p [123]=true then (match eS T [] (p+1) with
   | .bad q=>.bad q
   | .ok l q=>if al T q [125]=true then .ok l (q+1) else .bad q)
  else .bad p):=by
 conv=>lhs;unfold eK br
 by_cases hs:al T p [123]=true
 ·rw [if_pos hs,if_pos hs,vA hT (hT.next hp (au hs))];rfl
 ·rw [if_neg hs,if_neg hs]
end
def kV (T:List ak) (p:Nat):PR SJ:=match eE T 1 p with
 | .bad q=>.bad q
 | .ok a q=>if al T q [44]=true then (match eE T 1 (q+1) with
   | .bad r=>.bad r
   | .ok b r=>if al T r [59]=true then .ok (.mk 1 [] a b [] []) (r+1) else .bad r)
  else .bad q
def eIf (T:List ak) (p:Nat):PR SJ:=match eE T 1 p with
 | .bad q=>.bad q
 | .ok a q=>match eK T q with
  | .bad r=>.bad r
  | .ok body r=>if al T r dc=true then (match eK T (r+1) with
    | .bad u=>.bad u
    | .ok els u=>.ok (.mk 2 [] a aM body els) u)
   else .ok (.mk 2 [] a aM body []) r
def qj (T:List ak) (p:Nat):PR SJ :=
 if tkK T p=1 then
  (if al T (p+1) wIn=true then (match eE T 1 (p+2) with
   | .bad q=>.bad q
   | .ok a q=>match eK T q with
    | .bad r=>.bad r
    | .ok body r=>.ok (.mk 3 (tkT T p) a aM body []) r)
  else .bad (p+1))
 else .bad p
def ir (T:List ak) (p:Nat):Option (PR SJ) :=
 if al T p dF=true then some (kV T (p+1)) else if al T p wIf=true then some (eIf T (p+1)) else if al T p fJ=true then some (qj T (p+1)) else none
section
variable {T:List ak} (hT:WT T)
include hT
theorem vy {p:Nat} (hp:p<T.length):(kV T p).In T p:=by
 unfold kV;cases h1:eE T 1 p with
 | bad q=>exact oX hT hp h1
 |ok a q =>
  have g1:=d8 hT hp h1;simp only;split
  ·rename_i hs
   have h0:=hT.next g1.2 (au hs);cases h2:eE T 1 (q+1) with
   | bad r=>have g2:=oX hT h0 h2;exact ⟨by omega,g2.2⟩
   |ok b r =>
    have g2:=d8 hT h0 h2;simp only;split
    ·rename_i hs2;exact ⟨by omega,hT.next g2.2 (au hs2)⟩
    ·exact ⟨by omega,g2.2⟩
  ·exact ⟨by omega,g1.2⟩
theorem zD {p:Nat} (hp:p<T.length):(eIf T p).In T p:=by
 unfold eIf;cases h1:eE T 1 p with
 | bad q=>exact oX hT hp h1
 |ok a q =>
  have g1:=d8 hT hp h1;simp only;cases h2:eK T q with
  | bad r=>have g2:=rK hT g1.2 h2;exact ⟨by omega,g2.2⟩
  |ok body r =>
   have g2:=lY hT g1.2 h2;simp only;split
   ·rename_i hs
    have h0:=hT.next g2.2 (au hs);cases h3:eK T (r+1) with
    | bad u=>have g3:=rK hT h0 h3;exact ⟨by omega,g3.2⟩
    | ok els u=>have g3:=lY hT h0 h3;exact ⟨by omega,g3.2⟩
   ·exact ⟨by omega,g2.2⟩
theorem xX {p:Nat} (hp:p<T.length):(qj T p).In T p:=by
 unfold qj;split
 ·rename_i hk
  have h0:=hT.next hp (by omega);split
  ·rename_i hs
   have h9:=hT.next h0 (au hs);cases h1:eE T 1 (p+2) with
   | bad q=>have g1:=oX hT h9 h1;exact ⟨by omega,g1.2⟩
   |ok a q =>
    have g1:=d8 hT h9 h1;simp only;cases h2:eK T q with
    | bad r=>have g2:=rK hT g1.2 h2;exact ⟨by omega,g2.2⟩
    | ok body r=>have g2:=lY hT g1.2 h2;exact ⟨by omega,g2.2⟩
  ·exact ⟨by omega,h0⟩
 ·exact ⟨Nat.le_refl _,hp⟩
theorem gA {p:Nat} {r:PR SJ} (hp:p<T.length) (h:ir T p=some r):p+1<T.length/\r.In T (p+1):=by
 unfold ir at h;split at h
 ·rename_i hs
  have h0:=hT.next hp (au hs);injection h with h;subst h
  exact ⟨h0,vy hT h0⟩
 split at h
 ·rename_i hs
  have h0:=hT.next hp (au hs);injection h with h;subst h
  exact ⟨h0,zD hT h0⟩
 split at h
 ·rename_i hs
  have h0:=hT.next hp (au hs);injection h with h;subst h
  exact ⟨h0,xX hT h0⟩
 ·cases h
theorem ma {p:Nat} {acc:List SJ} (hp:p<T.length):eS T acc p=(match ir T p with
  | none=>.ok acc p
  | some (.bad q)=>.bad q
  | some (.ok x q)=>eS T (acc++[x]) q):=by
 conv=>lhs;unfold eS bt
 unfold ir;by_cases h1:al T p dF=true
 ·have h0:=hT.next hp (au h1);rw [if_pos h1,if_pos h1,np hT (by omega) h0];simp only [kV];cases hx:eE T 1 (p+1) with
  | bad q=>rfl
  |ok a q =>
   simp only;have g1:=d8 hT h0 hx;by_cases h2:al T q [44]=true
   ·have g0:=hT.next g1.2 (au h2);rw [if_pos h2,if_pos h2,np hT (by omega) g0];cases hy:eE T 1 (q+1) with
    | bad r=>rfl
    |ok b r =>
     have g2:=d8 hT g0 hy;simp only;by_cases h3:al T r [59]=true
     ·rw [if_pos h3,if_pos h3,vA hT (hT.next g2.2 (au h3))]
     ·rw [if_neg h3,if_neg h3]
   ·rw [if_neg h2,if_neg h2]
 rw [if_neg h1,if_neg h1];by_cases h4:al T p wIf=true
 ·have h0:=hT.next hp (au h4);rw [if_pos h4,if_pos h4,np hT (by omega) h0];simp only [eIf];cases hx:eE T 1 (p+1) with
  | bad q=>rfl
  |ok a q =>
   have g1:=d8 hT h0 hx;simp only;rw [zE hT g1.2];cases hy:eK T q with
   | bad r=>rfl
   |ok body r =>
    have g2:=lY hT g1.2 hy;simp only;by_cases h5:al T r dc=true
    ·have g0:=hT.next g2.2 (au h5);rw [if_pos h5,if_pos h5,zE hT g0];cases hz:eK T (r+1) with
     | bad u=>rfl
     | ok els u=>simp only;rw [vA hT (lY hT g0 hz).2]
    ·rw [if_neg h5,if_neg h5,vA hT g2.2]
 rw [if_neg h4,if_neg h4];by_cases h6:al T p fJ=true
 ·have h0:=hT.next hp (au h6);rw [if_pos h6,if_pos h6];simp only [qj];by_cases h7:tkK T (p+1)=1
  ·have h9:=hT.next h0 (by omega);rw [if_pos h7,if_pos h7,show p+1+1=p+2 from rfl,show p+1+2=p+3 from rfl];by_cases h8:al T (p+2) wIn=true
   ·have g9:=hT.next h9 (au h8);rw [if_pos h8,if_pos h8,np hT (by omega) g9];cases hx:eE T 1 (p+3) with
    | bad q=>rfl
    |ok a q =>
     have g1:=d8 hT g9 hx;simp only;rw [zE hT g1.2];cases hy:eK T q with
     | bad r=>rfl
     | ok body r=>simp only;rw [vA hT (lY hT g1.2 hy).2]
   ·rw [if_neg h8,if_neg h8]
  ·rw [if_neg h7,if_neg h7]
 rw [if_neg h6,if_neg h6]
end
theorem mJ (T:List ak):gJ T=(match eS T [] 0 with
 | .bad p=>.bad p
 | .ok l p=>if tkK T p=6 then .ok l p else .bad p):=by unfold gJ eS;rw [A6];rfl
end
section
open Go.RowKit
attribute [local go_sem] aa ac ae ab
structure VP (W:World) (g:Nat) (A:Option Addr) (nT cap:Nat) (T:List ak) (p:Nat):Prop where
 blk:Blk W g 123 #[Zi Zq p,Zs A nT cap]
 rd:RdF W (λ b=>b≠g) A (bA T)
 len:T.length=nT
 gob:∃ w0:World,GOE w0/\w0.heap.size<=g/\Below w0.heap.size w0 W
section
variable {W W':World} {g:Nat} {A:Option Addr} {nT cap:Nat} {T:List ak} {p q:Nat}
theorem VP.keep (h:VP W g A nT cap T p) (hb:Below W.heap.size W W'):VP W' g A nT cap T p:=by
 obtain ⟨w0,h1,h2,h3⟩:=h.gob;exact ⟨h.blk.keep hb,h.rd.keep (ah.of_below hb),h.len,w0,h1,h2,h3.trans (hb.mono (by have:=h.blk.lt;omega))⟩
theorem VP.goe (h:VP W g A nT cap T p):GOE W:=by obtain ⟨w0,h1,_,h2⟩:=h.gob;exact h1.keep h2
theorem ua (h:W.grownBy W' (some g)):ah (λ b=>b≠g) W W':=ah.of_grown h λ b hb e=>hb (by injection e)
theorem VP.step (h:VP W g A nT cap T p) (hg:W.grownBy W' (some g)) (hb:Blk W' g 123 #[Zi Zq q,Zs A nT cap]):VP W' g A nT cap T q:=by
 obtain ⟨w0,h1,h2,h3⟩:=h.gob;exact ⟨hb,h.rd.keep (ua hg),h.len,w0,h1,h2,h3.grown hg (by have:=h.blk.lt;omega) (λ k e=>by injection e with e;omega)⟩
theorem VP.set0 (h:VP W g A nT cap T p) {z:Int} (hz:z=(q:Nat)):VP (W.setCell ⟨g,0,none⟩ (Zi Zq z)) g A nT cap T q:=by
 subst hz;exact h.step (bC (ec W _) 0 _) (h.blk.set_ 0 _)
theorem VP.tok (h:VP W g A nT cap T p) (hq:q<nT):∃ b o,A=some ⟨b,o,none⟩/\b<W.heap.size/\b≠g/\W.cell? ⟨b,o+q*4,none⟩=some (Zi Zq (tkK T q))/\W.cell? ⟨b,o+q*4+1,none⟩=some (Zi Zq (tkA T q:Nat)) /\
   W.cell? ⟨b,o+q*4+2,none⟩=some (Zt ⟨(tkT T q).toArray⟩)/\W.cell? ⟨b,o+q*4+3,none⟩=some (Zi Zq (tkN T q)):=by
 have hl:=h.len;have hx:T[q]? = some T[q]:=List.getElem?_eq_getElem (by omega);obtain ⟨b,o,e,hb,h0,h1,h2,h3⟩:=h.rd.rd.tok hx;obtain ⟨b',o',e',_,hne,_⟩:=h.rd (by intro e9;have h9:=fl T;rw [e9,List.length_nil] at h9;omega);obtain ⟨rfl,rfl⟩:b=b'/\o=o':=by rw [e] at e';simpa using e'
 refine ⟨b,o,e,hb,hne,?_,?_,?_,?_⟩
 ·unfold tkK;rw [hx];exact h0
 ·unfold tkA;rw [hx];exact h1
 ·unfold tkT;rw [hx];exact h2
 ·unfold tkN;rw [hx];exact h3
end
def aL (q:Nat):Ending:=.panicked [{ v:=.iface 117 (Zi Zq q),recovered:=false }]
def zo (b:Bool) (W:World) (e:Ending) (W':World):Prop:=e=.returned (.bool b)/\Below W.heap.size W W'
theorem xr (s:List UInt8) (W:World) (g:Nat) (A:Option Addr) (nT cap:Nat) (T:List ak) (p:Nat) (hV:VP W g A nT cap T p) (hp:p<nT) (hn:nT<=1000) :
  Calls Tryz.prog 175 #[Zp (some ⟨g,0,none⟩),Zt ⟨s.toArray⟩] W (zo (al T p s) W):=by
 obtain ⟨b,o,rfl,hb,hbg,x0,x1,x2,x3⟩:=hV.tok hp;have hS:al T p s=decide ((tkK T p=5∨tkK T p=2)/\tkT T p=s):=rfl;obtain ⟨k,hk⟩:∃ k,tkK T p=k:=⟨_,rfl⟩
 obtain ⟨t,ht⟩:∃ t,tkT T p=t:=⟨_,rfl⟩
 obtain ⟨at_,hat⟩:∃ a,tkA T p=a:=⟨_,rfl⟩
 obtain ⟨m,hm⟩:∃ a,tkN T p=a:=⟨_,rfl⟩
 rw [hk] at x0 hS;rw [ht] at x2 hS;rw [hat] at x1;rw [hm] at x3;rw [hS];obtain ⟨tb,htb⟩:∃ tb,decide (t=s)=tb:=⟨_,rfl⟩
 have hres:decide ((k=5∨k=2)/\t=s)=(decide (k=5∨k=2) && tb):=by rw [← htb,Bool.decide_and]
 rw [hres];have e1:(t == s)=tb:=by rw [← htb,Bool.eq_iff_iff];simp
 have e2:((⟨t.toArray⟩:ByteArray).toList == (⟨s.toArray⟩:ByteArray).toList)=tb:=by rw [eH];exact htb
 obtain ⟨c0,f0,l0⟩:=hV.blk.rules;have c00:=c0 0;have c01:=c0 1;simp at c00 c01;have HT:=aW htb;have HB:=aW (Below.refl W.heap.size W);have hpi:(p:Int)<(nT:Int):=by omega
 clear hV hS hk ht hat hm hres htb;have key:∀ r:Bool,r=(decide (k=5∨k=2) && tb)->Calls Tryz.prog 175 #[Zp (some ⟨g,0,none⟩),Zt ⟨s.toArray⟩] W (zo r W):=by
  intro r hr;by_cases h5:k=5
  ·have k5:(k == 5)=true:=by simp [h5]
   have HR:=aW (show r=tb by rw [hr,h5];simp);clear hr h5;cases tb
   all_goals
    go_enter Tryz.func175,Tryz.ntmps175;go_upto_region 1 with fail;go_region_held3 (λ w'=>w'.cell? ⟨g,0,none⟩=some (Zi Zq (p:Int))/\w'.cell? ⟨g,1,none⟩=some (Zs (some ⟨b,o,none⟩) nT cap)/\w'.cell? ⟨b,o+p*4,none⟩=some (Zi Zq k)/\w'.cell? ⟨b,o+p*4+1,none⟩=some (Zi Zq (at_:Int))/\w'.cell? ⟨b,o+p*4+2,none⟩=some (Zt ⟨t.toArray⟩)/\w'.cell? ⟨b,o+p*4+3,none⟩=some (Zi Zq m)) (go_keep) (fail)
    all_goals
     go_wp2;go_ret;exact ⟨av HR.out.symm,by go_grown⟩
  ·have k5:(k == 5)=false:=by simp [h5]
   by_cases h2:k=2
   ·have k2:(k == 2)=true:=by simp [h2]
    have HR:=aW (show r=tb by rw [hr,h2];simp);clear hr h5 h2;cases tb
    all_goals
     go_enter Tryz.func175,Tryz.ntmps175;go_upto_region 1 with fail;go_region_held3 (λ w'=>w'.cell? ⟨g,0,none⟩=some (Zi Zq (p:Int))/\w'.cell? ⟨g,1,none⟩=some (Zs (some ⟨b,o,none⟩) nT cap)/\w'.cell? ⟨b,o+p*4,none⟩=some (Zi Zq k)/\w'.cell? ⟨b,o+p*4+1,none⟩=some (Zi Zq (at_:Int))/\w'.cell? ⟨b,o+p*4+2,none⟩=some (Zt ⟨t.toArray⟩)/\w'.cell? ⟨b,o+p*4+3,none⟩=some (Zi Zq m)) (go_keep) (fail)
     all_goals
      go_wp2;go_ret;exact ⟨av HR.out.symm,by go_grown⟩
   ·have k2:(k == 2)=false:=by simp [h2]
    have HR:=aW (show r=false by rw [hr];simp [h5,h2]);clear hr h5 h2 e1 e2;go_enter Tryz.func175,Tryz.ntmps175;go_upto_region 1 with fail;go_region_held3 (λ w'=>w'.cell? ⟨g,0,none⟩=some (Zi Zq (p:Int))/\w'.cell? ⟨g,1,none⟩=some (Zs (some ⟨b,o,none⟩) nT cap)/\w'.cell? ⟨b,o+p*4,none⟩=some (Zi Zq k)/\w'.cell? ⟨b,o+p*4+1,none⟩=some (Zi Zq (at_:Int))/\w'.cell? ⟨b,o+p*4+2,none⟩=some (Zt ⟨t.toArray⟩)/\w'.cell? ⟨b,o+p*4+3,none⟩=some (Zi Zq m)) (go_keep) (fail)
    all_goals
     go_wp2;go_ret;exact ⟨av HR.out.symm,by go_grown⟩
 exact key _ rfl
theorem jg (W:World) (g:Nat) (A:Option Addr) (nT cap:Nat) (T:List ak) (p:Nat) (hV:VP W g A nT cap T p) (hp:p<nT) (hn:nT<=1000) :
  Calls Tryz.prog 87 #[Zp (some ⟨g,0,none⟩)] W λ e W'=>e=aL (tkA T p)/\Below W.heap.size W W':=by
 obtain ⟨b,o,rfl,hb,hbg,x0,x1,x2,x3⟩:=hV.tok hp;obtain ⟨at_,hat⟩:∃ a,tkA T p=a:=⟨_,rfl⟩
 rw [hat] at x1 ⊢;obtain ⟨c0,f0,l0⟩:=hV.blk.rules;have c00:=c0 0;have c01:=c0 1;simp at c00 c01;have hpi:(p:Int)<(nT:Int):=by omega
 unfold aL;clear hV hat x0 x2 x3;go_enter Tryz.func87,Tryz.ntmps87;go_upto_region 0 with fail;refine wp_region_held_drew (S:=λ w'=>w'.cell? ⟨g,0,none⟩=some (Zi Zq (p:Int))/\w'.cell? ⟨g,1,none⟩=some (Zs (some ⟨b,o,none⟩) nT cap)/\w'.cell? ⟨b,o+p*4+1,none⟩=some (Zi Zq (at_:Int))) (by kernel_rfl) (by exact ⟨c00,c01,x1⟩) (λ hHeld=>?_);refine aY 0 2 (Zp (some ⟨g,0,none⟩)) rfl ?_ ?_
 ·intro W hSw;obtain ⟨z0,z1,z2⟩:=hSw;go_simp
 refine aY 1 3 (Zp (some ⟨g,0,none⟩)) rfl ?_ ?_
 ·intro W hSw;obtain ⟨z0,z1,z2⟩:=hSw;go_simp
 refine aY 2 4 (Zp (some ⟨g,1,none⟩)) rfl ?_ ?_
 ·intro W hSw;obtain ⟨z0,z1,z2⟩:=hSw;go_simp
 refine aY 3 5 (Zs (some ⟨b,o,none⟩) nT cap) rfl ?_ ?_
 ·intro W hSw;obtain ⟨z0,z1,z2⟩:=hSw;go_simp
 refine aY 4 6 (Zp (some ⟨g,0,none⟩)) rfl ?_ ?_
 ·intro W hSw;obtain ⟨z0,z1,z2⟩:=hSw;go_simp
 refine aY 5 7 (Zp (some ⟨g,0,none⟩)) rfl ?_ ?_
 ·intro W hSw;obtain ⟨z0,z1,z2⟩:=hSw;go_simp
 refine aY 6 8 (Zp (some ⟨g,0,none⟩)) rfl ?_ ?_
 ·intro W hSw;obtain ⟨z0,z1,z2⟩:=hSw;go_simp
 refine aY 7 9 (Zp (some ⟨g,0,none⟩)) rfl ?_ ?_
 ·intro W hSw;obtain ⟨z0,z1,z2⟩:=hSw;go_simp
 refine aY 8 10 (Zi Zq (p:Int)) rfl ?_ ?_
 ·intro W hSw;obtain ⟨z0,z1,z2⟩:=hSw;go_simp
 refine aY 9 11 (Zp (some ⟨b,o+p*4,none⟩)) rfl ?_ ?_
 ·intro W hSw;obtain ⟨z0,z1,z2⟩:=hSw;go_simp
 refine aY 10 12 (Zp (some ⟨b,o+p*4+1,none⟩)) rfl ?_ ?_
 ·intro W hSw;obtain ⟨z0,z1,z2⟩:=hSw;go_simp
 refine aY 11 13 (Zi Zq (at_:Int)) rfl ?_ ?_
 ·intro W hSw;obtain ⟨z0,z1,z2⟩:=hSw;go_simp
 refine aY 12 14 (.iface 117 (Zi Zq (at_:Int))) rfl ?_ ?_
 ·intro W hSw;obtain ⟨z0,z1,z2⟩:=hSw;go_simp
 refine aU 13 rfl (λ K hK=>?_);go_simp;exact ⟨rfl,rfl,(Below.refl _ _).drew⟩
def By (g:Nat) (A:Option Addr) (nT cap:Nat) (T:List ak) (p:Nat) (W:World) (e:Ending) (W':World):Prop:=e=.returned (.bool true)/\VP W' g A nT cap T (p+1)/\W.grownBy W' (some g)
theorem fp (s:List UInt8) (W:World) (g:Nat) (A:Option Addr) (nT cap:Nat) (T:List ak) (p:Nat) (hV:VP W g A nT cap T p) (hp:p<nT) (hn:nT<=1000) (hs:al T p s=false) :
  Calls Tryz.prog 139 #[Zp (some ⟨g,0,none⟩),Zt ⟨s.toArray⟩] W (zo false W):=by
 have hS:=xr s W g A nT cap T p hV hp hn;rw [hs] at hS;have HS:=aW hS;clear hV hS hs;go_enter Tryz.func139,Tryz.ntmps139;go_wp2_with (go_at_call 175;refine HS.out.mono ?_;rintro e w1 ⟨rfl,hb1⟩);go_ret;exact ⟨rfl,hb1⟩
theorem fq (s:List UInt8) (W:World) (g:Nat) (A:Option Addr) (nT cap:Nat) (T:List ak) (p:Nat) (hV:VP W g A nT cap T p) (hp:p<nT) (hn:nT<=1000) (hs:al T p s=true) :
  Calls Tryz.prog 139 #[Zp (some ⟨g,0,none⟩),Zt ⟨s.toArray⟩] W (By g A nT cap T p W):=by
 have hS:=xr s W g A nT cap T p hV hp hn;rw [hs] at hS;have HS:=aW hS;have HV:=aW hV;have hp9:(p:Int)<=1000:=by omega
 clear hV hS hs hp;go_enter Tryz.func139,Tryz.ntmps139;go_wp2_with (go_at_call 175;refine HS.out.mono ?_;rintro e w1 ⟨rfl,hb1⟩;obtain ⟨c0,f0,l0⟩:=(HV.out.keep hb1).blk.rules);go_ret;exact ⟨rfl,(HV.out.keep hb1).set0 (by omega),bC (aD hb1 _) 0 _⟩
theorem gZ (s:List UInt8) (W:World) (g:Nat) (A:Option Addr) (nT cap:Nat) (T:List ak) (p:Nat) (hV:VP W g A nT cap T p) (hp:p<nT) (hn:nT<=1000) (hs:al T p s=true) :
  Calls Tryz.prog 172 #[Zp (some ⟨g,0,none⟩),Zt ⟨s.toArray⟩] W (λ e W'=>e=.returned (.tuple #[])/\VP W' g A nT cap T (p+1)/\W.grownBy W' (some g)):=by
 have HS:=aW (fq s W g A nT cap T p hV hp hn hs);clear hV hs hp;go_enter Tryz.func172,Tryz.ntmps172;go_wp2_with (go_at_call 139;refine HS.out.mono ?_;rintro e w1 ⟨rfl,hv1,hg1⟩);go_end0;exact ⟨rfl,hv1,hg1⟩
theorem gY (s:List UInt8) (W:World) (g:Nat) (A:Option Addr) (nT cap:Nat) (T:List ak) (p:Nat) (hV:VP W g A nT cap T p) (hp:p<nT) (hn:nT<=1000) (hs:al T p s=false) :
  Calls Tryz.prog 172 #[Zp (some ⟨g,0,none⟩),Zt ⟨s.toArray⟩] W (λ e W'=>e=aL (tkA T p)/\Below W.heap.size W W'):=by
 have HS:=aW (fp s W g A nT cap T p hV hp hn hs);have HF:=aW (λ w1 (h:Below W.heap.size W w1)=>jg w1 g A nT cap T p (hV.keep h) hp hn);unfold aL at HF ⊢;clear hV hs hp;go_enter Tryz.func172,Tryz.ntmps172;go_wp2_with (first | (go_at_call 139;refine HS.out.mono ?_;rintro e w1 ⟨rfl,hb1⟩) | (go_at_call 87;refine (HF.out _ hb1).mono ?_;rintro e w2 ⟨rfl,hb2⟩));exact ⟨rfl,rfl,hb1.trans (hb2.mono hb1.size)⟩
def xE (g:Nat) (A:Option Addr) (nT cap:Nat) (T:List ak) (p:Nat) (W:World) (e:Ending) (W':World):Prop:=e=.returned (Zt ⟨(tkT T p).toArray⟩)/\VP W' g A nT cap T (p+1)/\W.grownBy W' (some g)
theorem tJ (W:World) (g:Nat) (A:Option Addr) (nT cap:Nat) (T:List ak) (p:Nat) (hV:VP W g A nT cap T p) (hp:p<nT) (hn:nT<=1000) (hk:tkK T p=1) :
  Calls Tryz.prog 174 #[Zp (some ⟨g,0,none⟩)] W (xE g A nT cap T p W):=by
 obtain ⟨b,o,rfl,hb,hbg,x0,x1,x2,x3⟩:=hV.tok hp;rw [hk] at x0;unfold xE;obtain ⟨t,ht⟩:∃ t,tkT T p=t:=⟨_,rfl⟩
 rw [ht] at x2 ⊢;obtain ⟨c0,f0,l0⟩:=hV.blk.rules;have hpi:(p:Int)<(nT:Int):=by omega
 have hp9:(p:Int)<=1000:=by omega
 have HV:=aW hV;clear hV hk ht x1 x3;go_enter Tryz.func174,Tryz.ntmps174;go_wp2;go_quiet (fail);go_wp2;go_quiet (fail);go_wp2;go_ret;exact ⟨rfl,((HV.out.keep (ai (Below.refl _ _) _)).set0 (by omega)).keep (ai (Below.refl _ _) _),gD (bC (gD (ec _ _) _) 0 _) _⟩
theorem tI (W:World) (g:Nat) (A:Option Addr) (nT cap:Nat) (T:List ak) (p:Nat) (hV:VP W g A nT cap T p) (hp:p<nT) (hn:nT<=1000) (hk:tkK T p≠1) :
  Calls Tryz.prog 174 #[Zp (some ⟨g,0,none⟩)] W (λ e W'=>e=aL (tkA T p)/\Below W.heap.size W W'):=by
 obtain ⟨b,o,rfl,hb,hbg,x0,x1,x2,x3⟩:=hV.tok hp;obtain ⟨k,hkk⟩:∃ k,tkK T p=k:=⟨_,rfl⟩
 rw [hkk] at x0 hk;have HF:=aW (λ w1 (h:Below W.heap.size W w1)=>jg w1 g _ nT cap T p (hV.keep h) hp hn);unfold aL at HF ⊢;obtain ⟨c0,f0,l0⟩:=hV.blk.rules;have hpi:(p:Int)<(nT:Int):=by omega
 have hkb:(k != 1)=true:=by simpa using hk
 clear hV hkk x1 x2 x3;go_enter Tryz.func174,Tryz.ntmps174;go_wp2;go_quiet (fail);go_wp2_with (go_at_call 87;refine (HF.out _ (ai (Below.refl _ _) _)).mono ?_;rintro e w2 ⟨rfl,hb2⟩);exact ⟨rfl,rfl,(ai (Below.refl _ _) _).trans (hb2.mono (Nat.le_refl _))⟩
end
end Go.Proofs.YtgmnmnnoahdjnaaGreatDoor
