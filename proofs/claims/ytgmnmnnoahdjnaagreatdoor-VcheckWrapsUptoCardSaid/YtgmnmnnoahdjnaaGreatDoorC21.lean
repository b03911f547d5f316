import Derived.Test.YtgmnmnnoahdjnaaGreatDoorC17
import Derived.Test.YtgmnmnnoahdjnaaGreatDoorC18
set_option maxRecDepth 100000
set_option maxHeartbeats 16000000
set_option linter.unusedVariables false
set_option linter.unusedSimpArgs false
namespace Go.Proofs.YtgmnmnnoahdjnaaGreatDoor
section
section
variable {T:List ak}
theorem iE (hT:WT T):∀ (n:Nat),(∀ lvl p,lvl<=8->p<T.length->12*(T.length-p)+(10-lvl)<=n->aC T (n+1) lvl p=aC T n lvl p)/\(∀ lvl x p,lvl<=7->p<T.length->12*(T.length-p)+11<=n->fI T (n+1) lvl x p=fI T n lvl x p) /\
  (∀ x p,p<T.length->12*(T.length-p)+1<=n->dK T (n+1) x p=dK T n x p)/\(∀ p,p<T.length->12*(T.length-p)+1<=n->bz T (n+1) p=bz T n p)/\(∀ acc p,p<T.length->12*(T.length-p)+11<=n->dJ T (n+1) acc p=dJ T n acc p)
 | 0=>⟨λ lvl p h1 hp h=>by omega,λ lvl x p h1 hp h=>by omega,λ x p hp h=>by omega,λ p hp h=>by omega,λ acc p hp h=>by omega⟩
 |n+1=>by
  obtain ⟨hE,hB,hP,hA,hL⟩:=iE hT n;refine ⟨λ lvl p hl hp h=>?_,λ lvl x p hl hp h=>?_,λ x p hp h=>?_,λ p hp h=>?_,λ acc p hp h=>?_⟩
  ·conv=>lhs;unfold aC
   conv=>rhs;unfold aC
   by_cases h37:lvl=3∨lvl=7
   ·rw [if_pos h37,if_pos h37];cases ho:dx T lvl p with
    | none=>exact hE (lvl+1) p (by omega) hp (by omega)
    | some k=>simp only;rw [hE lvl (p+1) hl (hT.next hp (fD ho)) (by omega)]
   ·rw [if_neg h37,if_neg h37];by_cases h8:8<=lvl
    ·rw [if_pos h8,if_pos h8,hA p hp (by omega)];have h1:=(nu hT n).2.2.2.1 p hp;cases hx:bz T n p with
     | bad q=>rfl
     | ok x q=>rw [hx] at h1;exact hP x q h1.2 (by have:=h1.1;omega)
    ·rw [if_neg h8,if_neg h8,hE (lvl+1) p (by omega) hp (by omega)];have h1:=(nu hT n).1 (lvl+1) p hp;cases hx:aC T n (lvl+1) p with
     | bad q=>rfl
     | ok x q=>rw [hx] at h1;exact hB lvl x q (by omega) h1.2 (by have:=h1.1;omega)
  ·conv=>lhs;unfold fI
   conv=>rhs;unfold fI
   cases ho:dx T lvl p with
   | none=>rfl
   |some k =>
    have h0:=hT.next hp (fD ho);simp only;rw [hE (lvl+1) (p+1) (by omega) h0 (by omega)];have h1:=(nu hT n).1 (lvl+1) (p+1) h0;cases hx:aC T n (lvl+1) (p+1) with
    | bad q=>rfl
    |ok y q =>
     rw [hx] at h1;simp only;split
     ·rfl
     ·exact hB lvl _ q hl h1.2 (by have:=h1.1;omega)
  ·conv=>lhs;unfold dK
   conv=>rhs;unfold dK
   by_cases hs:al T p [46]=true
   ·rw [if_pos hs,if_pos hs];have h0:=hT.next hp (au hs);by_cases hk:tkK T (p+1)=1
    ·rw [if_pos hk,if_pos hk];exact hP _ (p+2) (hT.next h0 (by omega)) (by omega)
    ·rw [if_neg hk,if_neg hk]
   ·rw [if_neg hs,if_neg hs]
  ·conv=>lhs;unfold bz
   conv=>rhs;unfold bz
   split
   ·rfl
   split
   ·rfl
   split
   ·rfl
   split
   ·rfl
   split
   ·rfl
   split
   ·rfl
   split
   ·rename_i hs
    have h0:=hT.next hp (au hs);rw [hE 1 (p+1) (by omega) h0 (by omega)]
   split
   ·rename_i hs
    have h0:=hT.next hp (au hs);split
    ·rfl
    ·exact hL [] (p+1) h0 (by omega)
   ·rfl
  ·conv=>lhs;unfold dJ
   conv=>rhs;unfold dJ
   rw [hE 1 p (by omega) hp (by omega)];have h1:=(nu hT n).1 1 p hp;cases hx:aC T n 1 p with
   | bad q=>rfl
   |ok y q =>
    rw [hx] at h1;simp only;split
    ·rename_i hs;exact hL _ (q+1) (hT.next h1.2 (au hs)) (by have:=h1.1;omega)
    ·rfl
theorem sh (hT:WT T) {lvl p:Nat} (hl:lvl<=8) (hp:p<T.length):∀ {n m:Nat},12*(T.length-p)+(10-lvl)<=n->n<=m->aC T m lvl p=aC T n lvl p:=by
 intro n m h hm
 induction m with
 |zero =>
  obtain rfl:n=0:=by omega
  rfl
 |succ m ih =>
  rcases Nat.lt_or_ge m n with h1 | h1
  ·obtain rfl:n=m+1:=by omega
   rfl
  ·rw [(iE hT m).1 lvl p hl hp (by omega),ih h1]
def TkE (T:List ak) (lvl p:Nat) (x:EJ) (q:Nat):Prop:=∃ N,∀ n,N<=n->aC T n lvl p=.ok x q
def TkB (T:List ak) (lvl:Nat) (x:EJ) (p:Nat) (y:EJ) (q:Nat):Prop:=∃ N,∀ n,N<=n->fI T n lvl x p=.ok y q
def TkP (T:List ak) (x:EJ) (p:Nat) (y:EJ) (q:Nat):Prop:=∃ N,∀ n,N<=n->dK T n x p=.ok y q
def TkA (T:List ak) (p:Nat) (x:EJ) (q:Nat):Prop:=∃ N,∀ n,N<=n->bz T n p=.ok x q
def TkL (T:List ak) (acc:List EJ) (p:Nat) (x:EJ) (q:Nat):Prop:=∃ N,∀ n,N<=n->dJ T n acc p=.ok x q
theorem TkE.pre {lvl p:Nat} {k:Int} {x:EJ} {q:Nat} (h:lvl=3∨lvl=7) (ho:dx T lvl p=some k) (hx:TkE T lvl (p+1) x q):TkE T lvl p (eOp k [x]) q:=by
 obtain ⟨N,hN⟩:=hx;refine ⟨N+1,λ n hn=>?_⟩;obtain ⟨m,rfl⟩:∃ m,n=m+1:=⟨n-1,by omega⟩
 unfold aC;rw [if_pos h,ho];simp only;rw [hN m (by omega)]
theorem TkE.skip {lvl p:Nat} {x:EJ} {q:Nat} (h:lvl=3∨lvl=7) (ho:dx T lvl p=none) (hx:TkE T (lvl+1) p x q):TkE T lvl p x q:=by
 obtain ⟨N,hN⟩:=hx;refine ⟨N+1,λ n hn=>?_⟩;obtain ⟨m,rfl⟩:∃ m,n=m+1:=⟨n-1,by omega⟩
 unfold aC;rw [if_pos h,ho];exact hN m (by omega)
theorem TkE.path {p:Nat} {x y:EJ} {q r:Nat} (hx:TkA T p x q) (hy:TkP T x q y r):TkE T 8 p y r:=by
 obtain ⟨N,hN⟩:=hx;obtain ⟨M,hM⟩:=hy;refine ⟨N+M+1,λ n hn=>?_⟩;obtain ⟨m,rfl⟩:∃ m,n=m+1:=⟨n-1,by omega⟩
 unfold aC;rw [if_neg (by omega),if_pos (by omega),hN m (by omega)];exact hM m (by omega)
theorem TkE.bin {lvl p:Nat} {x y:EJ} {q r:Nat} (h37:¬ (lvl=3∨lvl=7)) (h8:¬ 8<=lvl) (hx:TkE T (lvl+1) p x q) (hy:TkB T lvl x q y r):TkE T lvl p y r:=by
 obtain ⟨N,hN⟩:=hx;obtain ⟨M,hM⟩:=hy;refine ⟨N+M+1,λ n hn=>?_⟩;obtain ⟨m,rfl⟩:∃ m,n=m+1:=⟨n-1,by omega⟩
 unfold aC;rw [if_neg h37,if_neg h8,hN m (by omega)];exact hM m (by omega)
theorem TkB.stop {lvl:Nat} {x:EJ} {p:Nat} (ho:dx T lvl p=none):TkB T lvl x p x p:=by
 refine ⟨1,λ n hn=>?_⟩;obtain ⟨m,rfl⟩:∃ m,n=m+1:=⟨n-1,by omega⟩
 unfold fI;rw [ho]
theorem TkB.once {x:EJ} {p:Nat} {k:Int} {y:EJ} {q:Nat} (ho:dx T 4 p=some k) (hy:TkE T 5 (p+1) y q):TkB T 4 x p (eOp k [x,y]) q:=by
 obtain ⟨N,hN⟩:=hy;refine ⟨N+1,λ n hn=>?_⟩;obtain ⟨m,rfl⟩:∃ m,n=m+1:=⟨n-1,by omega⟩
 unfold fI;rw [ho];simp only;rw [hN m (by omega)];simp only;rw [if_pos trivial]
theorem TkB.more {lvl:Nat} {x:EJ} {p:Nat} {k:Int} {y:EJ} {q:Nat} {z:EJ} {r:Nat} (h4:lvl≠4) (ho:dx T lvl p=some k) (hy:TkE T (lvl+1) (p+1) y q) (hz:TkB T lvl (eOp k [x,y]) q z r):TkB T lvl x p z r:=by
 obtain ⟨N,hN⟩:=hy;obtain ⟨M,hM⟩:=hz;refine ⟨N+M+1,λ n hn=>?_⟩;obtain ⟨m,rfl⟩:∃ m,n=m+1:=⟨n-1,by omega⟩
 unfold fI;rw [ho];simp only;rw [hN m (by omega)];simp only;rw [if_neg h4];exact hM m (by omega)
theorem TkP.stop {x:EJ} {p:Nat} (h:al T p [46]=false):TkP T x p x p:=by
 refine ⟨1,λ n hn=>?_⟩;obtain ⟨m,rfl⟩:∃ m,n=m+1:=⟨n-1,by omega⟩
 unfold dK;rw [if_neg (by rw [h];decide)]
theorem TkP.more {x:EJ} {p:Nat} {y:EJ} {q:Nat} (h:al T p [46]=true) (hk:tkK T (p+1)=1) (hy:TkP T (.mk 3 cn (tkT T (p+1)) [x]) (p+2) y q):TkP T x p y q:=by
 obtain ⟨N,hN⟩:=hy;refine ⟨N+1,λ n hn=>?_⟩;obtain ⟨m,rfl⟩:∃ m,n=m+1:=⟨n-1,by omega⟩
 unfold dK;rw [if_pos h,if_pos hk];exact hN m (by omega)
theorem TkA.brack {p:Nat} {x:EJ} {q:Nat} (hr:rdT T p=ap [40]) (hx:TkE T 1 (p+1) x q) (hq:al T q [41]=true):TkA T p x (q+1):=by
 obtain ⟨N,hN⟩:=hx;refine ⟨N+1,λ n hn=>?_⟩;obtain ⟨m,rfl⟩:∃ m,n=m+1:=⟨n-1,by omega⟩
 have hk:=(iJ hr).1;unfold bz;rw [if_neg (by omega),if_neg (by omega),if_neg (by omega),if_neg (by rw [bf hr];decide),if_neg (by rw [bf hr];decide),if_neg (by rw [bf hr];decide),if_pos (by rw [bf hr];decide),hN m (by omega)];simp only;rw [if_pos hq]
theorem TkA.lit {p:Nat} {x:EJ} (h:∀ m,bz T (m+1) p=.ok x (p+1)):TkA T p x (p+1):=by
 refine ⟨1,λ n hn=>?_⟩;obtain ⟨m,rfl⟩:∃ m,n=m+1:=⟨n-1,by omega⟩
 exact h m
theorem TkA.empty {p:Nat} (hr:rdT T p=ap [91]) (hq:al T (p+1) [93]=true):TkA T p (eOp 4 []) (p+2):=by
 refine ⟨1,λ n hn=>?_⟩;obtain ⟨m,rfl⟩:∃ m,n=m+1:=⟨n-1,by omega⟩
 have hk:=(iJ hr).1;unfold bz;rw [if_neg (by omega),if_neg (by omega),if_neg (by omega),if_neg (by rw [bf hr];decide),if_neg (by rw [bf hr];decide),if_neg (by rw [bf hr];decide),if_neg (by rw [bf hr];decide),if_pos (by rw [bf hr];decide),if_pos hq]
theorem TkA.list {p:Nat} {x:EJ} {q:Nat} (hr:rdT T p=ap [91]) (hq:al T (p+1) [93]=false) (hx:TkL T [] (p+1) x q):TkA T p x q:=by
 obtain ⟨N,hN⟩:=hx;refine ⟨N+1,λ n hn=>?_⟩;obtain ⟨m,rfl⟩:∃ m,n=m+1:=⟨n-1,by omega⟩
 have hk:=(iJ hr).1;unfold bz;rw [if_neg (by omega),if_neg (by omega),if_neg (by omega),if_neg (by rw [bf hr];decide),if_neg (by rw [bf hr];decide),if_neg (by rw [bf hr];decide),if_neg (by rw [bf hr];decide),if_pos (by rw [bf hr];decide),if_neg (by rw [hq];decide)];exact hN m (by omega)
theorem TkL.last {acc:List EJ} {p:Nat} {x:EJ} {q:Nat} (hx:TkE T 1 p x q) (h1:al T q [44]=false) (h2:al T q [93]=true):TkL T acc p (eOp 4 (acc++[x])) (q+1):=by
 obtain ⟨N,hN⟩:=hx;refine ⟨N+1,λ n hn=>?_⟩;obtain ⟨m,rfl⟩:∃ m,n=m+1:=⟨n-1,by omega⟩
 unfold dJ;rw [hN m (by omega)];simp only;rw [if_neg (by rw [h1];decide),if_pos h2]
theorem TkL.more {acc:List EJ} {p:Nat} {x:EJ} {q:Nat} {y:EJ} {r:Nat} (hx:TkE T 1 p x q) (h1:al T q [44]=true) (hy:TkL T (acc++[x]) (q+1) y r):TkL T acc p y r:=by
 obtain ⟨N,hN⟩:=hx;obtain ⟨M,hM⟩:=hy;refine ⟨N+M+1,λ n hn=>?_⟩;obtain ⟨m,rfl⟩:∃ m,n=m+1:=⟨n-1,by omega⟩
 unfold dJ;rw [hN m (by omega)];simp only;rw [if_pos h1];exact hM m (by omega)
theorem TkE.at_ (hT:WT T) {lvl p:Nat} {x:EJ} {q:Nat} (h:TkE T lvl p x q) (hl:lvl<=8) (hp:p<T.length) {n:Nat} (hn:12*(T.length-p)+(10-lvl)<=n):aC T n lvl p=.ok x q:=by
 obtain ⟨N,hN⟩:=h;rw [← sh hT hl hp hn (Nat.le_max_left n N)];exact hN _ (Nat.le_max_right n N)
theorem pk {p:Nat} {k:Int} (hk:5<=k/\k<=15) (h:rdT T p=opK k):dx T (a8 k) p=some k/\(∀ l,l≠a8 k->dx T l p=none)/\al T p [46]=false:=by
 have h11:k=5∨k=6∨k=7∨k=8∨k=9∨k=10∨k=11∨k=12∨k=13∨k=14∨k=15:=by omega
 rcases h11 with rfl | rfl | rfl | rfl | rfl | rfl | rfl | rfl | rfl | rfl | rfl
 all_goals
  refine ⟨?_,λ l hl=>?_,?_⟩
  ·show ga T p (eU _)=_
   rw [pj h (by decide)];rfl
  ·show ga T p (eU l)=_
   rw [pj h (by decide)];rcases l with _ | _ | _ | _ | _ | _ | _ | _ | l
   all_goals first | rfl | exact absurd rfl hl
  ·rw [bf h];decide
def pm:List (List UInt8):=[[111,114],[97,110,100],[110,111,116],[61,61],[60],[60,61],[43],[45],[42],[115,105,122,101],[107,105,110,100]]
theorem wv:∀ (l:Nat) (x:List UInt8 × Int),x ∈ eU l->x.1 ∈ pm
 | 0,x,h=>by cases h
 | 1,x,h=>by simp [eU] at h;subst h;decide
 | 2,x,h=>by simp [eU] at h;subst h;decide
 | 3,x,h=>by simp [eU] at h;subst h;decide
 | 4,x,h=>by simp [eU] at h;rcases h with rfl | rfl | rfl<;>decide
 | 5,x,h=>by simp [eU] at h;rcases h with rfl | rfl<;>decide
 | 6,x,h=>by simp [eU] at h;subst h;decide
 | 7,x,h=>by simp [eU] at h;rcases h with rfl | rfl<;>decide
 | _+8,x,h=>by cases h
theorem iY {p:Nat}:∀ {l:List (List UInt8 × Int)},(∀ x ∈ l,al T p x.1=false)->ga T p l=none
 | [],_=>rfl
 |x::r,h=>by
  unfold ga;rw [if_neg (by rw [h x List.mem_cons_self];decide)];exact iY λ y hy=>h y (List.mem_cons_of_mem _ hy)
theorem tr {p:Nat} {k:Int} {t:List UInt8} {n:Int} (h:rdT T p=(k,t,n)) (ht:¬ (k=5∨k=2)∨t ∉ pm) (l:Nat):dx T l p=none:=by
 refine iY λ x hx=>?_
 rw [bf h,decide_eq_false_iff_not];rintro ⟨h1,h2⟩;rcases ht with ht | ht
 ·exact ht h1
 ·exact ht (h2 ▸ wv l x hx)
def dn (T:List ak) (lvl q:Nat):Prop:=(∀ l,lvl<=l->l≠3->l≠7->dx T l q=none)/\al T q [46]=false
theorem dn.mono {l l' q:Nat} (h:dn T l q) (hl:l<=l'):dn T l' q:=⟨λ m hm=>h.1 m (by omega),h.2⟩
theorem dn.of {q:Nat} {k:Int} {t:List UInt8} {n:Int} (h:rdT T q=(k,t,n)) (ht:t ∉ pm) (h46:t≠[46]) (l:Nat):dn T l q :=
 ⟨λ m _ _ _=>tr h (.inr ht) m,by rw [bf h,decide_eq_false_iff_not];exact λ h=>h46 h.2⟩
theorem dn.op {q:Nat} {k:Int} (hk:5<=k/\k<=15) (h:rdT T q=opK k) {l:Nat} (hl:a8 k<l):dn T l q:=by
 obtain ⟨_,h2,h3⟩:=pk hk h;exact ⟨λ m hm _ _=>h2 m (by omega),h3⟩
theorem TkE.lift {p:Nat} {x:EJ} {q:Nat}:∀ (d from_ lvl:Nat),lvl=from_+d->lvl<=8->TkE T lvl p x q->dn T from_ q->(∀ l,from_<=l->l<lvl->l=3∨l=7->dx T l p=none)->TkE T from_ p x q
 |0,from_,lvl,h,_,hx,_,_=>by
  obtain rfl:lvl=from_:=by omega
  exact hx
 |d+1,from_,lvl,h,h8,hx,hs,hp=>by
  have h1:=TkE.lift d (from_+1) lvl (by omega) h8 hx (hs.mono (by omega)) (λ l hl=>hp l (by omega));by_cases h37:from_=3∨from_=7
  ·exact .skip h37 (hp from_ (Nat.le_refl _) (by omega) h37) h1
  ·exact .bin h37 (by omega) h1 (.stop (hs.1 from_ (Nat.le_refl _) (by omega) (by omega)))
end
def rW (h:LX) (w:List UInt8):Bool:=decide ((h.1=5∨h.1=2)/\h.2.1=w)
def eJ (l:Nat) (h:LX):Prop:=rW h [93]=false/\(3<l->rW h [110,111,116]=false)/\(7<l->rW h [115,105,122,101]=false/\rW h [107,105,110,100]=false)
theorem lH {h:LX} (hk:¬ (h.1=5∨h.1=2)) (w:List UInt8):rW h w=false:=by unfold rW;rw [decide_eq_false_iff_not];exact λ e=>hk e.1
theorem mf {h:LX} (hk:¬ (h.1=5∨h.1=2)) (l:Nat):eJ l h:=⟨lH hk _,λ _=>lH hk _,λ _=>⟨lH hk _,lH hk _⟩⟩
theorem eJ.mono {l l':Nat} {h:LX} (hf:eJ l h) (hl:l'<=l):eJ l' h:=⟨hf.1,λ h3=>hf.2.1 (by omega),λ h7=>hf.2.2 (by omega)⟩
theorem qm (l:Nat):eJ l (ap [40]):=⟨by decide,λ _=>by decide,λ _=>by decide⟩
theorem ju {from_:Nat} {x:Nat × List LX} (h:∃ a r,x.2=a::r/\eJ x.1 a):∃ a r,bu from_ x=a::r/\eJ from_ a:=by
 obtain ⟨a,r,e,hf⟩:=h;unfold bu;split
 ·exact ⟨_,_,rfl,qm _⟩
 ·rename_i hl;exact ⟨a,r,e,hf.mono (by omega)⟩
theorem ru {v:JV} (h:ig v=true):v=cn:=by
 obtain ⟨k,n,s,kids,keys⟩:=v;unfold ig at h;rw [decide_eq_true_eq] at h;obtain ⟨rfl,rfl,rfl,h4⟩:=h;have h5:kids=[]:=List.length_eq_zero_iff.1 (by omega);have h6:keys=[]:=List.length_eq_zero_iff.1 (by omega);subst h5 h6;rfl
theorem kG {k:Int} {v:JV} {s:List UInt8} {nk:Nat} (h:okX k v s nk=true) :
  (k=1/\fR v=true/\s=[]/\nk=0)∨(v=cn/\((k=2/\fe s=true/\nk=0)∨(k=3/\fe s=true/\nk=1)∨(k=4/\s=[])∨(5<=k/\k<=7/\s=[]/\nk=1)∨(8<=k/\k<=15/\s=[]/\nk=2))):=by
 unfold okX at h;split at h
 ·rename_i h1;rw [Bool.and_eq_true,decide_eq_true_eq] at h;exact .inl ⟨h1,h.1,h.2.1,h.2.2⟩
 split at h
 ·cases h
 rename_i hz
 refine .inr ⟨ru (by simpa using hz),?_⟩;split at h
 ·rename_i h1;rw [Bool.and_eq_true,decide_eq_true_eq] at h;exact .inl ⟨h1,h.1,h.2⟩
 split at h
 ·rename_i h1;rw [Bool.and_eq_true,decide_eq_true_eq] at h;exact .inr (.inl ⟨h1,h.1,h.2⟩)
 split at h
 ·rename_i h1;rw [decide_eq_true_eq] at h;exact .inr (.inr (.inl ⟨h1,h⟩))
 split at h
 ·rename_i h1;rw [decide_eq_true_eq] at h;exact .inr (.inr (.inr (.inl ⟨h1.1,h1.2,h.1,h.2⟩)))
 split at h
 ·rename_i h1;rw [decide_eq_true_eq] at h;exact .inr (.inr (.inr (.inr ⟨h1.1,h1.2,h.1,h.2⟩)))
 ·cases h
theorem kB {v:JV} (h:fR v=true):(∃ n,0<=n/\v=nr n)∨(∃ s,dL s=true/\v=jX s)∨v=.mk 1 0 [] [] []∨∃ b,v=fP b:=by
 obtain ⟨k,n,s,kids,keys⟩:=v;unfold fR at h;rw [Bool.and_eq_true,Bool.or_eq_true,decide_eq_true_eq,decide_eq_true_eq] at h;obtain ⟨hg,hk⟩:=h;have ha:=(nK (vL hg).1).1;unfold dI at ha;simp only [JV.kind,JV.num] at hk;rcases hk with ⟨rfl,hn⟩ | rfl | rfl | rfl
 ·rw [if_neg (by decide),if_neg (by decide),if_pos rfl] at ha;simp only [Bool.and_eq_true,beq_iff_eq,List.length_eq_zero_iff] at ha;obtain ⟨⟨rfl,rfl⟩,rfl⟩:=ha;exact .inl ⟨n,hn,rfl⟩
 ·rw [if_pos rfl] at ha;simp only [Bool.and_eq_true,beq_iff_eq,List.length_eq_zero_iff] at ha;obtain ⟨⟨⟨rfl,rfl⟩,rfl⟩,rfl⟩:=ha;exact .inr (.inr (.inl rfl))
 ·rw [if_neg (by decide),if_pos rfl] at ha;simp only [Bool.and_eq_true,Bool.or_eq_true,beq_iff_eq,List.length_eq_zero_iff] at ha;obtain ⟨⟨⟨h0,rfl⟩,rfl⟩,rfl⟩:=ha;refine .inr (.inr (.inr ?_));rcases h0 with rfl | rfl
  ·exact ⟨false,rfl⟩
  ·exact ⟨true,rfl⟩
 ·rw [if_neg (by decide),if_neg (by decide),if_neg (by decide),if_pos rfl] at ha;simp only [Bool.and_eq_true,beq_iff_eq,List.length_eq_zero_iff] at ha;obtain ⟨⟨⟨rfl,ht⟩,rfl⟩,rfl⟩:=ha;exact .inr (.inl ⟨s,ht,rfl⟩)
theorem vZ {T:List ak} {p:Nat} {v:JV} (h:fR v=true) (hr:rdT T p=gU v):TkA T p (fa v) (p+1):=by
 rcases kB h with ⟨n,_,rfl⟩ | ⟨s,_,rfl⟩ | rfl | ⟨b,rfl⟩
 ·obtain ⟨h1,h2,h3⟩:=iJ (show rdT T p=(3,ep n,n) from hr);exact .lit λ m=>by unfold bz;rw [if_neg (by omega),if_pos h1,h3]
 ·obtain ⟨h1,h2,h3⟩:=iJ (show rdT T p=(4,s,0) from hr);exact .lit λ m=>by unfold bz;rw [if_neg (by omega),if_neg (by omega),if_pos h1,h2]
 ·have hr':rdT T p=(2,nw,0):=hr;have h1:=(iJ hr').1;exact .lit λ m=>by unfold bz;rw [if_neg (by omega),if_neg (by omega),if_neg (by omega),if_pos (by rw [bf hr'];decide)]
 ·cases b
  ·have hr':rdT T p=(2,gi,0):=hr;have h1:=(iJ hr').1;exact .lit λ m=>by unfold bz;rw [if_neg (by omega),if_neg (by omega),if_neg (by omega),if_neg (by rw [bf hr'];decide),if_neg (by rw [bf hr'];decide),if_pos (by rw [bf hr'];decide)]
  ·have hr':rdT T p=(2,jm,0):=hr;have h1:=(iJ hr').1;exact .lit λ m=>by unfold bz;rw [if_neg (by omega),if_neg (by omega),if_neg (by omega),if_neg (by rw [bf hr'];decide),if_pos (by rw [bf hr'];decide)]
theorem ui {v:JV} (h:fR v=true) (l:Nat):eJ l (gU v):=by
 rcases kB h with ⟨n,_,rfl⟩ | ⟨s,_,rfl⟩ | rfl | ⟨b,rfl⟩
 ·exact mf (by show ¬ ((3:Int)=5∨(3:Int)=2);decide) _
 ·exact mf (by show ¬ ((4:Int)=5∨(4:Int)=2);decide) _
 ·exact ⟨by decide,λ _=>by decide,λ _=>by decide⟩
 ·cases b<;>exact ⟨by decide,λ _=>by decide,λ _=>by decide⟩
theorem jQ:∀ (r:Nat) (x:EJ),bw r x≠0->∃ a t,(az x).2=a::t/\eJ (az x).1 a
 | 0,x,h=>absurd (by cases x;rfl) h
 |r+1,.mk k v s kids,h=>by
  obtain ⟨_,hk,hkids⟩:=cG h;unfold az;simp only;rcases kG hk with ⟨rfl,hl,rfl,_⟩ | ⟨rfl,⟨rfl,hn,_⟩ | ⟨rfl,hn,hk1⟩ | ⟨rfl,rfl⟩ | ⟨h5,h7,rfl,hk1⟩ | ⟨h8,h15,rfl,hk2⟩⟩
  ·exact ⟨_,_,rfl,ui hl _⟩
  ·exact ⟨_,_,rfl,mf (by show ¬ ((1:Int)=5∨(1:Int)=2);decide) _⟩
  ·obtain ⟨y,rfl⟩:=List.length_eq_one_iff.1 hk1;obtain ⟨a,t,e,hf⟩:=ju (from_:=8) (jQ r y (hkids y List.mem_cons_self));refine ⟨a,t++[ap [46],eR s],?_,hf⟩;rw [cW,cW];show bu 8 (az y)++[ap [46],eR s]=_
   rw [e];rfl
  ·exact ⟨_,_,rfl,by decide,λ _=>by decide,λ _=>by decide⟩
  ·obtain ⟨y,rfl⟩:=List.length_eq_one_iff.1 hk1;have h3:k=5∨k=6∨k=7:=by omega
   rw [cW,cW];rcases h3 with rfl | rfl | rfl
   ·exact ⟨_,_,rfl,by decide,λ h=>absurd h (by decide),λ h=>absurd h (by decide)⟩
   ·exact ⟨_,_,rfl,by decide,λ _=>by decide,λ h=>absurd h (by decide)⟩
   ·exact ⟨_,_,rfl,by decide,λ _=>by decide,λ h=>absurd h (by decide)⟩
  ·match kids,hk2 with
   |[y,z],_ =>
    obtain ⟨a,t,e,hf⟩:=ju (from_:=mj (a8 k)) (jQ r y (hkids y List.mem_cons_self));refine ⟨a,t++opK k::bu (a8 k+1) (az z),?_,hf.mono (by unfold mj;split<;>omega)⟩;rw [cW,cW,cW];unfold cI;rw [if_neg (by omega),if_neg (by omega),if_neg (by omega),if_neg (by omega)];simp only;rw [e];rfl
structure BK (T:List ak) (x:EJ):Prop where
 one:∀ p,At T p (az x).2->(az x).1=9->TkA T p x (p+(az x).2.length)
 two:∀ p,At T p (az x).2->(az x).1=3∨(az x).1=4∨(az x).1=7->dn T (az x).1 (p+(az x).2.length)->TkE T (az x).1 p x (p+(az x).2.length)
 three:∀ p,At T p (az x).2->(az x).1=1∨(az x).1=2∨(az x).1=5∨(az x).1=6->dn T ((az x).1+1) (p+(az x).2.length)->∀ y q',TkB T (az x).1 x (p+(az x).2.length) y q' ->
  ∃ h q0,TkE T ((az x).1+1) p h q0/\TkB T (az x).1 h q0 y q'
 four:∀ p,At T p (az x).2->(az x).1=8->∀ y q',TkP T x (p+(az x).2.length) y q'->∃ h q0,TkA T p h q0/\TkP T h q0 y q'
theorem qn {T:List ak} {p l:Nat} {a:LX} {t:List LX} (h:At T p (a::t)) (hf:eJ l a):(∀ m,m<l->m=3∨m=7->dx T m p=none)/\al T p [93]=false:=by
 have hr:=(At.cons.1 h).1;obtain ⟨k,t,n⟩:=a;have hs:∀ w,al T p w=rW (k,t,n) w:=λ w=>bf hr
 refine ⟨λ m hm h37=>?_,by rw [hs];exact hf.1⟩;rcases h37 with rfl | rfl
 ·unfold dx;refine iY λ x hx=>?_
  simp only [eU,List.mem_cons,List.not_mem_nil,or_false] at hx;subst hx;rw [hs];exact hf.2.1 hm
 ·unfold dx;refine iY λ x hx=>?_
  simp only [eU,List.mem_cons,List.not_mem_nil,or_false] at hx;rcases hx with rfl | rfl
  ·rw [hs];exact (hf.2.2 hm).1
  ·rw [hs];exact (hf.2.2 hm).2
section
variable {T:List ak} {x:EJ}
theorem BK.bare (hb:BK T x) {r:Nat} (hd:bw r x≠0) (hl:1<=(az x).1/\(az x).1<=9) {from_ p:Nat} (hf:from_<=(az x).1) (h8:from_<=8) (ha:At T p (az x).2) (hs:dn T from_ (p+(az x).2.length)):TkE T from_ p x (p+(az x).2.length):=by
 obtain ⟨a,t,e,hfo⟩:=jQ r x hd;have hfirst:=(qn (e ▸ ha) hfo).1;have lift:∀ lvl,lvl<=8->lvl<=(az x).1->from_<=lvl->TkE T lvl p x (p+(az x).2.length)->TkE T from_ p x (p+(az x).2.length):=λ lvl h1 h2 h3 h4 =>
  TkE.lift (lvl-from_) from_ lvl (by omega) h1 h4 hs (λ l _ hl h37=>hfirst l (by omega) h37)
 have hc:(az x).1=9∨(az x).1=8∨((az x).1=3∨(az x).1=4∨(az x).1=7)∨((az x).1=1∨(az x).1=2∨(az x).1=5∨(az x).1=6):=by omega
 rcases hc with h | h | h | h
 ·exact lift 8 (Nat.le_refl _) (by omega) h8 (.path (hb.one p ha h) (.stop hs.2))
 ·obtain ⟨y,q0,h1,h2⟩:=hb.four p ha h x _ (.stop hs.2);exact lift 8 (Nat.le_refl _) (by omega) h8 (.path h1 h2)
 ·exact lift _ (by omega) (Nat.le_refl _) hf (hb.two p ha h (hs.mono hf))
 ·obtain ⟨y,q0,h1,h2⟩:=hb.three p ha h (hs.mono (by omega)) x _ (.stop (hs.1 _ hf (by omega) (by omega)));exact lift _ (by omega) (Nat.le_refl _) hf (.bin (by omega) (by omega) h1 h2)
theorem BK.brack (hb:BK T x) {r:Nat} (hd:bw r x≠0) (hl:1<=(az x).1/\(az x).1<=9) {p:Nat} (ha:At T p (ap [40]::((az x).2++[ap [41]]))):TkA T p x (p+(ap [40]::((az x).2++[ap [41]])).length):=by
 obtain ⟨h1,h2⟩:=At.cons.1 ha;obtain ⟨h3,h4⟩:=At.app.1 h2;have h5:=(At.cons.1 h4).1;have h6:=TkA.brack h1 (hb.bare hd hl (from_:=1) hl.1 (by omega) h3 (.of h5 (by decide) (by decide) 1)) (by rw [bf h5];decide);rw [List.length_cons,List.length_append];simpa only [List.length_cons,List.length_nil,Nat.add_assoc,Nat.add_comm 1] using h6
theorem BK.toE (hb:BK T x) {r:Nat} (hd:bw r x≠0) (hl:1<=(az x).1/\(az x).1<=9) {from_ p:Nat} (h8:from_<=8) (ha:At T p (aw from_ x)) (hs:dn T from_ (p+(aw from_ x).length)):TkE T from_ p x (p+(aw from_ x).length):=by
 unfold aw bu at ha hs ⊢;by_cases h:(az x).1<from_
 ·rw [if_pos h] at ha hs ⊢;have h1:=(At.cons.1 ha).1;exact TkE.lift (8-from_) from_ 8 (by omega) (Nat.le_refl _) (.path (hb.brack hd hl ha) (.stop hs.2)) hs (λ l _ _ _=>tr h1 (.inr (by decide)) l)
 ·rw [if_neg h] at ha hs ⊢;exact hb.bare hd hl (by omega) h8 ha hs
theorem BK.toB (hb:BK T x) {r:Nat} (hd:bw r x≠0) (hl:1<=(az x).1/\(az x).1<=9) {L p:Nat} (hL:L=1∨L=2∨L=5∨L=6) (ha:At T p (aw L x)) (hs:dn T (L+1) (p+(aw L x).length)) {y:EJ} {q':Nat} (hy:TkB T L x (p+(aw L x).length) y q') :
  ∃ h q0,TkE T (L+1) p h q0/\TkB T L h q0 y q':=by
 by_cases h:(az x).1=L
 ·subst h;have e:aw (az x).1 x=(az x).2:=by unfold aw bu;rw [if_neg (Nat.lt_irrefl _)]
  rw [e] at ha hs hy;exact hb.three p ha hL hs y q' hy
 ·have e:aw L x=aw (L+1) x:=by
   unfold aw bu;by_cases h1:(az x).1<L
   ·rw [if_pos h1,if_pos (by omega)]
   ·rw [if_neg h1,if_neg (by omega)]
  rw [e] at ha hs hy;exact ⟨x,_,hb.toE hd hl (by omega) ha hs,hy⟩
theorem BK.toP (hb:BK T x) {r:Nat} (hd:bw r x≠0) (hl:1<=(az x).1/\(az x).1<=9) {p:Nat} (ha:At T p (aw 8 x)) {y:EJ} {q':Nat} (hy:TkP T x (p+(aw 8 x).length) y q'):∃ h q0,TkA T p h q0/\TkP T h q0 y q':=by
 unfold aw bu at ha hy;by_cases h:(az x).1<8
 ·rw [if_pos h] at ha hy;exact ⟨x,_,hb.brack hd hl ha,hy⟩
 ·rw [if_neg h] at ha hy;by_cases h9:(az x).1=9
  ·exact ⟨x,_,hb.one p ha h9,hy⟩
  ·exact hb.four p ha (by omega) y q' hy
end
theorem yj (k:Int):1<=a8 k/\a8 k<=9:=by unfold a8;(repeat' split)<;>omega
theorem gX (k:Int) (v:JV) (s:List UInt8) (kids:List EJ):az (.mk k v s kids)=(a8 k,cI k v s (kids.map az)):=by rw [az,jf]
theorem fj (x:EJ):1<=(az x).1/\(az x).1<=9:=by cases x;unfold az;exact yj _
theorem BK.of {T:List ak} {x:EJ} {L:Nat} {body:List LX} (e:az x=(L,body)) (h1:L=9->∀ p,At T p body->TkA T p x (p+body.length)) (h2:L=3∨L=4∨L=7->∀ p,At T p body->dn T L (p+body.length)->TkE T L p x (p+body.length))
  (h3:L=1∨L=2∨L=5∨L=6->∀ p,At T p body->dn T (L+1) (p+body.length)->∀ y q',TkB T L x (p+body.length) y q'->∃ h q0,TkE T (L+1) p h q0/\TkB T L h q0 y q')
  (h4:L=8->∀ p,At T p body->∀ y q',TkP T x (p+body.length) y q'->∃ h q0,TkA T p h q0/\TkP T h q0 y q'):BK T x :=
 ⟨λ p ha hl=>by rw [e] at ha hl ⊢;exact h1 hl p ha,λ p ha hl hs=>by rw [e] at ha hl hs ⊢;exact h2 hl p ha hs,λ p ha hl hs y q' hy=>by rw [e] at ha hl hs hy ⊢;exact h3 hl p ha hs y q' hy,λ p ha hl y q' hy=>by rw [e] at ha hl hy;exact h4 hl p ha y q' hy⟩
theorem nQ {T:List ak} {r:Nat}:∀ (kids:List EJ),kids≠[]->(∀ y ∈ kids,bw r y≠0/\BK T y)->∀ (acc:List EJ) (p:Nat),At T p (bg (kids.map λ y=>bu 1 (az y))++[ap [93]])->TkL T acc p (eOp 4 (acc++kids)) (p+(bg (kids.map λ y=>bu 1 (az y))).length+1)
 | [],h,_,_,_,_=>absurd rfl h
 |[y],_,hk,acc,p,ha=>by
  obtain ⟨hd,hb⟩:=hk y List.mem_cons_self;obtain ⟨h1,h2⟩:=At.app.1 ha;have h3:=(At.cons.1 h2).1;exact .last (hb.toE hd (fj y) (by omega) h1 (.of h3 (by decide) (by decide) 1)) (by show al T (p+(aw 1 y).length) _=_;rw [bf (show rdT T (p+(aw 1 y).length)=(5,[93],0) from h3)];decide) (by show al T (p+(aw 1 y).length) _=_;rw [bf (show rdT T (p+(aw 1 y).length)=(5,[93],0) from h3)];decide)
 |y::z::l,_,hk,acc,p,ha=>by
  obtain ⟨hd,hb⟩:=hk y List.mem_cons_self;have e:bg ((y::z::l).map λ y=>bu 1 (az y))=aw 1 y++ap [44]::bg ((z::l).map λ y=>bu 1 (az y)):=rfl;rw [e] at ha ⊢;rw [List.append_assoc] at ha;obtain ⟨h1,h2⟩:=At.app.1 ha;obtain ⟨h3,h4⟩:=At.cons.1 h2;have h5:=nQ (z::l) (by simp) (λ w hw=>hk w (List.mem_cons_of_mem _ hw)) (acc++[y]) _ h4;have h6:=TkL.more (hb.toE hd (fj y) (by omega) h1 (.of h3 (by decide) (by decide) 1)) (by rw [bf h3];decide) h5;rw [List.append_assoc] at h6;rw [List.length_append,List.length_cons];have hq:p+((aw 1 y).length+((bg ((z::l).map λ y=>bu 1 (az y))).length+1))+1=p+(aw 1 y).length+1+(bg ((z::l).map λ y=>bu 1 (az y))).length+1:=by omega
  rw [hq];exact h6
theorem AG (T:List ak):∀ (r:Nat) (x:EJ),bw r x≠0->BK T x
 | 0,x,h=>absurd (by cases x;rfl) h
 |r+1,.mk k v s kids,h=>by
  obtain ⟨_,hk,hkids⟩:=cG h;have ih:∀ y ∈ kids,bw r y≠0/\BK T y:=λ y hy=>⟨hkids y hy,AG T r y (hkids y hy)⟩
  rcases kG hk with ⟨rfl,hl,rfl,hk0⟩ | ⟨rfl,⟨rfl,hn,hk0⟩ | ⟨rfl,hn,hk1⟩ | ⟨rfl,rfl⟩ | ⟨h5,h7,rfl,hk1⟩ | ⟨h8,h15,rfl,hk2⟩⟩
  ·obtain rfl:=List.length_eq_zero_iff.1 hk0;exact .of (gX _ _ _ _) (λ _ p ha=>vZ hl (At.cons.1 ha).1) (λ h=>absurd h (by decide)) (λ h=>absurd h (by decide)) (λ h=>absurd h (by decide))
  ·obtain rfl:=List.length_eq_zero_iff.1 hk0;refine .of (gX _ _ _ _) (λ _ p ha=>?_) (λ h=>absurd h (by decide)) (λ h=>absurd h (by decide)) (λ h=>absurd h (by decide));obtain ⟨h1,h2,_⟩:=iJ (show rdT T p=(1,s,0) from (At.cons.1 ha).1);exact .lit λ m=>by unfold bz;rw [if_pos h1,h2]
  ·obtain ⟨y,rfl⟩:=List.length_eq_one_iff.1 hk1;refine .of (gX _ _ _ _) (λ h=>absurd h (by decide)) (λ h=>absurd h (by decide)) (λ h=>absurd h (by decide)) (λ _ p ha z q' hz=>?_);obtain ⟨hd,hb⟩:=ih y List.mem_cons_self;have e:cI 3 cn s ([y].map az)=aw 8 y++[ap [46],eR s]:=rfl;rw [e] at ha hz;obtain ⟨h1,h2⟩:=At.app.1 ha;obtain ⟨h3,h4⟩:=At.cons.1 h2;obtain ⟨h5,h6,_⟩:=iJ (show rdT T (p+(aw 8 y).length+1)=(1,s,0) from (At.cons.1 h4).1);refine hb.toP hd (fj y) h1 (.more (by rw [bf h3];decide) h5 ?_);rw [h6];rw [List.length_append] at hz;exact hz
  ·refine .of (gX _ _ _ _) (λ _ p ha=>?_) (λ h=>absurd h (by decide)) (λ h=>absurd h (by decide)) (λ h=>absurd h (by decide));have e:cI 4 cn [] (kids.map az)=ap [91]::(bg (kids.map λ y=>bu 1 (az y))++[ap [93]]):=by
    show ap [91]::(bg ((kids.map az).map (bu 1))++[ap [93]])=_
    rw [List.map_map];rfl
   rw [e] at ha ⊢;obtain ⟨h1,h2⟩:=At.cons.1 ha;cases kids with
   |nil =>
    have h3:=(At.cons.1 h2).1;exact .empty h1 (by rw [bf h3];decide)
   |cons y l =>
    have hf:al T (p+1) [93]=false:=by
     obtain ⟨a,t,e2,hfo⟩:=ju (from_:=1) (jQ r y (ih y List.mem_cons_self).1);have e3:∃ t',bg ((y::l).map λ y=>bu 1 (az y))++[ap [93]]=a::t':=by
      cases l with
      | nil=>exact ⟨t++[ap [93]],by show bu 1 (az y)++[ap [93]]=_;rw [e2];rfl⟩
      | cons z l=>exact ⟨t++ap [44]::bg ((z::l).map λ y=>bu 1 (az y))++[ap [93]],by show bu 1 (az y)++ap [44]::bg ((z::l).map λ y=>bu 1 (az y))++[ap [93]]=_;rw [e2];rfl⟩
     obtain ⟨t',e3⟩:=e3;rw [e3] at h2;exact (qn h2 hfo).2
    have h3:=nQ (y::l) (by simp) ih [] (p+1) h2;rw [List.length_cons,List.length_append];have hq:p+((bg ((y::l).map λ y=>bu 1 (az y))).length+[ap [93]].length+1)=p+1+(bg ((y::l).map λ y=>bu 1 (az y))).length+1:=by simp only [List.length_cons,List.length_nil];omega
    rw [hq];exact .list h1 hf h3
  ·obtain ⟨y,rfl⟩:=List.length_eq_one_iff.1 hk1;obtain ⟨hd,hb⟩:=ih y List.mem_cons_self;have hL:a8 k=3∨a8 k=7:=by
    have h3:k=5∨k=6∨k=7:=by omega
    rcases h3 with rfl | rfl | rfl<;>decide
   have e:cI k cn [] ([y].map az)=opK k::aw (a8 k) y:=by
    unfold cI;rw [if_neg (by omega),if_neg (by omega),if_neg (by omega),if_neg (by omega)];rfl
   refine .of ((gX _ _ _ _).trans (by rw [e])) (λ h=>by omega) (λ _ p ha hs=>?_) (λ h=>by omega) (λ h=>by omega);obtain ⟨h1,h2⟩:=At.cons.1 ha;rw [List.length_cons,show p+((aw (a8 k) y).length+1)=p+1+(aw (a8 k) y).length by omega] at hs ⊢;exact .pre hL (pk ⟨h5,by omega⟩ h1).1 (hb.toE hd (fj y) (by omega) h2 hs)
  ·match kids,hk2,ih with
   |[y,z],_,ih =>
    obtain ⟨hdy,hby⟩:=ih y List.mem_cons_self;obtain ⟨hdz,hbz⟩:=ih z (List.mem_cons_of_mem _ List.mem_cons_self);have hL:a8 k=1∨a8 k=2∨a8 k=4∨a8 k=5∨a8 k=6:=by
     have h3:k=8∨k=9∨k=10∨k=11∨k=12∨k=13∨k=14∨k=15:=by omega
     rcases h3 with rfl | rfl | rfl | rfl | rfl | rfl | rfl | rfl<;>decide
    have e:cI k cn [] ([y,z].map az)=aw (mj (a8 k)) y++opK k::aw (a8 k+1) z:=by
     unfold cI;rw [if_neg (by omega),if_neg (by omega),if_neg (by omega),if_neg (by omega)];rfl
    refine .of ((gX _ _ _ _).trans (by rw [e])) (λ h=>by omega) (λ h4 p ha hs=>?_) (λ h4 p ha hs w q' hw=>?_) (λ h=>by omega)
    ·have hL4:a8 k=4:=by omega
     rw [hL4] at ha hs ⊢;obtain ⟨h1,h2⟩:=At.app.1 ha;obtain ⟨h3,h6⟩:=At.cons.1 h2;have ho:=pk ⟨by omega,h15⟩ h3;rw [hL4] at ho;rw [List.length_append,List.length_cons,show ∀ a b:Nat,p+(a+(b+1))=p+a+1+b from λ a b=>by omega] at hs ⊢;exact .bin (by omega) (by omega) (hby.toE hdy (fj y) (by decide) h1 (.op ⟨by omega,h15⟩ h3 (by rw [hL4];decide))) (.once ho.1 (hbz.toE hdz (fj z) (by omega) h6 (hs.mono (by omega))))
    ·have hne:a8 k≠4:=by omega
     have hf:mj (a8 k)=a8 k:=if_neg hne;rw [hf] at ha hs hw;obtain ⟨h1,h2⟩:=At.app.1 ha;obtain ⟨h3,h6⟩:=At.cons.1 h2;have ho:=pk ⟨by omega,h15⟩ h3;rw [List.length_append,List.length_cons,show ∀ a b:Nat,p+(a+(b+1))=p+a+1+b from λ a b=>by omega] at hs hw;exact hby.toB hdy (fj y) h4 h1 (.op ⟨by omega,h15⟩ h3 (by omega)) (.more hne ho.1 (hbz.toE hdz (fj z) (by omega) h6 hs) hw)
theorem gK {T:List ak} {r:Nat} {x:EJ} (h:bw r x≠0) {p:Nat} (ha:At T p (aw 1 x)) (hs:dn T 1 (p+(aw 1 x).length)):TkE T 1 p x (p+(aw 1 x).length):=(AG T r x h).toE h (fj x) (by omega) ha hs
end
end Go.Proofs.YtgmnmnnoahdjnaaGreatDoor
