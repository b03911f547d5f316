import Derived.Test.YtgmnmnnoahdjnaaGreatDoorB22
import Derived.Test.YtgmnmnnoahdjnaaGreatDoorB21
set_option maxRecDepth 100000
set_option maxHeartbeats 16000000
set_option linter.unusedVariables false
set_option linter.unusedSimpArgs false
namespace Go.Proofs.YtgmnmnnoahdjnaaGreatDoor
section
section
variable {T:List ak}
theorem ic (hT:WT T):∀ (n:Nat),(∀ lvl p,lvl≤8→p<T.length→12*(T.length-p)+(10-lvl)≤n→aH T (n+1) lvl p=aH T n lvl p)∧(∀ lvl x p,lvl≤7→p<T.length→12*(T.length-p)+11≤n→gy T (n+1) lvl x p=gy T n lvl x p) ∧
  (∀ x p,p<T.length→12*(T.length-p)+1≤n→dY T (n+1) x p=dY T n x p)∧(∀ p,p<T.length→12*(T.length-p)+1≤n→bN T (n+1) p=bN T n p)∧(∀ acc p,p<T.length→12*(T.length-p)+11≤n→dX T (n+1) acc p=dX T n acc p)
 | 0=>⟨fun lvl p h1 hp h=>by omega,fun lvl x p h1 hp h=>by omega,fun x p hp h=>by omega,fun p hp h=>by omega,fun acc p hp h=>by omega⟩
 |n+1=>by
  obtain ⟨hE,hB,hP,hA,hL⟩:=ic hT n;refine ⟨fun lvl p hl hp h=>?_,fun lvl x p hl hp h=>?_,fun x p hp h=>?_,fun p hp h=>?_,fun acc p hp h=>?_⟩
  ·conv=>lhs;unfold aH
   conv=>rhs;unfold aH
   by_cases h37:lvl=3∨lvl=7
   ·rw [if_pos h37,if_pos h37];cases ho:dx T lvl p with
    | none=>exact hE (lvl+1) p (by omega) hp (by omega)
    | some k=>simp only;rw [hE lvl (p+1) hl (hT.next hp (fd ho)) (by omega)]
   ·rw [if_neg h37,if_neg h37];by_cases h8:8≤lvl
    ·rw [if_pos h8,if_pos h8,hA p hp (by omega)];have h1:=(mx hT n).2.2.2.1 p hp;cases hx:bN T n p with
     | bad q=>rfl
     | ok x q=>rw [hx] at h1;exact hP x q h1.2 (by have:=h1.1;omega)
    ·rw [if_neg h8,if_neg h8,hE (lvl+1) p (by omega) hp (by omega)];have h1:=(mx hT n).1 (lvl+1) p hp;cases hx:aH T n (lvl+1) p with
     | bad q=>rfl
     | ok x q=>rw [hx] at h1;exact hB lvl x q (by omega) h1.2 (by have:=h1.1;omega)
  ·conv=>lhs;unfold gy
   conv=>rhs;unfold gy
   cases ho:dx T lvl p with
   | none=>rfl
   |some k =>
    have h0:=hT.next hp (fd ho);simp only;rw [hE (lvl+1) (p+1) (by omega) h0 (by omega)];have h1:=(mx hT n).1 (lvl+1) (p+1) h0;cases hx:aH T n (lvl+1) (p+1) with
    | bad q=>rfl
    |ok y q =>
     rw [hx] at h1;simp only;split
     ·rfl
     ·exact hB lvl _ q hl h1.2 (by have:=h1.1;omega)
  ·conv=>lhs;unfold dY
   conv=>rhs;unfold dY
   by_cases hs:am T p [46]=true
   ·rw [if_pos hs,if_pos hs];have h0:=hT.next hp (av hs);by_cases hk:tkK T (p+1)=1
    ·rw [if_pos hk,if_pos hk];exact hP _ (p+2) (hT.next h0 (by omega)) (by omega)
    ·rw [if_neg hk,if_neg hk]
   ·rw [if_neg hs,if_neg hs]
  ·conv=>lhs;unfold bN
   conv=>rhs;unfold bN
   split
   ·rfl
   split
   ·rfl
   split
   ·rfl
   split
   ·rfl
   split
   ·rfl
   split
   ·rfl
   split
   ·rename_i hs
    have h0:=hT.next hp (av hs);rw [hE 1 (p+1) (by omega) h0 (by omega)]
   split
   ·rename_i hs
    have h0:=hT.next hp (av hs);split
    ·rfl
    ·exact hL [] (p+1) h0 (by omega)
   ·rfl
  ·conv=>lhs;unfold dX
   conv=>rhs;unfold dX
   rw [hE 1 p (by omega) hp (by omega)];have h1:=(mx hT n).1 1 p hp;cases hx:aH T n 1 p with
   | bad q=>rfl
   |ok y q =>
    rw [hx] at h1;simp only;split
    ·rename_i hs;exact hL _ (q+1) (hT.next h1.2 (av hs)) (by have:=h1.1;omega)
    ·rfl
theorem qT (hT:WT T) {lvl p:Nat} (hl:lvl≤8) (hp:p<T.length):∀ {n m:Nat},12*(T.length-p)+(10-lvl)≤n→n≤m→aH T m lvl p=aH T n lvl p:=by
 intro n m h hm
 induction m with
 |zero =>
  obtain rfl:n=0:=by omega
  rfl
 |succ m ih =>
  rcases Nat.lt_or_ge m n with h1 | h1
  ·obtain rfl:n=m+1:=by omega
   rfl
  ·rw [(ic hT m).1 lvl p hl hp (by omega),ih h1]
def TkE (T:List ak) (lvl p:Nat) (x:EJ) (q:Nat):Prop:=∃ N,∀ n,N≤n→aH T n lvl p=.ok x q
def TkB (T:List ak) (lvl:Nat) (x:EJ) (p:Nat) (y:EJ) (q:Nat):Prop:=∃ N,∀ n,N≤n→gy T n lvl x p=.ok y q
def TkP (T:List ak) (x:EJ) (p:Nat) (y:EJ) (q:Nat):Prop:=∃ N,∀ n,N≤n→dY T n x p=.ok y q
def TkA (T:List ak) (p:Nat) (x:EJ) (q:Nat):Prop:=∃ N,∀ n,N≤n→bN T n p=.ok x q
def TkL (T:List ak) (acc:List EJ) (p:Nat) (x:EJ) (q:Nat):Prop:=∃ N,∀ n,N≤n→dX T n acc p=.ok x q
theorem TkE.pre {lvl p:Nat} {k:Int} {x:EJ} {q:Nat} (h:lvl=3∨lvl=7) (ho:dx T lvl p=some k) (hx:TkE T lvl (p+1) x q):TkE T lvl p (eOp k [x]) q:=by
 obtain ⟨N,hN⟩:=hx;refine ⟨N+1,fun n hn=>?_⟩;obtain ⟨m,rfl⟩:∃ m,n=m+1:=⟨n-1,by omega⟩
 unfold aH;rw [if_pos h,ho];simp only;rw [hN m (by omega)]
theorem TkE.skip {lvl p:Nat} {x:EJ} {q:Nat} (h:lvl=3∨lvl=7) (ho:dx T lvl p=none) (hx:TkE T (lvl+1) p x q):TkE T lvl p x q:=by
 obtain ⟨N,hN⟩:=hx;refine ⟨N+1,fun n hn=>?_⟩;obtain ⟨m,rfl⟩:∃ m,n=m+1:=⟨n-1,by omega⟩
 unfold aH;rw [if_pos h,ho];exact hN m (by omega)
theorem TkE.path {p:Nat} {x y:EJ} {q r:Nat} (hx:TkA T p x q) (hy:TkP T x q y r):TkE T 8 p y r:=by
 obtain ⟨N,hN⟩:=hx;obtain ⟨M,hM⟩:=hy;refine ⟨N+M+1,fun n hn=>?_⟩;obtain ⟨m,rfl⟩:∃ m,n=m+1:=⟨n-1,by omega⟩
 unfold aH;rw [if_neg (by omega),if_pos (by omega),hN m (by omega)];exact hM m (by omega)
theorem TkE.bin {lvl p:Nat} {x y:EJ} {q r:Nat} (h37:¬ (lvl=3∨lvl=7)) (h8:¬ 8≤lvl) (hx:TkE T (lvl+1) p x q) (hy:TkB T lvl x q y r):TkE T lvl p y r:=by
 obtain ⟨N,hN⟩:=hx;obtain ⟨M,hM⟩:=hy;refine ⟨N+M+1,fun n hn=>?_⟩;obtain ⟨m,rfl⟩:∃ m,n=m+1:=⟨n-1,by omega⟩
 unfold aH;rw [if_neg h37,if_neg h8,hN m (by omega)];exact hM m (by omega)
theorem TkB.stop {lvl:Nat} {x:EJ} {p:Nat} (ho:dx T lvl p=none):TkB T lvl x p x p:=by
 refine ⟨1,fun n hn=>?_⟩;obtain ⟨m,rfl⟩:∃ m,n=m+1:=⟨n-1,by omega⟩
 unfold gy;rw [ho]
theorem TkB.once {x:EJ} {p:Nat} {k:Int} {y:EJ} {q:Nat} (ho:dx T 4 p=some k) (hy:TkE T 5 (p+1) y q):TkB T 4 x p (eOp k [x,y]) q:=by
 obtain ⟨N,hN⟩:=hy;refine ⟨N+1,fun n hn=>?_⟩;obtain ⟨m,rfl⟩:∃ m,n=m+1:=⟨n-1,by omega⟩
 unfold gy;rw [ho];simp only;rw [hN m (by omega)];simp only;rw [if_pos trivial]
theorem TkB.more {lvl:Nat} {x:EJ} {p:Nat} {k:Int} {y:EJ} {q:Nat} {z:EJ} {r:Nat} (h4:lvl≠4) (ho:dx T lvl p=some k) (hy:TkE T (lvl+1) (p+1) y q) (hz:TkB T lvl (eOp k [x,y]) q z r):TkB T lvl x p z r:=by
 obtain ⟨N,hN⟩:=hy;obtain ⟨M,hM⟩:=hz;refine ⟨N+M+1,fun n hn=>?_⟩;obtain ⟨m,rfl⟩:∃ m,n=m+1:=⟨n-1,by omega⟩
 unfold gy;rw [ho];simp only;rw [hN m (by omega)];simp only;rw [if_neg h4];exact hM m (by omega)
theorem TkP.stop {x:EJ} {p:Nat} (h:am T p [46]=false):TkP T x p x p:=by
 refine ⟨1,fun n hn=>?_⟩;obtain ⟨m,rfl⟩:∃ m,n=m+1:=⟨n-1,by omega⟩
 unfold dY;rw [if_neg (by rw [h];decide)]
theorem TkP.more {x:EJ} {p:Nat} {y:EJ} {q:Nat} (h:am T p [46]=true) (hk:tkK T (p+1)=1) (hy:TkP T (.mk 3 cW (tkT T (p+1)) [x]) (p+2) y q):TkP T x p y q:=by
 obtain ⟨N,hN⟩:=hy;refine ⟨N+1,fun n hn=>?_⟩;obtain ⟨m,rfl⟩:∃ m,n=m+1:=⟨n-1,by omega⟩
 unfold dY;rw [if_pos h,if_pos hk];exact hN m (by omega)
theorem TkA.brack {p:Nat} {x:EJ} {q:Nat} (hr:rdT T p=ap [40]) (hx:TkE T 1 (p+1) x q) (hq:am T q [41]=true):TkA T p x (q+1):=by
 obtain ⟨N,hN⟩:=hx;refine ⟨N+1,fun n hn=>?_⟩;obtain ⟨m,rfl⟩:∃ m,n=m+1:=⟨n-1,by omega⟩
 have hk:=(il hr).1;unfold bN;rw [if_neg (by omega),if_neg (by omega),if_neg (by omega),if_neg (by rw [bc hr];decide),if_neg (by rw [bc hr];decide),if_neg (by rw [bc hr];decide),if_pos (by rw [bc hr];decide),hN m (by omega)];simp only;rw [if_pos hq]
theorem TkA.lit {p:Nat} {x:EJ} (h:∀ m,bN T (m+1) p=.ok x (p+1)):TkA T p x (p+1):=by
 refine ⟨1,fun n hn=>?_⟩;obtain ⟨m,rfl⟩:∃ m,n=m+1:=⟨n-1,by omega⟩
 exact h m
theorem TkA.empty {p:Nat} (hr:rdT T p=ap [91]) (hq:am T (p+1) [93]=true):TkA T p (eOp 4 []) (p+2):=by
 refine ⟨1,fun n hn=>?_⟩;obtain ⟨m,rfl⟩:∃ m,n=m+1:=⟨n-1,by omega⟩
 have hk:=(il hr).1;unfold bN;rw [if_neg (by omega),if_neg (by omega),if_neg (by omega),if_neg (by rw [bc hr];decide),if_neg (by rw [bc hr];decide),if_neg (by rw [bc hr];decide),if_neg (by rw [bc hr];decide),if_pos (by rw [bc hr];decide),if_pos hq]
theorem TkA.list {p:Nat} {x:EJ} {q:Nat} (hr:rdT T p=ap [91]) (hq:am T (p+1) [93]=false) (hx:TkL T [] (p+1) x q):TkA T p x q:=by
 obtain ⟨N,hN⟩:=hx;refine ⟨N+1,fun n hn=>?_⟩;obtain ⟨m,rfl⟩:∃ m,n=m+1:=⟨n-1,by omega⟩
 have hk:=(il hr).1;unfold bN;rw [if_neg (by omega),if_neg (by omega),if_neg (by omega),if_neg (by rw [bc hr];decide),if_neg (by rw [bc hr];decide),if_neg (by rw [bc hr];decide),if_neg (by rw [bc hr];decide),if_pos (by rw [bc hr];decide),if_neg (by rw [hq];decide)];exact hN m (by omega)
theorem TkL.last {acc:List EJ} {p:Nat} {x:EJ} {q:Nat} (hx:TkE T 1 p x q) (h1:am T q [44]=false) (h2:am T q [93]=true):TkL T acc p (eOp 4 (acc++[x])) (q+1):=by
 obtain ⟨N,hN⟩:=hx;refine ⟨N+1,fun n hn=>?_⟩;obtain ⟨m,rfl⟩:∃ m,n=m+1:=⟨n-1,by omega⟩
 unfold dX;rw [hN m (by omega)];simp only;rw [if_neg (by rw [h1];decide),if_pos h2]
theorem TkL.more {acc:List EJ} {p:Nat} {x:EJ} {q:Nat} {y:EJ} {r:Nat} (hx:TkE T 1 p x q) (h1:am T q [44]=true) (hy:TkL T (acc++[x]) (q+1) y r):TkL T acc p y r:=by
 obtain ⟨N,hN⟩:=hx;obtain ⟨M,hM⟩:=hy;refine ⟨N+M+1,fun n hn=>?_⟩;obtain ⟨m,rfl⟩:∃ m,n=m+1:=⟨n-1,by omega⟩
 unfold dX;rw [hN m (by omega)];simp only;rw [if_pos h1];exact hM m (by omega)
theorem TkE.at_ (hT:WT T) {lvl p:Nat} {x:EJ} {q:Nat} (h:TkE T lvl p x q) (hl:lvl≤8) (hp:p<T.length) {n:Nat} (hn:12*(T.length-p)+(10-lvl)≤n):aH T n lvl p=.ok x q:=by
 obtain ⟨N,hN⟩:=h;rw [← qT hT hl hp hn (Nat.le_max_left n N)];exact hN _ (Nat.le_max_right n N)
theorem oi {p:Nat} {k:Int} (hk:5≤k∧k≤15) (h:rdT T p=opK k):dx T (aE k) p=some k∧(∀ l,l≠aE k→dx T l p=none)∧am T p [46]=false:=by
 have h11:k=5∨k=6∨k=7∨k=8∨k=9∨k=10∨k=11∨k=12∨k=13∨k=14∨k=15:=by omega
 rcases h11 with rfl | rfl | rfl | rfl | rfl | rfl | rfl | rfl | rfl | rfl | rfl
 all_goals
  refine ⟨?_,fun l hl=>?_,?_⟩
  ·show fI T p (eu _)=_
   rw [oh h (by decide)];rfl
  ·show fI T p (eu l)=_
   rw [oh h (by decide)];rcases l with _ | _ | _ | _ | _ | _ | _ | _ | l
   all_goals first | rfl | exact absurd rfl hl
  ·rw [bc h];decide
def oj:List (List UInt8):=[[111,114],[97,110,100],[110,111,116],[61,61],[60],[60,61],[43],[45],[42],[115,105,122,101],[107,105,110,100]]
theorem us:∀ (l:Nat) (x:List UInt8 × Int),x ∈ eu l→x.1 ∈ oj
 | 0,x,h=>by cases h
 | 1,x,h=>by simp [eu] at h;subst h;decide
 | 2,x,h=>by simp [eu] at h;subst h;decide
 | 3,x,h=>by simp [eu] at h;subst h;decide
 | 4,x,h=>by simp [eu] at h;rcases h with rfl | rfl | rfl<;>decide
 | 5,x,h=>by simp [eu] at h;rcases h with rfl | rfl<;>decide
 | 6,x,h=>by simp [eu] at h;subst h;decide
 | 7,x,h=>by simp [eu] at h;rcases h with rfl | rfl<;>decide
 | _+8,x,h=>by cases h
theorem iB {p:Nat}:∀ {l:List (List UInt8 × Int)},(∀ x ∈ l,am T p x.1=false)→fI T p l=none
 | [],_=>rfl
 |x::r,h=>by
  unfold fI;rw [if_neg (by rw [h x List.mem_cons_self];decide)];exact iB fun y hy=>h y (List.mem_cons_of_mem _ hy)
theorem rH {p:Nat} {k:Int} {t:List UInt8} {n:Int} (h:rdT T p=(k,t,n)) (ht:¬ (k=5∨k=2)∨t ∉ oj) (l:Nat):dx T l p=none:=by
 refine iB fun x hx=>?_
 rw [bc h,decide_eq_false_iff_not];rintro ⟨h1,h2⟩;rcases ht with ht | ht
 ·exact ht h1
 ·exact ht (h2 ▸ us l x hx)
def dL (T:List ak) (lvl q:Nat):Prop:=(∀ l,lvl≤l→l≠3→l≠7→dx T l q=none)∧am T q [46]=false
theorem dL.mono {l l' q:Nat} (h:dL T l q) (hl:l≤l'):dL T l' q:=⟨fun m hm=>h.1 m (by omega),h.2⟩
theorem dL.of {q:Nat} {k:Int} {t:List UInt8} {n:Int} (h:rdT T q=(k,t,n)) (ht:t ∉ oj) (h46:t≠[46]) (l:Nat):dL T l q :=
 ⟨fun m _ _ _=>rH h (.inr ht) m,by rw [bc h,decide_eq_false_iff_not];exact fun h=>h46 h.2⟩
theorem dL.op {q:Nat} {k:Int} (hk:5≤k∧k≤15) (h:rdT T q=opK k) {l:Nat} (hl:aE k<l):dL T l q:=by
 obtain ⟨_,h2,h3⟩:=oi hk h;exact ⟨fun m hm _ _=>h2 m (by omega),h3⟩
theorem TkE.lift {p:Nat} {x:EJ} {q:Nat}:∀ (d from_ lvl:Nat),lvl=from_+d→lvl≤8→TkE T lvl p x q→dL T from_ q→(∀ l,from_≤l→l<lvl→l=3∨l=7→dx T l p=none)→TkE T from_ p x q
 |0,from_,lvl,h,_,hx,_,_=>by
  obtain rfl:lvl=from_:=by omega
  exact hx
 |d+1,from_,lvl,h,h8,hx,hs,hp=>by
  have h1:=TkE.lift d (from_+1) lvl (by omega) h8 hx (hs.mono (by omega)) (fun l hl=>hp l (by omega));by_cases h37:from_=3∨from_=7
  ·exact .skip h37 (hp from_ (Nat.le_refl _) (by omega) h37) h1
  ·exact .bin h37 (by omega) h1 (.stop (hs.1 from_ (Nat.le_refl _) (by omega) (by omega)))
end
def qE (h:LX) (w:List UInt8):Bool:=decide ((h.1=5∨h.1=2)∧h.2.1=w)
def eh (l:Nat) (h:LX):Prop:=qE h [93]=false∧(3<l→qE h [110,111,116]=false)∧(7<l→qE h [115,105,122,101]=false∧qE h [107,105,110,100]=false)
theorem kP {h:LX} (hk:¬ (h.1=5∨h.1=2)) (w:List UInt8):qE h w=false:=by unfold qE;rw [decide_eq_false_iff_not];exact fun e=>hk e.1
theorem lm {h:LX} (hk:¬ (h.1=5∨h.1=2)) (l:Nat):eh l h:=⟨kP hk _,fun _=>kP hk _,fun _=>⟨kP hk _,kP hk _⟩⟩
theorem eh.mono {l l':Nat} {h:LX} (hf:eh l h) (hl:l'≤l):eh l' h:=⟨hf.1,fun h3=>hf.2.1 (by omega),fun h7=>hf.2.2 (by omega)⟩
theorem o8 (l:Nat):eh l (ap [40]):=⟨by decide,fun _=>by decide,fun _=>by decide⟩
theorem iY {from_:Nat} {x:Nat × List LX} (h:∃ a r,x.2=a::r∧eh x.1 a):∃ a r,a8 from_ x=a::r∧eh from_ a:=by
 obtain ⟨a,r,e,hf⟩:=h;unfold a8;split
 ·exact ⟨_,_,rfl,o8 _⟩
 ·rename_i hl;exact ⟨a,r,e,hf.mono (by omega)⟩
theorem qh {v:JV} (h:fh v=true):v=cW:=by
 obtain ⟨k,n,s,kids,keys⟩:=v;unfold fh at h;rw [decide_eq_true_eq] at h;obtain ⟨rfl,rfl,rfl,h4⟩:=h;have h5:kids=[]:=List.length_eq_zero_iff.1 (by omega);have h6:keys=[]:=List.length_eq_zero_iff.1 (by omega);subst h5 h6;rfl
theorem j6 {k:Int} {v:JV} {s:List UInt8} {nk:Nat} (h:okX k v s nk=true) :
  (k=1∧fy v=true∧s=[]∧nk=0)∨(v=cW∧((k=2∧eC s=true∧nk=0)∨(k=3∧eC s=true∧nk=1)∨(k=4∧s=[])∨(5≤k∧k≤7∧s=[]∧nk=1)∨(8≤k∧k≤15∧s=[]∧nk=2))):=by
 unfold okX at h;split at h
 ·rename_i h1;rw [Bool.and_eq_true,decide_eq_true_eq] at h;exact .inl ⟨h1,h.1,h.2.1,h.2.2⟩
 split at h
 ·cases h
 rename_i hz
 refine .inr ⟨qh (by simpa using hz),?_⟩;split at h
 ·rename_i h1;rw [Bool.and_eq_true,decide_eq_true_eq] at h;exact .inl ⟨h1,h.1,h.2⟩
 split at h
 ·rename_i h1;rw [Bool.and_eq_true,decide_eq_true_eq] at h;exact .inr (.inl ⟨h1,h.1,h.2⟩)
 split at h
 ·rename_i h1;rw [decide_eq_true_eq] at h;exact .inr (.inr (.inl ⟨h1,h⟩))
 split at h
 ·rename_i h1;rw [decide_eq_true_eq] at h;exact .inr (.inr (.inr (.inl ⟨h1.1,h1.2,h.1,h.2⟩)))
 split at h
 ·rename_i h1;rw [decide_eq_true_eq] at h;exact .inr (.inr (.inr (.inr ⟨h1.1,h1.2,h.1,h.2⟩)))
 ·cases h
theorem j1 {v:JV} (h:fy v=true):(∃ n,0≤n∧v=n8 n)∨(∃ s,cR s=true∧v=kn s)∨v=.mk 1 0 [] [] []∨∃ b,v=gF b:=by
 obtain ⟨k,n,s,kids,keys⟩:=v;unfold fy at h;rw [Bool.and_eq_true,Bool.or_eq_true,decide_eq_true_eq,decide_eq_true_eq] at h;obtain ⟨hg,hk⟩:=h;have ha:=(mO (tT hg).1).1;unfold cC at ha;simp only [JV.kind,JV.num] at hk;rcases hk with ⟨rfl,hn⟩ | rfl | rfl | rfl
 ·rw [if_neg (by decide),if_neg (by decide),if_pos rfl] at ha;simp only [Bool.and_eq_true,beq_iff_eq,List.length_eq_zero_iff] at ha;obtain ⟨⟨rfl,rfl⟩,rfl⟩:=ha;exact .inl ⟨n,hn,rfl⟩
 ·rw [if_pos rfl] at ha;simp only [Bool.and_eq_true,beq_iff_eq,List.length_eq_zero_iff] at ha;obtain ⟨⟨⟨rfl,rfl⟩,rfl⟩,rfl⟩:=ha;exact .inr (.inr (.inl rfl))
 ·rw [if_neg (by decide),if_pos rfl] at ha;simp only [Bool.and_eq_true,Bool.or_eq_true,beq_iff_eq,List.length_eq_zero_iff] at ha;obtain ⟨⟨⟨h0,rfl⟩,rfl⟩,rfl⟩:=ha;refine .inr (.inr (.inr ?_));rcases h0 with rfl | rfl
  ·exact ⟨false,rfl⟩
  ·exact ⟨true,rfl⟩
 ·rw [if_neg (by decide),if_neg (by decide),if_neg (by decide),if_pos rfl] at ha;simp only [Bool.and_eq_true,beq_iff_eq,List.length_eq_zero_iff] at ha;obtain ⟨⟨⟨rfl,ht⟩,rfl⟩,rfl⟩:=ha;exact .inr (.inl ⟨s,ht,rfl⟩)
theorem ue {T:List ak} {p:Nat} {v:JV} (h:fy v=true) (hr:rdT T p=gu v):TkA T p (eZ v) (p+1):=by
 rcases j1 h with ⟨n,_,rfl⟩ | ⟨s,_,rfl⟩ | rfl | ⟨b,rfl⟩
 ·obtain ⟨h1,h2,h3⟩:=il (show rdT T p=(3,dV n,n) from hr);exact .lit fun m=>by unfold bN;rw [if_neg (by omega),if_pos h1,h3]
 ·obtain ⟨h1,h2,h3⟩:=il (show rdT T p=(4,s,0) from hr);exact .lit fun m=>by unfold bN;rw [if_neg (by omega),if_neg (by omega),if_pos h1,h2]
 ·have hr':rdT T p=(2,mz,0):=hr;have h1:=(il hr').1;exact .lit fun m=>by unfold bN;rw [if_neg (by omega),if_neg (by omega),if_neg (by omega),if_pos (by rw [bc hr'];decide)]
 ·cases b
  ·have hr':rdT T p=(2,fL,0):=hr;have h1:=(il hr').1;exact .lit fun m=>by unfold bN;rw [if_neg (by omega),if_neg (by omega),if_neg (by omega),if_neg (by rw [bc hr'];decide),if_neg (by rw [bc hr'];decide),if_pos (by rw [bc hr'];decide)]
  ·have hr':rdT T p=(2,iR,0):=hr;have h1:=(il hr').1;exact .lit fun m=>by unfold bN;rw [if_neg (by omega),if_neg (by omega),if_neg (by omega),if_neg (by rw [bc hr'];decide),if_pos (by rw [bc hr'];decide)]
theorem sB {v:JV} (h:fy v=true) (l:Nat):eh l (gu v):=by
 rcases j1 h with ⟨n,_,rfl⟩ | ⟨s,_,rfl⟩ | rfl | ⟨b,rfl⟩
 ·exact lm (by show ¬ ((3:Int)=5∨(3:Int)=2);decide) _
 ·exact lm (by show ¬ ((4:Int)=5∨(4:Int)=2);decide) _
 ·exact ⟨by decide,fun _=>by decide,fun _=>by decide⟩
 ·cases b<;>exact ⟨by decide,fun _=>by decide,fun _=>by decide⟩
theorem jt:∀ (r:Nat) (x:EJ),bi r x≠0→∃ a t,(az x).2=a::t∧eh (az x).1 a
 | 0,x,h=>absurd (by cases x;rfl) h
 |r+1,.mk k v s kids,h=>by
  obtain ⟨_,hk,hkids⟩:=bR h;unfold az;simp only;rcases j6 hk with ⟨rfl,hl,rfl,_⟩ | ⟨rfl,⟨rfl,hn,_⟩ | ⟨rfl,hn,hk1⟩ | ⟨rfl,rfl⟩ | ⟨h5,h7,rfl,hk1⟩ | ⟨h8,h15,rfl,hk2⟩⟩
  ·exact ⟨_,_,rfl,sB hl _⟩
  ·exact ⟨_,_,rfl,lm (by show ¬ ((1:Int)=5∨(1:Int)=2);decide) _⟩
  ·obtain ⟨y,rfl⟩:=List.length_eq_one_iff.1 hk1;obtain ⟨a,t,e,hf⟩:=iY (from_:=8) (jt r y (hkids y List.mem_cons_self));refine ⟨a,t++[ap [46],eq s],?_,hf⟩;rw [cD,cD];show a8 8 (az y)++[ap [46],eq s]=_
   rw [e];rfl
  ·exact ⟨_,_,rfl,by decide,fun _=>by decide,fun _=>by decide⟩
  ·obtain ⟨y,rfl⟩:=List.length_eq_one_iff.1 hk1;have h3:k=5∨k=6∨k=7:=by omega
   rw [cD,cD];rcases h3 with rfl | rfl | rfl
   ·exact ⟨_,_,rfl,by decide,fun h=>absurd h (by decide),fun h=>absurd h (by decide)⟩
   ·exact ⟨_,_,rfl,by decide,fun _=>by decide,fun h=>absurd h (by decide)⟩
   ·exact ⟨_,_,rfl,by decide,fun _=>by decide,fun h=>absurd h (by decide)⟩
  ·match kids,hk2 with
   |[y,z],_ =>
    obtain ⟨a,t,e,hf⟩:=iY (from_:=gT (aE k)) (jt r y (hkids y List.mem_cons_self));refine ⟨a,t++opK k::a8 (aE k+1) (az z),?_,hf.mono (by unfold gT;split<;>omega)⟩;rw [cD,cD,cD];unfold cn;rw [if_neg (by omega),if_neg (by omega),if_neg (by omega),if_neg (by omega)];simp only;rw [e];rfl
structure BK (T:List ak) (x:EJ):Prop where
 one:∀ p,At T p (az x).2→(az x).1=9→TkA T p x (p+(az x).2.length)
 two:∀ p,At T p (az x).2→(az x).1=3∨(az x).1=4∨(az x).1=7→dL T (az x).1 (p+(az x).2.length)→TkE T (az x).1 p x (p+(az x).2.length)
 three:∀ p,At T p (az x).2→(az x).1=1∨(az x).1=2∨(az x).1=5∨(az x).1=6→dL T ((az x).1+1) (p+(az x).2.length)→∀ y q',TkB T (az x).1 x (p+(az x).2.length) y q' →
  ∃ h q0,TkE T ((az x).1+1) p h q0∧TkB T (az x).1 h q0 y q'
 four:∀ p,At T p (az x).2→(az x).1=8→∀ y q',TkP T x (p+(az x).2.length) y q'→∃ h q0,TkA T p h q0∧TkP T h q0 y q'
theorem pa {T:List ak} {p l:Nat} {a:LX} {t:List LX} (h:At T p (a::t)) (hf:eh l a):(∀ m,m<l→m=3∨m=7→dx T m p=none)∧am T p [93]=false:=by
 have hr:=(At.cons.1 h).1;obtain ⟨k,t,n⟩:=a;have hs:∀ w,am T p w=qE (k,t,n) w:=fun w=>bc hr
 refine ⟨fun m hm h37=>?_,by rw [hs];exact hf.1⟩;rcases h37 with rfl | rfl
 ·unfold dx;refine iB fun x hx=>?_
  simp only [eu,List.mem_cons,List.not_mem_nil,or_false] at hx;subst hx;rw [hs];exact hf.2.1 hm
 ·unfold dx;refine iB fun x hx=>?_
  simp only [eu,List.mem_cons,List.not_mem_nil,or_false] at hx;rcases hx with rfl | rfl
  ·rw [hs];exact (hf.2.2 hm).1
  ·rw [hs];exact (hf.2.2 hm).2
section
variable {T:List ak} {x:EJ}
theorem BK.bare (hb:BK T x) {r:Nat} (hd:bi r x≠0) (hl:1≤(az x).1∧(az x).1≤9) {from_ p:Nat} (hf:from_≤(az x).1) (h8:from_≤8) (ha:At T p (az x).2) (hs:dL T from_ (p+(az x).2.length)):TkE T from_ p x (p+(az x).2.length):=by
 obtain ⟨a,t,e,hfo⟩:=jt r x hd;have hfirst:=(pa (e ▸ ha) hfo).1;have lift:∀ lvl,lvl≤8→lvl≤(az x).1→from_≤lvl→TkE T lvl p x (p+(az x).2.length)→TkE T from_ p x (p+(az x).2.length):=fun lvl h1 h2 h3 h4 =>
  TkE.lift (lvl-from_) from_ lvl (by omega) h1 h4 hs (fun l _ hl h37=>hfirst l (by omega) h37)
 have hc:(az x).1=9∨(az x).1=8∨((az x).1=3∨(az x).1=4∨(az x).1=7)∨((az x).1=1∨(az x).1=2∨(az x).1=5∨(az x).1=6):=by omega
 rcases hc with h | h | h | h
 ·exact lift 8 (Nat.le_refl _) (by omega) h8 (.path (hb.one p ha h) (.stop hs.2))
 ·obtain ⟨y,q0,h1,h2⟩:=hb.four p ha h x _ (.stop hs.2);exact lift 8 (Nat.le_refl _) (by omega) h8 (.path h1 h2)
 ·exact lift _ (by omega) (Nat.le_refl _) hf (hb.two p ha h (hs.mono hf))
 ·obtain ⟨y,q0,h1,h2⟩:=hb.three p ha h (hs.mono (by omega)) x _ (.stop (hs.1 _ hf (by omega) (by omega)));exact lift _ (by omega) (Nat.le_refl _) hf (.bin (by omega) (by omega) h1 h2)
theorem BK.brack (hb:BK T x) {r:Nat} (hd:bi r x≠0) (hl:1≤(az x).1∧(az x).1≤9) {p:Nat} (ha:At T p (ap [40]::((az x).2++[ap [41]]))):TkA T p x (p+(ap [40]::((az x).2++[ap [41]])).length):=by
 obtain ⟨h1,h2⟩:=At.cons.1 ha;obtain ⟨h3,h4⟩:=At.app.1 h2;have h5:=(At.cons.1 h4).1;have h6:=TkA.brack h1 (hb.bare hd hl (from_:=1) hl.1 (by omega) h3 (.of h5 (by decide) (by decide) 1)) (by rw [bc h5];decide);rw [List.length_cons,List.length_append];simpa only [List.length_cons,List.length_nil,Nat.add_assoc,Nat.add_comm 1] using h6
theorem BK.toE (hb:BK T x) {r:Nat} (hd:bi r x≠0) (hl:1≤(az x).1∧(az x).1≤9) {from_ p:Nat} (h8:from_≤8) (ha:At T p (ar from_ x)) (hs:dL T from_ (p+(ar from_ x).length)):TkE T from_ p x (p+(ar from_ x).length):=by
 unfold ar a8 at ha hs ⊢;by_cases h:(az x).1<from_
 ·rw [if_pos h] at ha hs ⊢;have h1:=(At.cons.1 ha).1;exact TkE.lift (8-from_) from_ 8 (by omega) (Nat.le_refl _) (.path (hb.brack hd hl ha) (.stop hs.2)) hs (fun l _ _ _=>rH h1 (.inr (by decide)) l)
 ·rw [if_neg h] at ha hs ⊢;exact hb.bare hd hl (by omega) h8 ha hs
theorem BK.toB (hb:BK T x) {r:Nat} (hd:bi r x≠0) (hl:1≤(az x).1∧(az x).1≤9) {L p:Nat} (hL:L=1∨L=2∨L=5∨L=6) (ha:At T p (ar L x)) (hs:dL T (L+1) (p+(ar L x).length)) {y:EJ} {q':Nat} (hy:TkB T L x (p+(ar L x).length) y q') :
  ∃ h q0,TkE T (L+1) p h q0∧TkB T L h q0 y q':=by
 by_cases h:(az x).1=L
 ·subst h;have e:ar (az x).1 x=(az x).2:=by unfold ar a8;rw [if_neg (Nat.lt_irrefl _)]
  rw [e] at ha hs hy;exact hb.three p ha hL hs y q' hy
 ·have e:ar L x=ar (L+1) x:=by
   unfold ar a8;by_cases h1:(az x).1<L
   ·rw [if_pos h1,if_pos (by omega)]
   ·rw [if_neg h1,if_neg (by omega)]
  rw [e] at ha hs hy;exact ⟨x,_,hb.toE hd hl (by omega) ha hs,hy⟩
theorem BK.toP (hb:BK T x) {r:Nat} (hd:bi r x≠0) (hl:1≤(az x).1∧(az x).1≤9) {p:Nat} (ha:At T p (ar 8 x)) {y:EJ} {q':Nat} (hy:TkP T x (p+(ar 8 x).length) y q'):∃ h q0,TkA T p h q0∧TkP T h q0 y q':=by
 unfold ar a8 at ha hy;by_cases h:(az x).1<8
 ·rw [if_pos h] at ha hy;exact ⟨x,_,hb.brack hd hl ha,hy⟩
 ·rw [if_neg h] at ha hy;by_cases h9:(az x).1=9
  ·exact ⟨x,_,hb.one p ha h9,hy⟩
  ·exact hb.four p ha (by omega) y q' hy
end
theorem vR (k:Int):1≤aE k∧aE k≤9:=by unfold aE;(repeat' split)<;>omega
theorem gA (k:Int) (v:JV) (s:List UInt8) (kids:List EJ):az (.mk k v s kids)=(aE k,cn k v s (kids.map az)):=by rw [az,iH]
theorem eJ (x:EJ):1≤(az x).1∧(az x).1≤9:=by cases x;unfold az;exact vR _
theorem BK.of {T:List ak} {x:EJ} {L:Nat} {body:List LX} (e:az x=(L,body)) (h1:L=9→∀ p,At T p body→TkA T p x (p+body.length)) (h2:L=3∨L=4∨L=7→∀ p,At T p body→dL T L (p+body.length)→TkE T L p x (p+body.length))
  (h3:L=1∨L=2∨L=5∨L=6→∀ p,At T p body→dL T (L+1) (p+body.length)→∀ y q',TkB T L x (p+body.length) y q'→∃ h q0,TkE T (L+1) p h q0∧TkB T L h q0 y q')
  (h4:L=8→∀ p,At T p body→∀ y q',TkP T x (p+body.length) y q'→∃ h q0,TkA T p h q0∧TkP T h q0 y q'):BK T x :=
 ⟨fun p ha hl=>by rw [e] at ha hl ⊢;exact h1 hl p ha,fun p ha hl hs=>by rw [e] at ha hl hs ⊢;exact h2 hl p ha hs,fun p ha hl hs y q' hy=>by rw [e] at ha hl hs hy ⊢;exact h3 hl p ha hs y q' hy,fun p ha hl y q' hy=>by rw [e] at ha hl hy;exact h4 hl p ha y q' hy⟩
theorem mT {T:List ak} {r:Nat}:∀ (kids:List EJ),kids≠[]→(∀ y ∈ kids,bi r y≠0∧BK T y)→∀ (acc:List EJ) (p:Nat),At T p (bd (kids.map fun y=>a8 1 (az y))++[ap [93]])→TkL T acc p (eOp 4 (acc++kids)) (p+(bd (kids.map fun y=>a8 1 (az y))).length+1)
 | [],h,_,_,_,_=>absurd rfl h
 |[y],_,hk,acc,p,ha=>by
  obtain ⟨hd,hb⟩:=hk y List.mem_cons_self;obtain ⟨h1,h2⟩:=At.app.1 ha;have h3:=(At.cons.1 h2).1;exact .last (hb.toE hd (eJ y) (by omega) h1 (.of h3 (by decide) (by decide) 1)) (by show am T (p+(ar 1 y).length) _=_;rw [bc (show rdT T (p+(ar 1 y).length)=(5,[93],0) from h3)];decide) (by show am T (p+(ar 1 y).length) _=_;rw [bc (show rdT T (p+(ar 1 y).length)=(5,[93],0) from h3)];decide)
 |y::z::l,_,hk,acc,p,ha=>by
  obtain ⟨hd,hb⟩:=hk y List.mem_cons_self;have e:bd ((y::z::l).map fun y=>a8 1 (az y))=ar 1 y++ap [44]::bd ((z::l).map fun y=>a8 1 (az y)):=rfl;rw [e] at ha ⊢;rw [List.append_assoc] at ha;obtain ⟨h1,h2⟩:=At.app.1 ha;obtain ⟨h3,h4⟩:=At.cons.1 h2;have h5:=mT (z::l) (by simp) (fun w hw=>hk w (List.mem_cons_of_mem _ hw)) (acc++[y]) _ h4;have h6:=TkL.more (hb.toE hd (eJ y) (by omega) h1 (.of h3 (by decide) (by decide) 1)) (by rw [bc h3];decide) h5;rw [List.append_assoc] at h6;rw [List.length_append,List.length_cons];have hq:p+((ar 1 y).length+((bd ((z::l).map fun y=>a8 1 (az y))).length+1))+1=p+(ar 1 y).length+1+(bd ((z::l).map fun y=>a8 1 (az y))).length+1:=by omega
  rw [hq];exact h6
theorem yo (T:List ak):∀ (r:Nat) (x:EJ),bi r x≠0→BK T x
 | 0,x,h=>absurd (by cases x;rfl) h
 |r+1,.mk k v s kids,h=>by
  obtain ⟨_,hk,hkids⟩:=bR h;have ih:∀ y ∈ kids,bi r y≠0∧BK T y:=fun y hy=>⟨hkids y hy,yo T r y (hkids y hy)⟩
  rcases j6 hk with ⟨rfl,hl,rfl,hk0⟩ | ⟨rfl,⟨rfl,hn,hk0⟩ | ⟨rfl,hn,hk1⟩ | ⟨rfl,rfl⟩ | ⟨h5,h7,rfl,hk1⟩ | ⟨h8,h15,rfl,hk2⟩⟩
  ·obtain rfl:=List.length_eq_zero_iff.1 hk0;exact .of (gA _ _ _ _) (fun _ p ha=>ue hl (At.cons.1 ha).1) (fun h=>absurd h (by decide)) (fun h=>absurd h (by decide)) (fun h=>absurd h (by decide))
  ·obtain rfl:=List.length_eq_zero_iff.1 hk0;refine .of (gA _ _ _ _) (fun _ p ha=>?_) (fun h=>absurd h (by decide)) (fun h=>absurd h (by decide)) (fun h=>absurd h (by decide));obtain ⟨h1,h2,_⟩:=il (show rdT T p=(1,s,0) from (At.cons.1 ha).1);exact .lit fun m=>by unfold bN;rw [if_pos h1,h2]
  ·obtain ⟨y,rfl⟩:=List.length_eq_one_iff.1 hk1;refine .of (gA _ _ _ _) (fun h=>absurd h (by decide)) (fun h=>absurd h (by decide)) (fun h=>absurd h (by decide)) (fun _ p ha z q' hz=>?_);obtain ⟨hd,hb⟩:=ih y List.mem_cons_self;have e:cn 3 cW s ([y].map az)=ar 8 y++[ap [46],eq s]:=rfl;rw [e] at ha hz;obtain ⟨h1,h2⟩:=At.app.1 ha;obtain ⟨h3,h4⟩:=At.cons.1 h2;obtain ⟨h5,h6,_⟩:=il (show rdT T (p+(ar 8 y).length+1)=(1,s,0) from (At.cons.1 h4).1);refine hb.toP hd (eJ y) h1 (.more (by rw [bc h3];decide) h5 ?_);rw [h6];rw [List.length_append] at hz;exact hz
  ·refine .of (gA _ _ _ _) (fun _ p ha=>?_) (fun h=>absurd h (by decide)) (fun h=>absurd h (by decide)) (fun h=>absurd h (by decide));have e:cn 4 cW [] (kids.map az)=ap [91]::(bd (kids.map fun y=>a8 1 (az y))++[ap [93]]):=by
    show ap [91]::(bd ((kids.map az).map (a8 1))++[ap [93]])=_
    rw [List.map_map];rfl
   rw [e] at ha ⊢;obtain ⟨h1,h2⟩:=At.cons.1 ha;cases kids with
   |nil =>
    have h3:=(At.cons.1 h2).1;exact .empty h1 (by rw [bc h3];decide)
   |cons y l =>
    have hf:am T (p+1) [93]=false:=by
     obtain ⟨a,t,e2,hfo⟩:=iY (from_:=1) (jt r y (ih y List.mem_cons_self).1);have e3:∃ t',bd ((y::l).map fun y=>a8 1 (az y))++[ap [93]]=a::t':=by
      cases l with
      | nil=>exact ⟨t++[ap [93]],by show a8 1 (az y)++[ap [93]]=_;rw [e2];rfl⟩
      | cons z l=>exact ⟨t++ap [44]::bd ((z::l).map fun y=>a8 1 (az y))++[ap [93]],by show a8 1 (az y)++ap [44]::bd ((z::l).map fun y=>a8 1 (az y))++[ap [93]]=_;rw [e2];rfl⟩
     obtain ⟨t',e3⟩:=e3;rw [e3] at h2;exact (pa h2 hfo).2
    have h3:=mT (y::l) (by simp) ih [] (p+1) h2;rw [List.length_cons,List.length_append];have hq:p+((bd ((y::l).map fun y=>a8 1 (az y))).length+[ap [93]].length+1)=p+1+(bd ((y::l).map fun y=>a8 1 (az y))).length+1:=by simp only [List.length_cons,List.length_nil];omega
    rw [hq];exact .list h1 hf h3
  ·obtain ⟨y,rfl⟩:=List.length_eq_one_iff.1 hk1;obtain ⟨hd,hb⟩:=ih y List.mem_cons_self;have hL:aE k=3∨aE k=7:=by
    have h3:k=5∨k=6∨k=7:=by omega
    rcases h3 with rfl | rfl | rfl<;>decide
   have e:cn k cW [] ([y].map az)=opK k::ar (aE k) y:=by
    unfold cn;rw [if_neg (by omega),if_neg (by omega),if_neg (by omega),if_neg (by omega)];rfl
   refine .of ((gA _ _ _ _).trans (by rw [e])) (fun h=>by omega) (fun _ p ha hs=>?_) (fun h=>by omega) (fun h=>by omega);obtain ⟨h1,h2⟩:=At.cons.1 ha;rw [List.length_cons,show p+((ar (aE k) y).length+1)=p+1+(ar (aE k) y).length by omega] at hs ⊢;exact .pre hL (oi ⟨h5,by omega⟩ h1).1 (hb.toE hd (eJ y) (by omega) h2 hs)
  ·match kids,hk2,ih with
   |[y,z],_,ih =>
    obtain ⟨hdy,hby⟩:=ih y List.mem_cons_self;obtain ⟨hdz,hbz⟩:=ih z (List.mem_cons_of_mem _ List.mem_cons_self);have hL:aE k=1∨aE k=2∨aE k=4∨aE k=5∨aE k=6:=by
     have h3:k=8∨k=9∨k=10∨k=11∨k=12∨k=13∨k=14∨k=15:=by omega
     rcases h3 with rfl | rfl | rfl | rfl | rfl | rfl | rfl | rfl<;>decide
    have e:cn k cW [] ([y,z].map az)=ar (gT (aE k)) y++opK k::ar (aE k+1) z:=by
     unfold cn;rw [if_neg (by omega),if_neg (by omega),if_neg (by omega),if_neg (by omega)];rfl
    refine .of ((gA _ _ _ _).trans (by rw [e])) (fun h=>by omega) (fun h4 p ha hs=>?_) (fun h4 p ha hs w q' hw=>?_) (fun h=>by omega)
    ·have hL4:aE k=4:=by omega
     rw [hL4] at ha hs ⊢;obtain ⟨h1,h2⟩:=At.app.1 ha;obtain ⟨h3,h6⟩:=At.cons.1 h2;have ho:=oi ⟨by omega,h15⟩ h3;rw [hL4] at ho;rw [List.length_append,List.length_cons,show ∀ a b:Nat,p+(a+(b+1))=p+a+1+b from fun a b=>by omega] at hs ⊢;exact .bin (by omega) (by omega) (hby.toE hdy (eJ y) (by decide) h1 (.op ⟨by omega,h15⟩ h3 (by rw [hL4];decide))) (.once ho.1 (hbz.toE hdz (eJ z) (by omega) h6 (hs.mono (by omega))))
    ·have hne:aE k≠4:=by omega
     have hf:gT (aE k)=aE k:=if_neg hne;rw [hf] at ha hs hw;obtain ⟨h1,h2⟩:=At.app.1 ha;obtain ⟨h3,h6⟩:=At.cons.1 h2;have ho:=oi ⟨by omega,h15⟩ h3;rw [List.length_append,List.length_cons,show ∀ a b:Nat,p+(a+(b+1))=p+a+1+b from fun a b=>by omega] at hs hw;exact hby.toB hdy (eJ y) h4 h1 (.op ⟨by omega,h15⟩ h3 (by omega)) (.more hne ho.1 (hbz.toE hdz (eJ z) (by omega) h6 hs) hw)
theorem gg {T:List ak} {r:Nat} {x:EJ} (h:bi r x≠0) {p:Nat} (ha:At T p (ar 1 x)) (hs:dL T 1 (p+(ar 1 x).length)):TkE T 1 p x (p+(ar 1 x).length):=(yo T r x h).toE h (eJ x) (by omega) ha hs
section
variable {T:List ak}
theorem oy (hT:WT T):∀ (n:Nat),(∀ acc p,p<T.length→12*(T.length-p)+1≤n→bK T (n+1) acc p=bK T n acc p)∧(∀ p,p<T.length→12*(T.length-p)+1≤n→bW T (n+1) p=bW T n p)
 | 0=>⟨fun acc p hp h=>by omega,fun p hp h=>by omega⟩
 |n+1=>by
  obtain ⟨hS,hK⟩:=oy hT n;have hE:=(ic hT n).1;have hI:=fun p hp=>dS hT n 1 p hp
  have hIK:=(qY hT n).2;have hIS:=(qY hT n).1;refine ⟨fun acc p hp h=>?_,fun p hp h=>?_⟩
  ·conv=>lhs;unfold bK
   conv=>rhs;unfold bK
   split
   ·rename_i hs
    have h0:=hT.next hp (av hs);have h1:=hI (p+1) h0;rw [hE 1 (p+1) (by omega) h0 (by omega)];cases hx:aH T n 1 (p+1) with
    | bad q=>rfl
    |ok a q =>
     rw [hx] at h1;simp only;split
     ·rename_i hs2
      have h2:=hT.next h1.2 (av hs2);have h3:=hI (q+1) h2;rw [hE 1 (q+1) (by omega) h2 (by have:=h1.1;omega)];cases hy:aH T n 1 (q+1) with
      | bad r=>rfl
      |ok b r =>
       rw [hy] at h3;simp only;split
       ·rename_i hs3;exact hS _ (r+1) (hT.next h3.2 (av hs3)) (by have:=h1.1;have:=h3.1;omega)
       ·rfl
     ·rfl
   split
   ·rename_i hs
    have h0:=hT.next hp (av hs);have h1:=hI (p+1) h0;rw [hE 1 (p+1) (by omega) h0 (by omega)];cases hx:aH T n 1 (p+1) with
    | bad q=>rfl
    |ok a q =>
     rw [hx] at h1;simp only;rw [hK q h1.2 (by have:=h1.1;omega)];have h2:=hIK q h1.2;cases hy:bW T n q with
     | bad r=>rfl
     |ok body r =>
      rw [hy] at h2;simp only;split
      ·rename_i hs3
       have h4:=hT.next h2.2 (av hs3);rw [hK (r+1) h4 (by have:=h1.1;have:=h2.1;omega)];have h5:=hIK (r+1) h4;cases hz:bW T n (r+1) with
       | bad u=>rfl
       | ok els u=>rw [hz] at h5;exact hS _ u h5.2 (by have:=h1.1;have:=h2.1;have:=h5.1;omega)
      ·exact hS _ r h2.2 (by have:=h1.1;have:=h2.1;omega)
   split
   ·rename_i hs
    have h0:=hT.next hp (av hs);split
    ·rename_i hk
     have h9:=hT.next h0 (by omega);split
     ·rename_i hs2
      have h8:=hT.next h9 (av hs2);have h1:=hI (p+3) h8;rw [hE 1 (p+3) (by omega) h8 (by omega)];cases hx:aH T n 1 (p+3) with
      | bad q=>rfl
      |ok a q =>
       rw [hx] at h1;simp only;rw [hK q h1.2 (by have:=h1.1;omega)];have h2:=hIK q h1.2;cases hy:bW T n q with
       | bad r=>rfl
       | ok body r=>rw [hy] at h2;exact hS _ r h2.2 (by have:=h1.1;have:=h2.1;omega)
     ·rfl
    ·rfl
   ·rfl
  ·conv=>lhs;unfold bW
   conv=>rhs;unfold bW
   split
   ·rename_i hs
    have h0:=hT.next hp (av hs);rw [hS [] (p+1) h0 (by omega)]
   ·rfl
theorem pD (hT:WT T) {acc:List SJ} {p:Nat} (hp:p<T.length):∀ {n m:Nat},12*(T.length-p)+1≤n→n≤m→bK T m acc p=bK T n acc p:=by
 intro n m h hm
 induction m with
 |zero =>
  obtain rfl:n=0:=by omega
  rfl
 |succ m ih =>
  rcases Nat.lt_or_ge m n with h1 | h1
  ·obtain rfl:n=m+1:=by omega
   rfl
  ·rw [(oy hT m).1 acc p hp (by omega),ih h1]
def TkS (T:List ak) (acc:List SJ) (p:Nat) (l:List SJ) (q:Nat):Prop:=∃ N,∀ n,N≤n→bK T n acc p=.ok l q
def TkK (T:List ak) (p:Nat) (l:List SJ) (q:Nat):Prop:=∃ N,∀ n,N≤n→bW T n p=.ok l q
theorem TkS.stop {acc:List SJ} {p:Nat} (h1:am T p dv=false) (h2:am T p wIf=false) (h3:am T p fj=false):TkS T acc p acc p:=by
 refine ⟨1,fun n hn=>?_⟩;obtain ⟨m,rfl⟩:∃ m,n=m+1:=⟨n-1,by omega⟩
 unfold bK;rw [if_neg (by rw [h1];decide),if_neg (by rw [h2];decide),if_neg (by rw [h3];decide)]
theorem TkS.emit {acc:List SJ} {p:Nat} {a b:EJ} {q r u:Nat} {l:List SJ} (hr:rdT T p=aS dv) (ha:TkE T 1 (p+1) a q) (h1:rdT T q=ap [44]) (hb:TkE T 1 (q+1) b r) (h2:rdT T r=ap [59]) (hl:TkS T (acc++[.mk 1 [] a b [] []]) (r+1) l u):TkS T acc p l u:=by
 obtain ⟨N1,hN1⟩:=ha;obtain ⟨N2,hN2⟩:=hb;obtain ⟨N3,hN3⟩:=hl;refine ⟨N1+N2+N3+1,fun n hn=>?_⟩;obtain ⟨m,rfl⟩:∃ m,n=m+1:=⟨n-1,by omega⟩
 unfold bK;rw [if_pos (by rw [bc hr];decide),hN1 m (by omega)];simp only;rw [if_pos (by rw [bc h1];decide),hN2 m (by omega)];simp only;rw [if_pos (by rw [bc h2];decide),hN3 m (by omega)]
theorem TkS.if0 {acc:List SJ} {p:Nat} {a:EJ} {q r u:Nat} {body l:List SJ} (hr:rdT T p=aS wIf) (ha:TkE T 1 (p+1) a q) (hb:TkK T q body r) (h2:am T r cS=false) (hl:TkS T (acc++[.mk 2 [] a aZ body []]) r l u):TkS T acc p l u:=by
 obtain ⟨N1,hN1⟩:=ha;obtain ⟨N2,hN2⟩:=hb;obtain ⟨N3,hN3⟩:=hl;refine ⟨N1+N2+N3+1,fun n hn=>?_⟩;obtain ⟨m,rfl⟩:∃ m,n=m+1:=⟨n-1,by omega⟩
 unfold bK;rw [if_neg (by rw [bc hr];decide),if_pos (by rw [bc hr];decide),hN1 m (by omega)];simp only;rw [hN2 m (by omega)];simp only;rw [if_neg (by rw [h2];decide),hN3 m (by omega)]
theorem TkS.if1 {acc:List SJ} {p:Nat} {a:EJ} {q r t u:Nat} {body els l:List SJ} (hr:rdT T p=aS wIf) (ha:TkE T 1 (p+1) a q) (hb:TkK T q body r) (h2:rdT T r=aS cS) (he:TkK T (r+1) els t) (hl:TkS T (acc++[.mk 2 [] a aZ body els]) t l u):TkS T acc p l u:=by
 obtain ⟨N1,hN1⟩:=ha;obtain ⟨N2,hN2⟩:=hb;obtain ⟨N3,hN3⟩:=hl;obtain ⟨N4,hN4⟩:=he;refine ⟨N1+N2+N3+N4+1,fun n hn=>?_⟩;obtain ⟨m,rfl⟩:∃ m,n=m+1:=⟨n-1,by omega⟩
 unfold bK;rw [if_neg (by rw [bc hr];decide),if_pos (by rw [bc hr];decide),hN1 m (by omega)];simp only;rw [hN2 m (by omega)];simp only;rw [if_pos (by rw [bc h2];decide),hN4 m (by omega)];simp only;rw [hN3 m (by omega)]
theorem TkS.for_ {acc:List SJ} {p:Nat} {s:List UInt8} {a:EJ} {q r u:Nat} {body l:List SJ} (hr:rdT T p=aS fj) (h1:rdT T (p+1)=eq s) (h2:rdT T (p+2)=aS wIn) (ha:TkE T 1 (p+3) a q) (hb:TkK T q body r) (hl:TkS T (acc++[.mk 3 s a aZ body []]) r l u):TkS T acc p l u:=by
 obtain ⟨N1,hN1⟩:=ha;obtain ⟨N2,hN2⟩:=hb;obtain ⟨N3,hN3⟩:=hl;refine ⟨N1+N2+N3+1,fun n hn=>?_⟩;obtain ⟨m,rfl⟩:∃ m,n=m+1:=⟨n-1,by omega⟩
 obtain ⟨h3,h4,_⟩:=il (show rdT T (p+1)=(1,s,0) from h1);unfold bK;rw [if_neg (by rw [bc hr];decide),if_neg (by rw [bc hr];decide),if_pos (by rw [bc hr];decide),if_pos h3,if_pos (by rw [bc h2];decide),hN1 m (by omega)];simp only;rw [hN2 m (by omega)];simp only;rw [h4,hN3 m (by omega)]
theorem TkK.block {p:Nat} {l:List SJ} {q:Nat} (h1:rdT T p=ap [123]) (hl:TkS T [] (p+1) l q) (h2:rdT T q=ap [125]):TkK T p l (q+1):=by
 obtain ⟨N,hN⟩:=hl;refine ⟨N+1,fun n hn=>?_⟩;obtain ⟨m,rfl⟩:∃ m,n=m+1:=⟨n-1,by omega⟩
 unfold bW;rw [if_pos (by rw [bc h1];decide),hN m (by omega)];simp only;rw [if_pos (by rw [bc h2];decide)]
def rr (T:List ak) (q:Nat):Prop:=am T q dv=false∧am T q wIf=false∧am T q fj=false∧am T q cS=false
theorem rr.of {q:Nat} {k:Int} {t:List UInt8} {n:Int} (h:rdT T q=(k,t,n)) (ht:t≠dv∧t≠wIf∧t≠fj∧t≠cS):rr T q:=by
 refine ⟨?_,?_,?_,?_⟩<;>rw [bc h,decide_eq_false_iff_not]
 ·exact fun e=>ht.1 e.2
 ·exact fun e=>ht.2.1 e.2
 ·exact fun e=>ht.2.2.1 e.2
 ·exact fun e=>ht.2.2.2 e.2
end
theorem oN {b:EJ} (h:fF b=true):b=aZ:=by
 obtain ⟨k,v,s,kids⟩:=b;unfold fF at h;rw [Bool.and_eq_true,decide_eq_true_eq] at h;obtain ⟨⟨rfl,rfl,h3⟩,h4⟩:=h;obtain rfl:=List.length_eq_zero_iff.1 h3;rw [qh h4];rfl
theorem qx {T:List ak} {p:Nat} (x:SJ) {r:List LX} (h:At T p (dn x++r)):am T p cS=false:=by
 obtain ⟨k,s,a,b,body,els⟩:=x;unfold dn at h;by_cases h1:k=1
 ·rw [if_pos h1] at h;rw [bc (show rdT T p=(2,dv,0) from (At.cons.1 h).1)];decide
 ·rw [if_neg h1] at h;by_cases h3:k=3
  ·rw [if_pos h3] at h;rw [bc (show rdT T p=(2,fj,0) from (At.cons.1 h).1)];decide
  ·rw [if_neg h3] at h;rw [bc (show rdT T p=(2,wIf,0) from (At.cons.1 h).1)];decide
def wU (T:List ak) (d:Nat):Prop:=∀ l:List SJ,cF d l=true→∀ p,At T p (ap [123]::(aq l++[ap [125]]))→TkK T p l (p+(aq l).length+2)
theorem ij {T:List ak} {d:Nat} (ih:d≠0→wU T (d-1)):∀ l:List SJ,cF d l=true→∀ acc p,At T p (aq l)→rr T (p+(aq l).length)→TkS T acc p (acc++l) (p+(aq l).length)
 |[],_,acc,p,_,hs=>by
  rw [List.append_nil];unfold aq at hs ⊢;exact .stop hs.1 hs.2.1 hs.2.2.1
 | .mk k s a b body els::l,hm,acc,p,ha,hs=>by
  unfold cF at hm;rw [Bool.and_eq_true] at hm;obtain ⟨hx,hl⟩:=hm;unfold kH at hx;rw [Bool.and_eq_true,Bool.and_eq_true,decide_eq_true_eq,decide_eq_true_eq] at hx;obtain ⟨hd,hfa,hk⟩:=hx;have hK:=ih hd;unfold aq at ha hs ⊢;obtain ⟨hA,hL⟩:=At.app.1 ha;rw [List.length_append,← Nat.add_assoc] at hs ⊢;have hrest:=fun acc=>ij ih l hl acc _ hL hs
  have hel:am T (p+(dn (.mk k s a b body els)).length) cS=false:=by
   cases l with
   | nil=>unfold aq at hs;exact hs.2.2.2
   | cons y r=>exact qx y (r:=aq r) (by rw [aq] at hL;exact hL)
  have happ:∀ z:SJ,acc++z::l=(acc++[z])++l:=fun z=>by rw [List.append_assoc];rfl
  by_cases h1:k=1
  ·subst h1;rw [if_pos rfl,Bool.and_eq_true,decide_eq_true_eq,decide_eq_true_eq] at hk;obtain ⟨hfb,rfl,hlen⟩:=hk;obtain rfl:body=[]:=List.length_eq_zero_iff.1 (by omega);obtain rfl:els=[]:=List.length_eq_zero_iff.1 (by omega);have e:dn (.mk 1 [] a b [] [])=aS dv::(ar 1 a++ap [44]::(ar 1 b++[ap [59]])):=by unfold dn;rw [if_pos rfl]
   have hn:(dn (.mk 1 [] a b [] [])).length=1+(ar 1 a).length+1+(ar 1 b).length+1:=by rw [e];simp only [List.length_cons,List.length_append,List.length_nil];omega
   rw [e] at hA;obtain ⟨g1,g2⟩:=At.cons.1 hA;obtain ⟨g3,g4⟩:=At.app.1 g2;obtain ⟨g5,g6⟩:=At.cons.1 g4;obtain ⟨g7,g8⟩:=At.app.1 g6;have g9:=(At.cons.1 g8).1;rw [happ];refine .emit g1 (gg hfa g3 (.of g5 (by decide) (by decide) 1)) g5 (gg hfb g7 (.of g9 (by decide) (by decide) 1)) g9 ?_;have:=hrest (acc++[.mk 1 [] a b [] []]);rwa [hn,show p+(1+(ar 1 a).length+1+(ar 1 b).length+1)=p+1+(ar 1 a).length+1+(ar 1 b).length+1 by omega] at this ⊢
  rw [if_neg h1] at hk;by_cases h2:k=2
  ·subst h2;rw [if_pos rfl,Bool.and_eq_true,Bool.and_eq_true,Bool.and_eq_true,decide_eq_true_eq] at hk;obtain ⟨hb,rfl,hmb,hme⟩:=hk;obtain rfl:=oN hb;rw [happ];by_cases he:els=[]
   ·subst he;have e:dn (.mk 2 [] a aZ body [])=aS wIf::(ar 1 a++(ap [123]::(aq body++[ap [125]]))):=by unfold dn;rw [if_neg (by decide),if_neg (by decide)];simp
    have hn:(dn (.mk 2 [] a aZ body [])).length=1+(ar 1 a).length+(aq body).length+2:=by rw [e];simp only [List.length_cons,List.length_append,List.length_nil];omega
    rw [e] at hA;obtain ⟨g1,g2⟩:=At.cons.1 hA;obtain ⟨g3,g4⟩:=At.app.1 g2;have g5:=(At.cons.1 g4).1;have h9:=hrest (acc++[.mk 2 [] a aZ body []]);rw [hn,show p+(1+(ar 1 a).length+(aq body).length+2)=p+1+(ar 1 a).length+(aq body).length+2 by omega] at h9 hel;rw [hn,show p+(1+(ar 1 a).length+(aq body).length+2)=p+1+(ar 1 a).length+(aq body).length+2 by omega];exact .if0 g1 (gg hfa g3 (.of g5 (by decide) (by decide) 1)) (hK body hmb _ g4) hel h9
   ·have hlen:els.length≠0:=fun h=>he (List.length_eq_zero_iff.1 h)
    have e:dn (.mk 2 [] a aZ body els)=aS wIf::(ar 1 a++((ap [123]::(aq body++[ap [125]]))++aS cS::(ap [123]::(aq els++[ap [125]])))):=by
     unfold dn;rw [if_neg (by decide),if_neg (by decide),if_neg hlen];simp
    have hn:(dn (.mk 2 [] a aZ body els)).length=1+(ar 1 a).length+(aq body).length+2+1+(aq els).length+2:=by rw [e];simp only [List.length_cons,List.length_append,List.length_nil];omega
    rw [e] at hA;obtain ⟨g1,g2⟩:=At.cons.1 hA;obtain ⟨g3,g4⟩:=At.app.1 g2;obtain ⟨g5,g6⟩:=At.app.1 g4;have g7:=(At.cons.1 g5).1;rw [show p+1+(ar 1 a).length+(ap [123]::(aq body++[ap [125]])).length=p+1+(ar 1 a).length+(aq body).length+2 by simp only [List.length_cons,List.length_append,List.length_nil];omega] at g6;obtain ⟨g8,g9⟩:=At.cons.1 g6;have h9:=hrest (acc++[.mk 2 [] a aZ body els]);rw [hn,show p+(1+(ar 1 a).length+(aq body).length+2+1+(aq els).length+2)=p+1+(ar 1 a).length+(aq body).length+2+1+(aq els).length+2 by omega] at h9;rw [hn,show p+(1+(ar 1 a).length+(aq body).length+2+1+(aq els).length+2)=p+1+(ar 1 a).length+(aq body).length+2+1+(aq els).length+2 by omega];exact .if1 g1 (gg hfa g3 (.of g7 (by decide) (by decide) 1)) (hK body hmb _ g5) g8 (hK els hme _ g9) h9
  rw [if_neg h2] at hk;by_cases h3:k=3
  ·subst h3;rw [if_pos rfl,Bool.and_eq_true,Bool.and_eq_true,Bool.and_eq_true,decide_eq_true_eq] at hk;obtain ⟨hb,hn0,hmb,hle⟩:=hk;obtain rfl:=oN hb;obtain rfl:=List.length_eq_zero_iff.1 hle;rw [happ];have e:dn (.mk 3 s a aZ body [])=aS fj::eq s::aS wIn::(ar 1 a++(ap [123]::(aq body++[ap [125]]))):=by unfold dn;rw [if_neg (by decide),if_pos rfl];simp
   have hn:(dn (.mk 3 s a aZ body [])).length=3+(ar 1 a).length+(aq body).length+2:=by rw [e];simp only [List.length_cons,List.length_append,List.length_nil];omega
   rw [e] at hA;obtain ⟨g1,g2⟩:=At.cons.1 hA;obtain ⟨g3,g4⟩:=At.cons.1 g2;obtain ⟨g5,g6⟩:=At.cons.1 g4;obtain ⟨g7,g8⟩:=At.app.1 g6;have g9:=(At.cons.1 g8).1;have h9:=hrest (acc++[.mk 3 s a aZ body []]);rw [hn,show p+(3+(ar 1 a).length+(aq body).length+2)=p+1+1+1+(ar 1 a).length+(aq body).length+2 by omega] at h9;rw [hn,show p+(3+(ar 1 a).length+(aq body).length+2)=p+1+1+1+(ar 1 a).length+(aq body).length+2 by omega];exact .for_ g1 g3 g5 (gg hfa g7 (.of g9 (by decide) (by decide) 1)) (hK body hmb _ g8) h9
  ·rw [if_neg h3] at hk;cases hk
theorem kU (T:List ak):∀ d,wU T d
 |d=>by
  intro l hl p ha;have ih:d≠0→wU T (d-1):=fun h=>kU T (d-1)
  obtain ⟨h1,h2⟩:=At.cons.1 ha;obtain ⟨h3,h4⟩:=At.app.1 h2;have h5:=(At.cons.1 h4).1;have h6:=TkK.block h1 (ij ih l hl [] _ h3 (.of h5 (by decide))) h5;rw [show p+1+(aq l).length+1=p+(aq l).length+2 by omega] at h6;exact h6
termination_by d=>d
decreasing_by omega
theorem rg {T:List ak} {d:Nat} {l:List SJ} (hl:cF d l=true) {p:Nat} (ha:At T p (aq l)) (hs:rr T (p+(aq l).length)):TkS T [] p l (p+(aq l).length):=ij (fun _=>kU T (d-1)) l hl [] p ha hs
theorem sJ {T:List ak} (hT:WT T) {d:Nat} {l:List SJ} (hl:cF d l=true) (ha:At T 0 (aq l)) (he:T.length=(aq l).length+1):gG T=.ok l (aq l).length:=by
 obtain ⟨m,hm,h6⟩:=hT.last;have hlen:m=(aq l).length:=by omega
 subst hlen;have hno:∀ w,am T (aq l).length w=false:=fun w=>by unfold am;rw [h6,decide_eq_false_iff_not];omega
 have h:=rg hl ha (by rw [Nat.zero_add];exact ⟨hno _,hno _,hno _,hno _⟩);obtain ⟨N,hN⟩:=h;have h1:=hN (max (m9 T) N) (Nat.le_max_right _ _);rw [pD hT (by omega) (n:=m9 T) (by unfold m9;omega) (Nat.le_max_left _ _),Nat.zero_add] at h1;unfold gG;rw [h1];simp only;rw [if_pos h6]
end
end Go.Proofs.YtgmnmnnoahdjnaaGreatDoor
