import Derived.Test.YtgmnmnnoahdjnaaGreatDoorQ20
import Derived.Test.YtgmnmnnoahdjnaaGreatDoorQ21
import Derived.Test.YtgmnmnnoahdjnaaGreatDoorQ23
set_option maxRecDepth 100000
set_option maxHeartbeats 16000000
set_option linter.unusedVariables false
set_option linter.unusedSimpArgs false
namespace Go.Proofs.YtgmnmnnoahdjnaaGreatDoor
section
abbrev LX:=Int × List UInt8 × Int
def aA (s:List UInt8):LX:=(5,s,0)
def bv (s:List UInt8):LX:=(2,s,0)
def eW (s:List UInt8):LX:=(1,s,0)
def aF (x:LX):List UInt8:=if x.1=4 then jB x.2.1 else x.2.1
def ay (k:Int):Nat :=
 if k=15 then 1 else if k=14 then 2 else if k=5 then 3 else if k=11∨k=12∨k=13 then 4 else if k=9∨k=10 then 5 else if k=8 then 6 else if k=6∨k=7 then 7 else if k=3 then 8 else 9
def opK (k:Int):LX :=
 if k=15 then bv [111,114] else if k=14 then bv [97,110,100] else if k=5 then bv [110,111,116] else if k=11 then aA [61,61] else if k=12 then aA [60] else if k=13 then aA [60,61]
 else if k=9 then aA [43] else if k=10 then aA [45] else if k=8 then aA [42] else if k=6 then bv [115,105,122,101] else bv [107,105,110,100]
def fI (v:JV):LX :=
 if v.kind=3 then (3,cQ v.num,v.num) else if v.kind=4 then (4,v.txt,0) else if v.kind=1 then bv pX else if v.num=1 then bv kj else bv gX
def cU (from_:Nat) (x:Nat × List LX):List LX:=if x.1<from_ then aA [40]::(x.2++[aA [41]]) else x.2
def cm:List (List LX)->List LX
 | []=>[]
 | [a]=>a
 | a::b::r=>a++aA [44]::cm (b::r)
def gP (l:Nat):Nat:=if l=4 then 5 else l
def bK (k:Int) (v:JV) (s:List UInt8) (ks:List (Nat × List LX)):List LX :=
 if k=1 then [fI v]
 else if k=2 then [eW s]
 else if k=3 then cU 8 (ks.headD (9,[]))++[aA [46],eW s]
 else if k=4 then aA [91]::(cm (ks.map (cU 1))++[aA [93]])
 else match ks with
  | [a]=>opK k::cU (ay k) a
  | [a,b]=>cU (gP (ay k)) a++opK k::cU (ay k+1) b
  | _=>[]
mutual
/-- an expression's level and tokens -/
def bM:EJ->Nat × List LX | .mk k v s kids=>(ay k,bK k v s (bR kids))
def bR:List EJ->List (Nat × List LX) | []=>[] | x::r=>bM x::bR r
end
def az (from_:Nat) (x:EJ):List LX:=cU from_ (bM x)
theorem gH:∀ l:List EJ,bR l=l.map bM
 | []=>by unfold bR;rfl
 | x::r=>by unfold bR;rw [gH r];rfl
mutual
/-- the tokens of a statement -/
def dy:SJ->List LX
 | .mk k s a b body els =>
  if k=1 then bv d8::(az 1 a++aA [44]::(az 1 b++[aA [59]]))
  else (if k=3 then [bv gM,eW s,bv wIn] else [bv wIf])++(az 1 a++aA [123]::(aw body++aA [125]::(if els.length=0 then [] else bv dE::aA [123]::(aw els++[aA [125]]))))
def aw:List SJ->List LX | []=>[] | x::r=>dy x++aw r
end
theorem gI:∀ l m:List SJ,aw (l++m)=aw l++aw m
 | [],m=>by show aw m=_;rw [aw];rfl
 | x::r,m=>by show aw (x::(r++m))=_;rw [aw,aw,gI r m,List.append_assoc]
def bE (c:UInt8):Bool:=aL c || bc c
def nL (was t:List UInt8):Bool:=(bE (was.getLastD 0) && bE (t.headD 0)) || (bc (was.headD 0) && t == [46])
def dh (was:List UInt8):List (List UInt8)->List UInt8
 | []=>[]
 | t::r=>(if nL was t=true then 32::t else t)++dh t r
def dm:List (List UInt8)->List UInt8
 | []=>[]
 | t::r=>t++dh t r
theorem gT (was:List UInt8):∀ (l m:List (List UInt8)),dh was (l++m)=dh was l++dh (l.getLastD was) m
 | [],m=>rfl
 |t::r,m=>by
  show (if nL was t=true then 32::t else t)++dh t (r++m)=_
  rw [gT t r m,← List.append_assoc];congr 2;cases r with
  | nil=>rfl
  | cons a r=>simp [List.getLastD]
def fB (l:List SJ):List UInt8:=dm ((aw l).map aF)
def rdT (T:List aq) (p:Nat):LX:=(tkK T p,tkT T p,tkN T p)
def At (T:List aq) (p:Nat) (l:List LX):Prop:=∀ i x,l[i]? = some x->rdT T (p+i)=x
theorem At.app {T:List aq} {p:Nat} {a b:List LX}:At T p (a++b) ↔ At T p a/\At T (p+a.length) b:=by
 constructor
 ·intro h;refine ⟨λ i x hx=>h i x ?_,λ i x hx=>?_⟩
  ·rw [List.getElem?_append_left (List.getElem?_eq_some_iff.1 hx).1];exact hx
  ·rw [Nat.add_assoc];refine h (a.length+i) x ?_;rw [List.getElem?_append_right (by omega),Nat.add_sub_cancel_left];exact hx
 ·rintro ⟨h1,h2⟩ i x hx;rcases Nat.lt_or_ge i a.length with hi | hi
  ·rw [List.getElem?_append_left hi] at hx;exact h1 i x hx
  ·rw [List.getElem?_append_right hi] at hx;have:=h2 (i-a.length) x hx;rwa [show p+a.length+(i-a.length)=p+i by omega] at this
theorem At.cons {T:List aq} {p:Nat} {x:LX} {b:List LX}:At T p (x::b) ↔ rdT T p=x/\At T (p+1) b:=by
 constructor
 ·intro h;refine ⟨h 0 x rfl,λ i y hy=>?_⟩;have:=h (i+1) y (by simpa using hy);rwa [show p+(i+1)=p+1+i by omega] at this
 ·rintro ⟨h1,h2⟩ i y hy;cases i with
  |zero =>
   have:x=y:=by simpa using hy
   rw [← this];exact h1
  |succ i =>
   have:=h2 i y (by simpa using hy);rwa [show p+1+i=p+(i+1) by omega] at this
theorem At.nil {T:List aq} {p:Nat}:At T p []:=λ i x h=>by simp at h
theorem nd {T:List aq} {p:Nat} {k:Int} {t w:List UInt8} {n:Int} (h:rdT T p=(k,t,n)):au T p w=decide ((k=5∨k=2)/\t=w):=by
 unfold rdT at h;injection h with h1 h2
 injection h2 with h2 h3
 unfold au;rw [h1,h2]
theorem pH {T:List aq} {p:Nat} {k:Int} {t:List UInt8} {n:Int} (h:rdT T p=(k,t,n)) (hk:k=5∨k=2):∀ l:List (List UInt8 × Int),gc T p l=(l.find? (λ x=>decide (t=x.1))).map (·.2)
 | []=>rfl
 |x::r=>by
  unfold gc;rw [nd h,pH h hk r,List.find?_cons];by_cases e:t=x.1<;>simp [e,hk]
section
variable {T:List aq}
theorem iE (hT:WT T):∀ (n:Nat),(∀ lvl p,lvl<=8->p<T.length->12*(T.length-p)+(10-lvl)<=n->aP T (n+1) lvl p=aP T n lvl p)/\(∀ lvl x p,lvl<=7->p<T.length->12*(T.length-p)+11<=n->iD T (n+1) lvl x p=iD T n lvl x p) /\
  (∀ x p,p<T.length->12*(T.length-p)+1<=n->eJ T (n+1) x p=eJ T n x p)/\(∀ p,p<T.length->12*(T.length-p)+1<=n->de T (n+1) p=de T n p)/\(∀ acc p,p<T.length->12*(T.length-p)+11<=n->eI T (n+1) acc p=eI T n acc p)
 | 0=>⟨λ lvl p h1 hp h=>by omega,λ lvl x p h1 hp h=>by omega,λ x p hp h=>by omega,λ p hp h=>by omega,λ acc p hp h=>by omega⟩
 |n+1=>by
  obtain ⟨hE,hB,hP,hA,hL⟩:=iE hT n;refine ⟨λ lvl p hl hp h=>?_,λ lvl x p hl hp h=>?_,λ x p hp h=>?_,λ p hp h=>?_,λ acc p hp h=>?_⟩
  ·conv=>lhs;unfold aP
   conv=>rhs;unfold aP
   by_cases h37:lvl=3∨lvl=7
   ·rw [if_pos h37,if_pos h37];cases ho:ez T lvl p with
    | none=>exact hE (lvl+1) p (by omega) hp (by omega)
    | some k=>simp only;rw [hE lvl (p+1) hl (hT.next hp (fy ho)) (by omega)]
   ·rw [if_neg h37,if_neg h37];by_cases h8:8<=lvl
    ·rw [if_pos h8,if_pos h8,hA p hp (by omega)];have h1:=(nO hT n).2.2.2.1 p hp;cases hx:de T n p with
     | bad q=>rfl
     | ok x q=>rw [hx] at h1;exact hP x q h1.2 (by have:=h1.1;omega)
    ·rw [if_neg h8,if_neg h8,hE (lvl+1) p (by omega) hp (by omega)];have h1:=(nO hT n).1 (lvl+1) p hp;cases hx:aP T n (lvl+1) p with
     | bad q=>rfl
     | ok x q=>rw [hx] at h1;exact hB lvl x q (by omega) h1.2 (by have:=h1.1;omega)
  ·conv=>lhs;unfold iD
   conv=>rhs;unfold iD
   cases ho:ez T lvl p with
   | none=>rfl
   |some k =>
    have h0:=hT.next hp (fy ho);simp only;rw [hE (lvl+1) (p+1) (by omega) h0 (by omega)];have h1:=(nO hT n).1 (lvl+1) (p+1) h0;cases hx:aP T n (lvl+1) (p+1) with
    | bad q=>rfl
    |ok y q =>
     rw [hx] at h1;simp only;split
     ·rfl
     ·exact hB lvl _ q hl h1.2 (by have:=h1.1;omega)
  ·conv=>lhs;unfold eJ
   conv=>rhs;unfold eJ
   by_cases hs:au T p [46]=true
   ·rw [if_pos hs,if_pos hs];have h0:=hT.next hp (av hs);by_cases hk:tkK T (p+1)=1
    ·rw [if_pos hk,if_pos hk];exact hP _ (p+2) (hT.next h0 (by omega)) (by omega)
    ·rw [if_neg hk,if_neg hk]
   ·rw [if_neg hs,if_neg hs]
  ·conv=>lhs;unfold de
   conv=>rhs;unfold de
   split
   ·rfl
   split
   ·rfl
   split
   ·rfl
   split
   ·rfl
   split
   ·rfl
   split
   ·rfl
   split
   ·rename_i hs
    have h0:=hT.next hp (av hs);rw [hE 1 (p+1) (by omega) h0 (by omega)]
   split
   ·rename_i hs
    have h0:=hT.next hp (av hs);split
    ·rfl
    ·exact hL [] (p+1) h0 (by omega)
   ·rfl
  ·conv=>lhs;unfold eI
   conv=>rhs;unfold eI
   rw [hE 1 p (by omega) hp (by omega)];have h1:=(nO hT n).1 1 p hp;cases hx:aP T n 1 p with
   | bad q=>rfl
   |ok y q =>
    rw [hx] at h1;simp only;split
    ·rename_i hs;exact hL _ (q+1) (hT.next h1.2 (av hs)) (by have:=h1.1;omega)
    ·rfl
theorem sf (hT:WT T) {lvl p:Nat} (hl:lvl<=8) (hp:p<T.length):∀ {n m:Nat},12*(T.length-p)+(10-lvl)<=n->n<=m->aP T m lvl p=aP T n lvl p:=by
 intro n m h hm
 induction m with
 |zero =>
  obtain rfl:n=0:=by omega
  rfl
 |succ m ih =>
  rcases Nat.lt_or_ge m n with h1 | h1
  ·obtain rfl:n=m+1:=by omega
   rfl
  ·rw [(iE hT m).1 lvl p hl hp (by omega),ih h1]
def TkE (T:List aq) (lvl p:Nat) (x:EJ) (q:Nat):Prop:=∃ N,∀ n,N<=n->aP T n lvl p=.ok x q
def TkB (T:List aq) (lvl:Nat) (x:EJ) (p:Nat) (y:EJ) (q:Nat):Prop:=∃ N,∀ n,N<=n->iD T n lvl x p=.ok y q
def TkP (T:List aq) (x:EJ) (p:Nat) (y:EJ) (q:Nat):Prop:=∃ N,∀ n,N<=n->eJ T n x p=.ok y q
def TkA (T:List aq) (p:Nat) (x:EJ) (q:Nat):Prop:=∃ N,∀ n,N<=n->de T n p=.ok x q
def TkL (T:List aq) (acc:List EJ) (p:Nat) (x:EJ) (q:Nat):Prop:=∃ N,∀ n,N<=n->eI T n acc p=.ok x q
theorem TkE.pre {lvl p:Nat} {k:Int} {x:EJ} {q:Nat} (h:lvl=3∨lvl=7) (ho:ez T lvl p=some k) (hx:TkE T lvl (p+1) x q):TkE T lvl p (eOp k [x]) q:=by
 obtain ⟨N,hN⟩:=hx;refine ⟨N+1,λ n hn=>?_⟩;obtain ⟨m,rfl⟩:∃ m,n=m+1:=⟨n-1,by omega⟩
 unfold aP;rw [if_pos h,ho];simp only;rw [hN m (by omega)]
theorem TkE.skip {lvl p:Nat} {x:EJ} {q:Nat} (h:lvl=3∨lvl=7) (ho:ez T lvl p=none) (hx:TkE T (lvl+1) p x q):TkE T lvl p x q:=by
 obtain ⟨N,hN⟩:=hx;refine ⟨N+1,λ n hn=>?_⟩;obtain ⟨m,rfl⟩:∃ m,n=m+1:=⟨n-1,by omega⟩
 unfold aP;rw [if_pos h,ho];exact hN m (by omega)
theorem TkB.stop {lvl:Nat} {x:EJ} {p:Nat} (ho:ez T lvl p=none):TkB T lvl x p x p:=by
 refine ⟨1,λ n hn=>?_⟩;obtain ⟨m,rfl⟩:∃ m,n=m+1:=⟨n-1,by omega⟩
 unfold iD;rw [ho]
theorem TkP.stop {x:EJ} {p:Nat} (h:au T p [46]=false):TkP T x p x p:=by
 refine ⟨1,λ n hn=>?_⟩;obtain ⟨m,rfl⟩:∃ m,n=m+1:=⟨n-1,by omega⟩
 unfold eJ;rw [if_neg (by rw [h];decide)]
theorem TkA.lit {p:Nat} {x:EJ} (h:∀ m,de T (m+1) p=.ok x (p+1)):TkA T p x (p+1):=by
 refine ⟨1,λ n hn=>?_⟩;obtain ⟨m,rfl⟩:∃ m,n=m+1:=⟨n-1,by omega⟩
 exact h m
theorem TkL.last {acc:List EJ} {p:Nat} {x:EJ} {q:Nat} (hx:TkE T 1 p x q) (h1:au T q [44]=false) (h2:au T q [93]=true):TkL T acc p (eOp 4 (acc++[x])) (q+1):=by
 obtain ⟨N,hN⟩:=hx;refine ⟨N+1,λ n hn=>?_⟩;obtain ⟨m,rfl⟩:∃ m,n=m+1:=⟨n-1,by omega⟩
 unfold eI;rw [hN m (by omega)];simp only;rw [if_neg (by rw [h1];decide),if_pos h2]
theorem TkE.at_ (hT:WT T) {lvl p:Nat} {x:EJ} {q:Nat} (h:TkE T lvl p x q) (hl:lvl<=8) (hp:p<T.length) {n:Nat} (hn:12*(T.length-p)+(10-lvl)<=n):aP T n lvl p=.ok x q:=by
 obtain ⟨N,hN⟩:=h;rw [← sf hT hl hp hn (Nat.le_max_left n N)];exact hN _ (Nat.le_max_right n N)
theorem zx {p:Nat} {k:Int} (hk:5<=k/\k<=15) (h:rdT T p=opK k):ez T (ay k) p=some k/\(∀ l,l≠ay k->ez T l p=none)/\au T p [46]=false:=by
 have h11:k=5∨k=6∨k=7∨k=8∨k=9∨k=10∨k=11∨k=12∨k=13∨k=14∨k=15:=by omega
 rcases h11 with rfl | rfl | rfl | rfl | rfl | rfl | rfl | rfl | rfl | rfl | rfl
 all_goals
  refine ⟨?_,λ l hl=>?_,?_⟩
  ·show gc T p (fA _)=_
   rw [pH h (by decide)];rfl
  ·show gc T p (fA l)=_
   rw [pH h (by decide)];rcases l with _ | _ | _ | _ | _ | _ | _ | _ | l
   all_goals first | rfl | exact absurd rfl hl
  ·rw [nd h];decide
def pI:List (List UInt8):=[[111,114],[97,110,100],[110,111,116],[61,61],[60],[60,61],[43],[45],[42],[115,105,122,101],[107,105,110,100]]
theorem vQ:∀ (l:Nat) (x:List UInt8 × Int),x ∈ fA l->x.1 ∈ pI
 | 0,x,h=>by cases h
 | 1,x,h=>by simp [fA] at h;subst h;decide
 | 2,x,h=>by simp [fA] at h;subst h;decide
 | 3,x,h=>by simp [fA] at h;subst h;decide
 | 4,x,h=>by simp [fA] at h;rcases h with rfl | rfl | rfl<;>decide
 | 5,x,h=>by simp [fA] at h;rcases h with rfl | rfl<;>decide
 | 6,x,h=>by simp [fA] at h;subst h;decide
 | 7,x,h=>by simp [fA] at h;rcases h with rfl | rfl<;>decide
 | _+8,x,h=>by cases h
theorem oA {p:Nat}:∀ {l:List (List UInt8 × Int)},(∀ x ∈ l,au T p x.1=false)->gc T p l=none
 | [],_=>rfl
 |x::r,h=>by
  unfold gc;rw [if_neg (by rw [h x List.mem_cons_self];decide)];exact oA λ y hy=>h y (List.mem_cons_of_mem _ hy)
theorem xN {p:Nat} {k:Int} {t:List UInt8} {n:Int} (h:rdT T p=(k,t,n)) (ht:¬ (k=5∨k=2)∨t ∉ pI) (l:Nat):ez T l p=none:=by
 refine oA λ x hx=>?_
 rw [nd h,decide_eq_false_iff_not];rintro ⟨h1,h2⟩;rcases ht with ht | ht
 ·exact ht h1
 ·exact ht (h2 ▸ vQ l x hx)
def fc (T:List aq) (lvl q:Nat):Prop:=(∀ l,lvl<=l->l≠3->l≠7->ez T l q=none)/\au T q [46]=false
theorem fc.mono {l l' q:Nat} (h:fc T l q) (hl:l<=l'):fc T l' q:=⟨λ m hm=>h.1 m (by omega),h.2⟩
theorem fc.of {q:Nat} {k:Int} {t:List UInt8} {n:Int} (h:rdT T q=(k,t,n)) (ht:t ∉ pI) (h46:t≠[46]) (l:Nat):fc T l q :=
 ⟨λ m _ _ _=>xN h (.inr ht) m,by rw [nd h,decide_eq_false_iff_not];exact λ h=>h46 h.2⟩
theorem fc.op {q:Nat} {k:Int} (hk:5<=k/\k<=15) (h:rdT T q=opK k) {l:Nat} (hl:ay k<l):fc T l q:=by
 obtain ⟨_,h2,h3⟩:=zx hk h;exact ⟨λ m hm _ _=>h2 m (by omega),h3⟩
end
def xu (h:LX) (w:List UInt8):Bool:=decide ((h.1=5∨h.1=2)/\h.2.1=w)
def o7 (l:Nat) (h:LX):Prop:=xu h [93]=false/\(3<l->xu h [110,111,116]=false)/\(7<l->xu h [115,105,122,101]=false/\xu h [107,105,110,100]=false)
theorem o7.mono {l l':Nat} {h:LX} (hf:o7 l h) (hl:l'<=l):o7 l' h:=⟨hf.1,λ h3=>hf.2.1 (by omega),λ h7=>hf.2.2 (by omega)⟩
theorem wS {v:JV} (h:cV v=true):v=dX:=by
 obtain ⟨k,n,s,kids,keys⟩:=v;unfold cV at h;rw [decide_eq_true_eq] at h;obtain ⟨rfl,rfl,rfl,h4⟩:=h;have h5:kids=[]:=List.length_eq_zero_iff.1 (by omega);have h6:keys=[]:=List.length_eq_zero_iff.1 (by omega);subst h5 h6;rfl
theorem ub {k:Int} {v:JV} {s:List UInt8} {nk:Nat} (h:okX k v s nk=true) :
  (k=1/\dM v=true/\s=[]/\nk=0)∨(v=dX/\((k=2/\dv s=true/\nk=0)∨(k=3/\dv s=true/\nk=1)∨(k=4/\s=[])∨(5<=k/\k<=7/\s=[]/\nk=1)∨(8<=k/\k<=15/\s=[]/\nk=2))):=by
 unfold okX at h;split at h
 ·rename_i h1;rw [Bool.and_eq_true,decide_eq_true_eq] at h;exact .inl ⟨h1,h.1,h.2.1,h.2.2⟩
 split at h
 ·cases h
 rename_i hz
 refine .inr ⟨wS (by simpa using hz),?_⟩;split at h
 ·rename_i h1;rw [Bool.and_eq_true,decide_eq_true_eq] at h;exact .inl ⟨h1,h.1,h.2⟩
 split at h
 ·rename_i h1;rw [Bool.and_eq_true,decide_eq_true_eq] at h;exact .inr (.inl ⟨h1,h.1,h.2⟩)
 split at h
 ·rename_i h1;rw [decide_eq_true_eq] at h;exact .inr (.inr (.inl ⟨h1,h⟩))
 split at h
 ·rename_i h1;rw [decide_eq_true_eq] at h;exact .inr (.inr (.inr (.inl ⟨h1.1,h1.2,h.1,h.2⟩)))
 split at h
 ·rename_i h1;rw [decide_eq_true_eq] at h;exact .inr (.inr (.inr (.inr ⟨h1.1,h1.2,h.1,h.2⟩)))
 ·cases h
theorem ua {v:JV} (h:dM v=true):(∃ n,0<=n/\v=pA n)∨(∃ s,cc s=true/\v=lg s)∨v=.mk 1 0 [] [] []∨∃ b,v=ic b:=by
 obtain ⟨k,n,s,kids,keys⟩:=v;unfold dM at h;rw [Bool.and_eq_true,Bool.or_eq_true,decide_eq_true_eq,decide_eq_true_eq] at h;obtain ⟨hg,hk⟩:=h;have ha:=(fm (rQ hg).1).1;unfold bO at ha;simp only [JV.kind,JV.num] at hk;rcases hk with ⟨rfl,hn⟩ | rfl | rfl | rfl
 ·rw [if_neg (by decide),if_neg (by decide),if_pos rfl] at ha;simp only [Bool.and_eq_true,beq_iff_eq,List.length_eq_zero_iff] at ha;obtain ⟨⟨rfl,rfl⟩,rfl⟩:=ha;exact .inl ⟨n,hn,rfl⟩
 ·rw [if_pos rfl] at ha;simp only [Bool.and_eq_true,beq_iff_eq,List.length_eq_zero_iff] at ha;obtain ⟨⟨⟨rfl,rfl⟩,rfl⟩,rfl⟩:=ha;exact .inr (.inr (.inl rfl))
 ·rw [if_neg (by decide),if_pos rfl] at ha;simp only [Bool.and_eq_true,Bool.or_eq_true,beq_iff_eq,List.length_eq_zero_iff] at ha;obtain ⟨⟨⟨h0,rfl⟩,rfl⟩,rfl⟩:=ha;refine .inr (.inr (.inr ?_));rcases h0 with rfl | rfl
  ·exact ⟨false,rfl⟩
  ·exact ⟨true,rfl⟩
 ·rw [if_neg (by decide),if_neg (by decide),if_neg (by decide),if_pos rfl] at ha;simp only [Bool.and_eq_true,beq_iff_eq,List.length_eq_zero_iff] at ha;obtain ⟨⟨⟨rfl,ht⟩,rfl⟩,rfl⟩:=ha;exact .inr (.inl ⟨s,ht,rfl⟩)
structure BK (T:List aq) (x:EJ):Prop where
 one:∀ p,At T p (bM x).2->(bM x).1=9->TkA T p x (p+(bM x).2.length)
 two:∀ p,At T p (bM x).2->(bM x).1=3∨(bM x).1=4∨(bM x).1=7->fc T (bM x).1 (p+(bM x).2.length)->TkE T (bM x).1 p x (p+(bM x).2.length)
 three:∀ p,At T p (bM x).2->(bM x).1=1∨(bM x).1=2∨(bM x).1=5∨(bM x).1=6->fc T ((bM x).1+1) (p+(bM x).2.length)->∀ y q',TkB T (bM x).1 x (p+(bM x).2.length) y q' ->
  ∃ h q0,TkE T ((bM x).1+1) p h q0/\TkB T (bM x).1 h q0 y q'
 four:∀ p,At T p (bM x).2->(bM x).1=8->∀ y q',TkP T x (p+(bM x).2.length) y q'->∃ h q0,TkA T p h q0/\TkP T h q0 y q'
section
variable {T:List aq} {x:EJ}
end
theorem yf (k:Int) (v:JV) (s:List UInt8) (kids:List EJ):bM (.mk k v s kids)=(ay k,bK k v s (kids.map bM)):=by rw [bM,gH]
theorem BK.of {T:List aq} {x:EJ} {L:Nat} {body:List LX} (e:bM x=(L,body)) (h1:L=9->∀ p,At T p body->TkA T p x (p+body.length)) (h2:L=3∨L=4∨L=7->∀ p,At T p body->fc T L (p+body.length)->TkE T L p x (p+body.length))
  (h3:L=1∨L=2∨L=5∨L=6->∀ p,At T p body->fc T (L+1) (p+body.length)->∀ y q',TkB T L x (p+body.length) y q'->∃ h q0,TkE T (L+1) p h q0/\TkB T L h q0 y q')
  (h4:L=8->∀ p,At T p body->∀ y q',TkP T x (p+body.length) y q'->∃ h q0,TkA T p h q0/\TkP T h q0 y q'):BK T x :=
 ⟨λ p ha hl=>by rw [e] at ha hl ⊢;exact h1 hl p ha,λ p ha hl hs=>by rw [e] at ha hl hs ⊢;exact h2 hl p ha hs,λ p ha hl hs y q' hy=>by rw [e] at ha hl hs hy ⊢;exact h3 hl p ha hs y q' hy,λ p ha hl y q' hy=>by rw [e] at ha hl hy;exact h4 hl p ha y q' hy⟩
section
variable {T:List aq}
theorem sn (hT:WT T):∀ (n:Nat),(∀ acc p,p<T.length->12*(T.length-p)+1<=n->cF T (n+1) acc p=cF T n acc p)/\(∀ p,p<T.length->12*(T.length-p)+1<=n->bX T (n+1) p=bX T n p)
 | 0=>⟨λ acc p hp h=>by omega,λ p hp h=>by omega⟩
 |n+1=>by
  obtain ⟨hS,hK⟩:=sn hT n;have hE:=(iE hT n).1;have hI:=λ p hp=>ei hT n 1 p hp
  have hIK:=(su hT n).2;have hIS:=(su hT n).1;refine ⟨λ acc p hp h=>?_,λ p hp h=>?_⟩
  ·conv=>lhs;unfold cF
   conv=>rhs;unfold cF
   split
   ·rename_i hs
    have h0:=hT.next hp (av hs);have h1:=hI (p+1) h0;rw [hE 1 (p+1) (by omega) h0 (by omega)];cases hx:aP T n 1 (p+1) with
    | bad q=>rfl
    |ok a q =>
     rw [hx] at h1;simp only;split
     ·rename_i hs2
      have h2:=hT.next h1.2 (av hs2);have h3:=hI (q+1) h2;rw [hE 1 (q+1) (by omega) h2 (by have:=h1.1;omega)];cases hy:aP T n 1 (q+1) with
      | bad r=>rfl
      |ok b r =>
       rw [hy] at h3;simp only;split
       ·rename_i hs3;exact hS _ (r+1) (hT.next h3.2 (av hs3)) (by have:=h1.1;have:=h3.1;omega)
       ·rfl
     ·rfl
   split
   ·rename_i hs
    have h0:=hT.next hp (av hs);have h1:=hI (p+1) h0;rw [hE 1 (p+1) (by omega) h0 (by omega)];cases hx:aP T n 1 (p+1) with
    | bad q=>rfl
    |ok a q =>
     rw [hx] at h1;simp only;rw [hK q h1.2 (by have:=h1.1;omega)];have h2:=hIK q h1.2;cases hy:bX T n q with
     | bad r=>rfl
     |ok body r =>
      rw [hy] at h2;simp only;split
      ·rename_i hs3
       have h4:=hT.next h2.2 (av hs3);rw [hK (r+1) h4 (by have:=h1.1;have:=h2.1;omega)];have h5:=hIK (r+1) h4;cases hz:bX T n (r+1) with
       | bad u=>rfl
       | ok els u=>rw [hz] at h5;exact hS _ u h5.2 (by have:=h1.1;have:=h2.1;have:=h5.1;omega)
      ·exact hS _ r h2.2 (by have:=h1.1;have:=h2.1;omega)
   split
   ·rename_i hs
    have h0:=hT.next hp (av hs);split
    ·rename_i hk
     have h9:=hT.next h0 (by omega);split
     ·rename_i hs2
      have h8:=hT.next h9 (av hs2);have h1:=hI (p+3) h8;rw [hE 1 (p+3) (by omega) h8 (by omega)];cases hx:aP T n 1 (p+3) with
      | bad q=>rfl
      |ok a q =>
       rw [hx] at h1;simp only;rw [hK q h1.2 (by have:=h1.1;omega)];have h2:=hIK q h1.2;cases hy:bX T n q with
       | bad r=>rfl
       | ok body r=>rw [hy] at h2;exact hS _ r h2.2 (by have:=h1.1;have:=h2.1;omega)
     ·rfl
    ·rfl
   ·rfl
  ·conv=>lhs;unfold bX
   conv=>rhs;unfold bX
   split
   ·rename_i hs
    have h0:=hT.next hp (av hs);rw [hS [] (p+1) h0 (by omega)]
   ·rfl
def TkS (T:List aq) (acc:List SJ) (p:Nat) (l:List SJ) (q:Nat):Prop:=∃ N,∀ n,N<=n->cF T n acc p=.ok l q
def TkK (T:List aq) (p:Nat) (l:List SJ) (q:Nat):Prop:=∃ N,∀ n,N<=n->bX T n p=.ok l q
theorem TkS.stop {acc:List SJ} {p:Nat} (h1:au T p d8=false) (h2:au T p wIf=false) (h3:au T p gM=false):TkS T acc p acc p:=by
 refine ⟨1,λ n hn=>?_⟩;obtain ⟨m,rfl⟩:∃ m,n=m+1:=⟨n-1,by omega⟩
 unfold cF;rw [if_neg (by rw [h1];decide),if_neg (by rw [h2];decide),if_neg (by rw [h3];decide)]
theorem TkK.block {p:Nat} {l:List SJ} {q:Nat} (h1:rdT T p=aA [123]) (hl:TkS T [] (p+1) l q) (h2:rdT T q=aA [125]):TkK T p l (q+1):=by
 obtain ⟨N,hN⟩:=hl;refine ⟨N+1,λ n hn=>?_⟩;obtain ⟨m,rfl⟩:∃ m,n=m+1:=⟨n-1,by omega⟩
 unfold bX;rw [if_pos (by rw [nd h1];decide),hN m (by omega)];simp only;rw [if_pos (by rw [nd h2];decide)]
def yu (T:List aq) (q:Nat):Prop:=au T q d8=false/\au T q wIf=false/\au T q gM=false/\au T q dE=false
theorem yu.of {q:Nat} {k:Int} {t:List UInt8} {n:Int} (h:rdT T q=(k,t,n)) (ht:t≠d8/\t≠wIf/\t≠gM/\t≠dE):yu T q:=by
 refine ⟨?_,?_,?_,?_⟩<;>rw [nd h,decide_eq_false_iff_not]
 ·exact λ e=>ht.1 e.2
 ·exact λ e=>ht.2.1 e.2
 ·exact λ e=>ht.2.2.1 e.2
 ·exact λ e=>ht.2.2.2 e.2
end
end
section
open Go.RowKit
theorem ll:∀ {i:Nat} {l:List UInt8},aS i l=true->∀ c ∈ l,dK c=true
 | _,[],_,c,hc=>by cases hc
 |i,x::r,h,c,hc=>by
  unfold aS at h;simp only [Bool.and_eq_true,Bool.or_eq_true] at h;rcases List.mem_cons.1 hc with rfl | hc
  ·unfold dK;rcases h.1 with h1 | h1
   ·rw [h1];rfl
   ·rw [h1.2];simp
  ·exact ll h.2 c hc
theorem mJ {c:UInt8} {r:List UInt8} (h:aS 0 (c::r)=true):aL c=true:=by
 unfold aS at h;simp only [Bool.and_eq_true,Bool.or_eq_true] at h;rcases h.1 with h1 | h1
 ·exact h1
 ·simp at h1
theorem py {l:List UInt8} (h:bI ⟨l.toArray⟩=true):aS 0 l=true/\1<=l.length/\l.length<=12/\dG l=false:=by
 unfold bI at h;rw [eQ] at h;simp only [Bool.and_eq_true,decide_eq_true_eq,Bool.not_eq_true',ByteArray.size,List.size_toArray] at h;exact ⟨h.1,h.2.1.1,h.2.1.2,h.2.2⟩
end
section
def bi (st:List UInt8 × Bool) (s:List UInt8):List UInt8 × Bool :=
 (st.1++((if st.1≠[]/\((bE (st.1.getLastD 0)=true/\bE (s.headD 0)=true)∨(st.2=true/\s.headD 0=46)) then [32] else [])++s),bc (s.headD 0))
def uM (s:List UInt8):Prop:=s≠[]/\(s.headD 0=46->s=[46])
theorem vr {α:Type} (x:α) (r:List α) (d d':α):(x::r).getLast?.getD d=(x::r).getLast?.getD d':=by
 cases h:(x::r).getLast? with
 | none=>simp at h
 | some v=>rfl
theorem jX {a b:List UInt8} (hb:b≠[]) (d:UInt8):(a++b).getLastD d=b.getLastD d:=by
 cases b with
 | nil=>exact absurd rfl hb
 | cons x r=>simp [List.getLastD_eq_getLast?];exact vr _ _ _ _
theorem qQ:∀ (ls:List (List UInt8)) (was b:List UInt8) (f:Bool),(∀ s ∈ ls,uM s)->b≠[]->b.getLastD 0=was.getLastD 0->f=bc (was.headD 0) ->
  ls.foldl bi (b,f)=(b++dh was ls,bc ((ls.getLastD was).headD 0))
 | [],was,b,f,_,_,_,hf=>by show (b,f)=_;rw [hf];simp [dh]
 |s::r,was,b,f,hp,hb,hl,hf=>by
  obtain ⟨h1,h2⟩:=hp s List.mem_cons_self;have e:bi (b,f) s=(b++(if nL was s=true then 32::s else s),bc (s.headD 0)):=by
   unfold bi nL;simp only;rw [hl,hf];congr 2;by_cases hg:(bE (was.getLastD 0)=true/\bE (s.headD 0)=true)∨(bc (was.headD 0)=true/\s.headD 0=46)
   ·rw [if_pos ⟨hb,hg⟩,if_pos]
    ·rfl
    ·rw [Bool.or_eq_true,Bool.and_eq_true,Bool.and_eq_true,beq_iff_eq];exact hg.imp id λ h=>⟨h.1,h2 h.2⟩
   ·rw [if_neg (λ h=>hg h.2),if_neg]
    ·rfl
    ·rw [Bool.or_eq_true,Bool.and_eq_true,Bool.and_eq_true,beq_iff_eq];exact λ h=>hg (h.imp id λ h=>⟨h.1,by rw [h.2];rfl⟩)
  rw [List.foldl_cons,e,qQ r s _ _ (λ t ht=>hp t (List.mem_cons_of_mem _ ht)) (by intro h;have:=congrArg List.length h;rw [List.length_append] at this;have:=List.length_pos_iff.2 hb;simp only [List.length_nil] at *;omega) (by
   split
   ·rw [jX (by simp)];have:(32::s).getLastD 0=s.getLastD 0:=by cases s with | nil=>exact absurd rfl h1 | cons x t=>simp [List.getLastD_eq_getLast?]
    exact this
   ·exact jX h1 0) rfl]
  rw [List.append_assoc];congr 2;cases r with
  | nil=>rfl
  | cons x t=>simp [List.getLastD_eq_getLast?];rw [vr x t s was]
theorem v8 (ls:List (List UInt8)) (hp:∀ s ∈ ls,uM s):(ls.foldl bi ([],false)).1=dm ls:=by
 cases ls with
 | nil=>rfl
 |cons s r =>
  have e:bi ([],false) s=(s,bc (s.headD 0)):=by
   unfold bi;simp
  rw [List.foldl_cons,e,qQ r s s _ (λ t ht=>hp t (List.mem_cons_of_mem _ ht)) (hp s List.mem_cons_self).1 rfl rfl];rfl
end
section
open Go.RowKit
attribute [local go_sem] aa ac ae ab
theorem iC {n:Int} (h:iw n):(cQ n).length<=20:=by
 have h1:=j3 (N:=n.natAbs) (k:=19) (by unfold iw at h;omega) (by decide);unfold cQ;split
 ·rw [List.length_cons];omega
 ·omega
theorem yU (a b:List UInt8):(⟨a.toArray⟩:ByteArray)++⟨b.toArray⟩=⟨(a++b).toArray⟩:=by apply je;simp [sl]
theorem pL {a b c:List UInt8} (h:a++b=c):Ending.returned (.string ((⟨a.toArray⟩:ByteArray)++⟨b.toArray⟩))=.returned (.string ⟨c.toArray⟩):=by rw [yU,h]
theorem gD (N:Nat):cQ (N:Int)=fe N:=by unfold cQ;rw [if_neg (by omega),Int.natAbs_natCast]
theorem mO (N:Nat) (h:0<N):cQ (-(N:Int))=45::fe N:=by unfold cQ;rw [if_pos (by omega),Int.natAbs_neg,Int.natAbs_natCast]
def msr (n:Int):Nat:=2*n.natAbs+(if n<0 then 1 else 0)
theorem xE {n:Int} (h:n<0):msr n=2*n.natAbs+1:=by unfold msr;rw [if_pos h]
theorem tf {n:Int} (h:¬ n<0):msr n=2*n.natAbs:=by unfold msr;rw [if_neg h];omega
theorem pE (n:Int):msr n<=2*n.natAbs+1:=by unfold msr;split<;>omega
theorem wi (n:Int) (hn:iw n) (ih:∀ m:Int,iw m->msr m<msr n->∀ w,Calls Tryz.prog 164 #[.int .i64 m] w (lS (cQ m) w)) (w:World):Calls Tryz.prog 164 #[.int .i64 n] w (lS (cQ n) w):=by
 unfold iw at hn;by_cases h0:n<0
 ·obtain ⟨N,rfl⟩:∃ N:Nat,n = -(N:Int):=⟨n.natAbs,by omega⟩
  rw [xE h0] at ih;by_cases h1:-10 < -(N:Int)
  ·have HI:=aW (λ w=>ih (N:Int) (by unfold iw;omega) (by rw [tf (by omega)];omega) w);have hw:IntKind.i64.wrap (-(-(N:Int)))=(N:Int):=by rw [IntKind.wrap_i64];omega
   have HF:=aW (show [45]++cQ (N:Int)=cQ (-(N:Int)) by rw [gD,mO N (by omega)];rfl);have hlb:=iC (n:=(N:Int)) (by unfold iw;omega);clear ih;go_enter Tryz.func164,Tryz.ntmps164;go_wp2_with fail;refine (HI.out _).mono ?_;rintro e w1 ⟨rfl,hb1⟩;go_wp2;go_ret;exact ⟨pL HF.out,hb1⟩
  ·have h1':-(N:Int) <= -10:=by omega
   have e1:(-(N:Int)).tdiv 10 = -((N / 10:Nat):Int):=by rw [Int.neg_tdiv];congr 1
   have e2:(-(N:Int)).tmod 10 = -((N % 10:Nat):Int):=by rw [Int.neg_tmod];congr 1
   have HI1:=aW (λ w=>ih (-((N / 10:Nat):Int)) (by unfold iw;omega) (by have:=pE (-((N / 10:Nat):Int));omega) w);have HI2:=aW (λ w=>ih ((N % 10:Nat):Int) (by unfold iw;omega) (by have:=pE ((N % 10:Nat):Int);omega) w);have HF:=aW (show cQ (-((N / 10:Nat):Int))++cQ ((N % 10:Nat):Int)=cQ (-(N:Int)) by
    rw [gD,mO N (by omega),mO (N / 10) (by omega),iX (show 10<=N by omega),ev (show N % 10<10 by omega)];rfl)
   obtain ⟨T1,hT1⟩:∃ T,cQ (-((N / 10:Nat):Int))=T:=⟨_,rfl⟩
   obtain ⟨T2,hT2⟩:∃ T,cQ ((N % 10:Nat):Int)=T:=⟨_,rfl⟩
   have hl1:T1.length<=20:=by rw [← hT1];exact iC (by unfold iw;omega)
   have hl2:T2.length<=20:=by rw [← hT2];exact iC (by unfold iw;omega)
   rw [hT1] at HI1 HF;rw [hT2] at HI2 HF;rw [← e1] at HI1;have e3:((N % 10:Nat):Int) = -((-(N:Int)).tmod 10):=by rw [e2];omega
   rw [e3] at HI2;obtain ⟨n,hn9⟩:∃ n:Int,n = -(N:Int):=⟨_,rfl⟩
   rw [← hn9] at HI1 HI2 HF h0 h1' hn h1 ⊢;have hw:IntKind.i64.wrap (-(n.tmod 10)) = -(n.tmod 10):=by rw [hn9,← e3,IntKind.wrap_i64];omega
   clear ih hn9 e1 e2 e3 hT1 hT2;go_enter Tryz.func164,Tryz.ntmps164;go_wp2_with fail;refine (HI1.out _).mono ?_;rintro e w1 ⟨rfl,hb1⟩;go_wp2_with fail;refine (HI2.out _).mono ?_;rintro e w2 ⟨rfl,hb2⟩;go_wp2;go_ret;exact ⟨pL HF.out,hb1.trans (hb2.mono hb1.size)⟩
 ·obtain ⟨N,rfl⟩:∃ N:Nat,n=(N:Int):=⟨n.toNat,by omega⟩
  rw [tf h0] at ih;by_cases h10:(N:Int)<10
  ·have hd:=ev (show N<10 by omega);have h48:=oN8 (48+N) (by omega);have hbs:=BS.lit w (fe N) #[.int .u8 (48+(N:Int))] (by rw [hd];simp only [ak,List.map_cons,List.map_nil,h48];rfl) 1 (by rw [hd];rfl);have hcv:=hbs.conv;rw [← gD] at hcv;clear ih hbs hd h48;go_enter Tryz.func164,Tryz.ntmps164;go_wp2;go_ret;exact ⟨rfl,(Below.refl _ w).alloc (Nat.le_refl _) _⟩
  ·have HI1:=aW (λ w=>ih ((N / 10:Nat):Int) (by unfold iw;omega) (by have:=pE ((N / 10:Nat):Int);omega) w);have HI2:=aW (λ w=>ih ((N % 10:Nat):Int) (by unfold iw;omega) (by have:=pE ((N % 10:Nat):Int);omega) w);have HF:=aW (show cQ ((N / 10:Nat):Int)++cQ ((N % 10:Nat):Int)=cQ (N:Int) by
    rw [gD,gD,gD,iX (show 10<=N by omega),ev (show N % 10<10 by omega)])
   obtain ⟨T1,hT1⟩:∃ T,cQ ((N / 10:Nat):Int)=T:=⟨_,rfl⟩
   obtain ⟨T2,hT2⟩:∃ T,cQ ((N % 10:Nat):Int)=T:=⟨_,rfl⟩
   have hl1:T1.length<=20:=by rw [← hT1];exact iC (by unfold iw;omega)
   have hl2:T2.length<=20:=by rw [← hT2];exact iC (by unfold iw;omega)
   rw [hT1] at HI1 HF;rw [hT2] at HI2 HF;rw [show ((N / 10:Nat):Int)=(N:Int) / 10 by omega] at HI1;rw [show ((N % 10:Nat):Int)=(N:Int) % 10 by omega] at HI2;clear ih hT1 hT2;go_enter Tryz.func164,Tryz.ntmps164;go_wp2_with fail;refine (HI1.out _).mono ?_;rintro e w1 ⟨rfl,hb1⟩;go_wp2_with fail;refine (HI2.out _).mono ?_;rintro e w2 ⟨rfl,hb2⟩;go_wp2;go_ret;exact ⟨pL HF.out,hb1.trans (hb2.mono hb1.size)⟩
theorem tp:∀ (K:Nat) (n:Int),iw n->msr n<K->∀ w,Calls Tryz.prog 164 #[.int .i64 n] w (lS (cQ n) w)
 | 0,_,_,h,_=>absurd h (Nat.not_lt_zero _)
 | K+1,n,hn,h,w=>wi n hn (λ m hm h'=>tp K m hm (by omega)) w
theorem Bt (n:Int) (hn:iw n) (w:World):Calls Tryz.prog 164 #[.int .i64 n] w (lS (cQ n) w):=tp _ n hn (Nat.lt_succ_self _) w
end
section
theorem kQ (t:List UInt8):dm [t]=t:=by show t++[]=t;simp
theorem sG {l:List (List UInt8)} {was:List UInt8} (h:l.getLast? = some was) (t:List UInt8):dm (l++[t])=dm l++((if nL was t=true then [32] else [])++t):=by
 cases l with
 | nil=>cases h
 |cons a r =>
  show a++dh a (r++[t])=a++dh a r++_
  rw [gT,List.append_assoc];have e:r.getLastD a=was:=by
   cases r with
   | nil=>simpa using h
   | cons b r=>rw [List.getLast?_cons_cons] at h;rw [List.getLastD_eq_getLast?,h];rfl
  rw [e];congr 2;show (if nL was t=true then 32::t else t)++[]=_
  rw [List.append_nil];split<;>rfl
theorem jH {l:List (List UInt8)} {i:Nat} {was t:List UInt8} (h1:l[i]? = some was) (h2:l[i+1]? = some t):dm (l.take (i+2))=dm (l.take (i+1))++((if nL was t=true then [32] else [])++t):=by
 have e:l.take (i+2)=l.take (i+1)++[t]:=by rw [List.take_add_one,h2];rfl
 have e1:(l.take (i+1)).getLast? = some was:=by
  rw [List.take_add_one,h1];simp
 rw [e,sG e1]
end
end Go.Proofs.YtgmnmnnoahdjnaaGreatDoor
