import Derived.Test.YtgmnmnnoahdjnaaGreatDoorB19
set_option maxRecDepth 100000
set_option maxHeartbeats 16000000
set_option linter.unusedVariables false
set_option linter.unusedSimpArgs false
namespace Go.Proofs.YtgmnmnnoahdjnaaGreatDoor
section
inductive PR (α:Type) where
 | ok:α→Nat→PR α
 | bad:Nat→PR α
def tkK (T:List ak) (p:Nat):Int:=match T[p]? with | some t=>t.1 | none=>6
def tkT (T:List ak) (p:Nat):List UInt8:=match T[p]? with | some t=>t.2.2.1 | none=>[]
def tkN (T:List ak) (p:Nat):Int:=match T[p]? with | some t=>t.2.2.2 | none=>0
def tkA (T:List ak) (p:Nat):Nat:=match T[p]? with | some t=>t.2.1 | none=>0
def am (T:List ak) (p:Nat) (w:List UInt8):Bool:=decide ((tkK T p=5∨tkK T p=2)∧tkT T p=w)
def eu:Nat→List (List UInt8 × Int)
 | 1=>[([111,114],15)]
 | 2=>[([97,110,100],14)]
 | 3=>[([110,111,116],5)]
 | 4=>[([61,61],11),([60],12),([60,61],13)]
 | 5=>[([43],9),([45],10)]
 | 6=>[([42],8)]
 | 7=>[([115,105,122,101],6),([107,105,110,100],7)]
 | _=>[]
def fI (T:List ak) (p:Nat):List (List UInt8 × Int)→Option Int
 | []=>none
 | x::r=>if am T p x.1=true then some x.2 else fI T p r
def dx (T:List ak) (lvl p:Nat):Option Int:=fI T p (eu lvl)
def eOp (k:Int) (l:List EJ):EJ:=.mk k cW [] l
def eZ (v:JV):EJ:=.mk 1 v [] []
def dv:List UInt8:=[101,109,105,116]
def wIf:List UInt8:=[105,102]
def cS:List UInt8:=[101,108,115,101]
def fj:List UInt8:=[102,111,114]
def wIn:List UInt8:=[105,110]
def mz:List UInt8:=[110,117,108,108]
def iR:List UInt8:=[116,114,117,101]
def fL:List UInt8:=[102,97,108,115,101]
mutual
/-- an expression from a level on -/
def aH (T:List ak):Nat→Nat→Nat→PR EJ
 | 0,_,p=>.bad p
 |n+1,lvl,p =>
  if lvl=3∨lvl=7 then
   match dx T lvl p with
   |some k=>(match aH T n lvl (p+1) with
    | .ok x q=>.ok (eOp k [x]) q
    | .bad q=>.bad q)
   | none=>aH T n (lvl+1) p
  else if 8≤lvl then
   match bN T n p with
   | .ok x q=>dY T n x q
   | .bad q=>.bad q
  else match aH T n (lvl+1) p with
   | .ok x q=>gy T n lvl x q
   | .bad q=>.bad q
/-- what stands behind an expression,of a level's operators -/
def gy (T:List ak):Nat→Nat→EJ→Nat→PR EJ
 | 0,_,_,p=>.bad p
 |n+1,lvl,x,p=>match dx T lvl p with
  | none=>.ok x p
  |some k=>match aH T n (lvl+1) (p+1) with
   | .bad q=>.bad q
   | .ok y q=>if lvl=4 then .ok (eOp k [x,y]) q else gy T n lvl (eOp k [x,y]) q
/-- names behind points -/
def dY (T:List ak):Nat→EJ→Nat→PR EJ
 | 0,_,p=>.bad p
 | n+1,x,p=>if am T p [46]=true then (if tkK T (p+1)=1 then dY T n (.mk 3 cW (tkT T (p+1)) [x]) (p+2) else .bad (p+1)) else .ok x p
/-- what stands alone -/
def bN (T:List ak):Nat→Nat→PR EJ
 | 0,p=>.bad p
 |n+1,p =>
  if tkK T p=1 then .ok (.mk 2 cW (tkT T p) []) (p+1)
  else if tkK T p=3 then .ok (eZ (n8 (tkN T p))) (p+1)
  else if tkK T p=4 then .ok (eZ (kn (tkT T p))) (p+1)
  else if am T p mz=true then .ok (eZ (.mk 1 0 [] [] [])) (p+1)
  else if am T p iR=true then .ok (eZ (gF true)) (p+1)
  else if am T p fL=true then .ok (eZ (gF false)) (p+1)
  else if am T p [40]=true then (match aH T n 1 (p+1) with
   | .ok x q=>if am T q [41]=true then .ok x (q+1) else .bad q
   | .bad q=>.bad q)
  else if am T p [91]=true then (if am T (p+1) [93]=true then .ok (eOp 4 []) (p+2) else dX T n [] (p+1))
  else .bad p
/-- the expressions of a list -/
def dX (T:List ak):Nat→List EJ→Nat→PR EJ
 | 0,_,p=>.bad p
 |n+1,acc,p=>match aH T n 1 p with
  | .bad q=>.bad q
  | .ok x q=>if am T q [44]=true then dX T n (acc++[x]) (q+1) else if am T q [93]=true then .ok (eOp 4 (acc++[x])) (q+1) else .bad q
end
mutual
/-- statements,as long as there are some -/
def bK (T:List ak):Nat→List SJ→Nat→PR (List SJ)
 | 0,_,p=>.bad p
 |n+1,acc,p =>
  if am T p dv=true then
   match aH T n 1 (p+1) with
   | .bad q=>.bad q
   | .ok a q=>if am T q [44]=true then (match aH T n 1 (q+1) with
     | .bad r=>.bad r
     | .ok b r=>if am T r [59]=true then bK T n (acc++[.mk 1 [] a b [] []]) (r+1) else .bad r)
    else .bad q
  else if am T p wIf=true then
   match aH T n 1 (p+1) with
   | .bad q=>.bad q
   | .ok a q=>match bW T n q with
    | .bad r=>.bad r
    | .ok body r=>if am T r cS=true then (match bW T n (r+1) with
      | .bad u=>.bad u
      | .ok els u=>bK T n (acc++[.mk 2 [] a aZ body els]) u)
     else bK T n (acc++[.mk 2 [] a aZ body []]) r
  else if am T p fj=true then
   (if tkK T (p+1)=1 then
    (if am T (p+2) wIn=true then (match aH T n 1 (p+3) with
     | .bad q=>.bad q
     | .ok a q=>match bW T n q with
      | .bad r=>.bad r
      | .ok body r=>bK T n (acc++[.mk 3 (tkT T (p+1)) a aZ body []]) r)
    else .bad (p+2))
   else .bad (p+1))
  else .ok acc p
/-- statements in brackets -/
def bW (T:List ak):Nat→Nat→PR (List SJ)
 | 0,p=>.bad p
 |n+1,p=>if am T p [123]=true then (match bK T n [] (p+1) with
   | .bad q=>.bad q
   | .ok l q=>if am T q [125]=true then .ok l (q+1) else .bad q)
  else .bad p
end
structure WT (T:List ak):Prop where
 last:∃ m,T.length=m+1∧tkK T m=6
 one:∀ p,p+1<T.length→tkK T p≠6
 words:∀ p,tkK T p=2→tkT T p ∈ cL
 signs:∀ p,tkK T p=5→tkT T p ∉ cL
 kinds:∀ p,1≤tkK T p∧tkK T p≤6
theorem WT.next {T:List ak} (h:WT T) {p:Nat} (hp:p<T.length) (hk:tkK T p≠6):p+1<T.length:=by
 obtain ⟨m,hm,h6⟩:=h.last;rcases Nat.lt_or_ge (p+1) T.length with h1 | h1
 ·exact h1
 ·obtain rfl:p=m:=by omega
  exact absurd h6 hk
theorem av {T:List ak} {p:Nat} {w:List UInt8} (h:am T p w=true):tkK T p≠6:=by
 unfold am at h;rw [decide_eq_true_eq] at h;omega
theorem fd {T:List ak} {p:Nat}:∀ {l:List (List UInt8 × Int)} {k:Int},fI T p l=some k→tkK T p≠6
 | [],k,h=>by cases h
 |x::r,k,h=>by
  unfold fI at h;split at h
  ·rename_i hs;exact av hs
  ·exact fd h
def PR.In {α:Type} (T:List ak) (p:Nat):PR α→Prop
 | .ok _ q=>p<q∧q<T.length
 | .bad q=>p≤q∧q<T.length
def PR.In0 {α:Type} (T:List ak) (p:Nat):PR α→Prop
 | .ok _ q=>p≤q∧q<T.length
 | .bad q=>p≤q∧q<T.length
theorem PR.In.mono {α:Type} {T:List ak} {p p':Nat} {r:PR α} (h:r.In T p) (hp:p'≤p):r.In T p':=by
 cases r<;>(unfold PR.In at h ⊢;omega)
theorem PR.In0.mono {α:Type} {T:List ak} {p p':Nat} {r:PR α} (h:r.In0 T p) (hp:p'≤p):r.In0 T p':=by
 cases r<;>(unfold PR.In0 at h ⊢;omega)
theorem PR.In0.up {α:Type} {T:List ak} {p p':Nat} {r:PR α} (h:r.In0 T p) (hp:p'<p):r.In T p':=by
 cases r<;>(unfold PR.In0 at h;unfold PR.In;omega)
theorem PR.In.zero {α:Type} {T:List ak} {p:Nat} {r:PR α} (h:r.In T p):r.In0 T p:=by
 cases r<;>(unfold PR.In at h;unfold PR.In0;omega)
theorem gn {α:Type} {T:List ak} {p q:Nat} (h:p≤q) (hq:q<T.length):(PR.bad q:PR α).In T p:=⟨h,hq⟩
theorem iQ {α:Type} {T:List ak} {p q:Nat} {x:α} (h:p<q) (hq:q<T.length):(PR.ok x q).In T p:=⟨h,hq⟩
section
variable {T:List ak} (hT:WT T)
include hT
theorem mx:∀ (n:Nat),(∀ lvl p,p<T.length→(aH T n lvl p).In T p)∧(∀ lvl x p,p<T.length→(gy T n lvl x p).In0 T p)∧(∀ x p,p<T.length→(dY T n x p).In0 T p)∧(∀ p,p<T.length→(bN T n p).In T p)∧(∀ acc p,p<T.length→(dX T n acc p).In T p)
 | 0=>⟨fun lvl p hp=>by unfold aH;exact gn (Nat.le_refl _) hp,fun lvl x p hp=>by unfold gy;exact ⟨Nat.le_refl _,hp⟩,fun x p hp=>by unfold dY;exact ⟨Nat.le_refl _,hp⟩,fun p hp=>by unfold bN;exact gn (Nat.le_refl _) hp,fun acc p hp=>by unfold dX;exact gn (Nat.le_refl _) hp⟩
 |n+1=>by
  obtain ⟨hE,hB,hP,hA,hL⟩:=mx n;refine ⟨fun lvl p hp=>?_,fun lvl x p hp=>?_,fun x p hp=>?_,fun p hp=>?_,fun acc p hp=>?_⟩
  ·unfold aH;split
   ·cases ho:dx T lvl p with
    | none=>exact hE _ _ hp
    |some k =>
     have h1:=hE lvl (p+1) (hT.next hp (fd ho));simp only;cases hx:aH T n lvl (p+1) with
     | ok x q=>rw [hx] at h1;exact ⟨by have:=h1.1;omega,h1.2⟩
     | bad q=>rw [hx] at h1;exact ⟨by have:=h1.1;omega,h1.2⟩
   ·split
    ·have h1:=hA p hp;cases hx:bN T n p with
     | ok x q=>rw [hx] at h1;simp only;exact (hP x q h1.2).up h1.1
     | bad q=>rw [hx] at h1;exact h1
    ·have h1:=hE (lvl+1) p hp;cases hx:aH T n (lvl+1) p with
     | ok x q=>rw [hx] at h1;simp only;exact (hB lvl x q h1.2).up h1.1
     | bad q=>rw [hx] at h1;exact h1
  ·unfold gy;cases ho:dx T lvl p with
   | none=>exact ⟨Nat.le_refl _,hp⟩
   |some k =>
    have h1:=hE (lvl+1) (p+1) (hT.next hp (fd ho));simp only;cases hx:aH T n (lvl+1) (p+1) with
    | bad q=>rw [hx] at h1;exact ⟨by have:=h1.1;omega,h1.2⟩
    |ok y q =>
     rw [hx] at h1;simp only;split
     ·exact ⟨by have:=h1.1;omega,h1.2⟩
     ·exact (hB lvl _ q h1.2).mono (by have:=h1.1;omega)
  ·unfold dY;split
   ·rename_i hs
    have h1:=hT.next hp (av hs);split
    ·rename_i hk
     have h2:=hT.next h1 (by omega);exact (hP _ (p+2) h2).mono (by omega)
    ·exact ⟨by omega,h1⟩
   ·exact ⟨Nat.le_refl _,hp⟩
  ·unfold bN;split
   ·exact iQ (by omega) (hT.next hp (by omega))
   split
   ·exact iQ (by omega) (hT.next hp (by omega))
   split
   ·exact iQ (by omega) (hT.next hp (by omega))
   split
   ·rename_i hs;exact iQ (by omega) (hT.next hp (av hs))
   split
   ·rename_i hs;exact iQ (by omega) (hT.next hp (av hs))
   split
   ·rename_i hs;exact iQ (by omega) (hT.next hp (av hs))
   split
   ·rename_i hs
    have h0:=hT.next hp (av hs);have h1:=hE 1 (p+1) h0;cases hx:aH T n 1 (p+1) with
    | bad q=>rw [hx] at h1;exact ⟨by have:=h1.1;omega,h1.2⟩
    |ok y q =>
     rw [hx] at h1;simp only;split
     ·rename_i hs2;exact iQ (by have:=h1.1;omega) (hT.next h1.2 (av hs2))
     ·exact gn (by have:=h1.1;omega) h1.2
   split
   ·rename_i hs
    have h0:=hT.next hp (av hs);split
    ·rename_i hs2;exact iQ (by omega) (hT.next h0 (av hs2))
    ·exact (hL [] (p+1) h0).mono (by omega)
   ·exact gn (Nat.le_refl _) hp
  ·unfold dX;have h1:=hE 1 p hp;cases hx:aH T n 1 p with
   | bad q=>rw [hx] at h1;exact h1
   |ok y q =>
    rw [hx] at h1;simp only;split
    ·rename_i hs;exact (hL _ (q+1) (hT.next h1.2 (av hs))).mono (by have:=h1.1;omega)
    ·split
     ·rename_i hs;exact iQ (by have:=h1.1;omega) (hT.next h1.2 (av hs))
     ·exact gn (by have:=h1.1;omega) h1.2
theorem dS (n lvl p:Nat) (hp:p<T.length):(aH T n lvl p).In T p:=(mx hT n).1 lvl p hp
theorem qY:∀ (n:Nat),(∀ acc p,p<T.length→(bK T n acc p).In0 T p)∧(∀ p,p<T.length→(bW T n p).In T p)
 | 0=>⟨fun acc p hp=>by unfold bK;exact ⟨Nat.le_refl _,hp⟩,fun p hp=>by unfold bW;exact gn (Nat.le_refl _) hp⟩
 |n+1=>by
  obtain ⟨hS,hB⟩:=qY n;refine ⟨fun acc p hp=>?_,fun p hp=>?_⟩
  ·unfold bK;split
   ·rename_i hs
    have h1:=dS hT n 1 (p+1) (hT.next hp (av hs));cases hx:aH T n 1 (p+1) with
    | bad q=>rw [hx] at h1;exact ⟨by have:=h1.1;omega,h1.2⟩
    |ok a q =>
     rw [hx] at h1;simp only;split
     ·rename_i hs2
      have h2:=dS hT n 1 (q+1) (hT.next h1.2 (av hs2));cases hy:aH T n 1 (q+1) with
      | bad r=>rw [hy] at h2;exact ⟨by have:=h1.1;have:=h2.1;omega,h2.2⟩
      |ok b r =>
       rw [hy] at h2;simp only;split
       ·rename_i hs3;exact (hS _ (r+1) (hT.next h2.2 (av hs3))).mono (by have:=h1.1;have:=h2.1;omega)
       ·exact ⟨by have:=h1.1;have:=h2.1;omega,h2.2⟩
     ·exact ⟨by have:=h1.1;omega,h1.2⟩
   split
   ·rename_i hs
    have h1:=dS hT n 1 (p+1) (hT.next hp (av hs));cases hx:aH T n 1 (p+1) with
    | bad q=>rw [hx] at h1;exact ⟨by have:=h1.1;omega,h1.2⟩
    |ok a q =>
     rw [hx] at h1;simp only;have h2:=hB q h1.2;cases hy:bW T n q with
     | bad r=>rw [hy] at h2;exact ⟨by have:=h1.1;have:=h2.1;omega,h2.2⟩
     |ok body r =>
      rw [hy] at h2;simp only;split
      ·rename_i hs3
       have h3:=hB (r+1) (hT.next h2.2 (av hs3));cases hz:bW T n (r+1) with
       | bad u=>rw [hz] at h3;exact ⟨by have:=h1.1;have:=h2.1;have:=h3.1;omega,h3.2⟩
       | ok els u=>rw [hz] at h3;exact (hS _ u h3.2).mono (by have:=h1.1;have:=h2.1;have:=h3.1;omega)
      ·exact (hS _ r h2.2).mono (by have:=h1.1;have:=h2.1;omega)
   split
   ·rename_i hs
    have h0:=hT.next hp (av hs);split
    ·rename_i hk
     have h9:=hT.next h0 (by omega);split
     ·rename_i hs2
      have h1:=dS hT n 1 (p+3) (hT.next h9 (av hs2));cases hx:aH T n 1 (p+3) with
      | bad q=>rw [hx] at h1;exact ⟨by have:=h1.1;omega,h1.2⟩
      |ok a q =>
       rw [hx] at h1;simp only;have h2:=hB q h1.2;cases hy:bW T n q with
       | bad r=>rw [hy] at h2;exact ⟨by have:=h1.1;have:=h2.1;omega,h2.2⟩
       | ok body r=>rw [hy] at h2;exact (hS _ r h2.2).mono (by have:=h1.1;have:=h2.1;omega)
     ·exact ⟨by omega,h9⟩
    ·exact ⟨by omega,h0⟩
   ·exact ⟨Nat.le_refl _,hp⟩
  ·unfold bW;split
   ·rename_i hs
    have h0:=hT.next hp (av hs);have h1:=hS [] (p+1) h0;cases hx:bK T n [] (p+1) with
    | bad q=>rw [hx] at h1;exact ⟨by have:=h1.1;omega,h1.2⟩
    |ok l q =>
     rw [hx] at h1;simp only;split
     ·rename_i hs2;exact iQ (by have:=h1.1;omega) (hT.next h1.2 (av hs2))
     ·exact gn (by have:=h1.1;omega) h1.2
   ·exact gn (Nat.le_refl _) hp
end
def m9 (T:List ak):Nat:=12*(T.length+2)
def gG (T:List ak):PR (List SJ) :=
 match bK T (m9 T) [] 0 with
 | .bad p=>.bad p
 | .ok l p=>if tkK T p=6 then .ok l p else .bad p
abbrev LX:=Int × List UInt8 × Int
def ap (s:List UInt8):LX:=(5,s,0)
def aS (s:List UInt8):LX:=(2,s,0)
def eq (s:List UInt8):LX:=(1,s,0)
def ay (x:LX):List UInt8:=if x.1=4 then ie x.2.1 else x.2.1
def aE (k:Int):Nat :=
 if k=15 then 1 else if k=14 then 2 else if k=5 then 3 else if k=11∨k=12∨k=13 then 4 else if k=9∨k=10 then 5 else if k=8 then 6 else if k=6∨k=7 then 7 else if k=3 then 8 else 9
def opK (k:Int):LX :=
 if k=15 then aS [111,114] else if k=14 then aS [97,110,100] else if k=5 then aS [110,111,116] else if k=11 then ap [61,61] else if k=12 then ap [60] else if k=13 then ap [60,61]
 else if k=9 then ap [43] else if k=10 then ap [45] else if k=8 then ap [42] else if k=6 then aS [115,105,122,101] else aS [107,105,110,100]
def gu (v:JV):LX :=
 if v.kind=3 then (3,dV v.num,v.num) else if v.kind=4 then (4,v.txt,0) else if v.kind=1 then aS mz else if v.num=1 then aS iR else aS fL
def a8 (from_:Nat) (x:Nat × List LX):List LX:=if x.1<from_ then ap [40]::(x.2++[ap [41]]) else x.2
def bd:List (List LX)→List LX
 | []=>[]
 | [a]=>a
 | a::b::r=>a++ap [44]::bd (b::r)
def gT (l:Nat):Nat:=if l=4 then 5 else l
def cn (k:Int) (v:JV) (s:List UInt8) (ks:List (Nat × List LX)):List LX :=
 if k=1 then [gu v]
 else if k=2 then [eq s]
 else if k=3 then a8 8 (ks.headD (9,[]))++[ap [46],eq s]
 else if k=4 then ap [91]::(bd (ks.map (a8 1))++[ap [93]])
 else match ks with
  | [a]=>opK k::a8 (aE k) a
  | [a,b]=>a8 (gT (aE k)) a++opK k::a8 (aE k+1) b
  | _=>[]
mutual
/-- an expression's level and tokens -/
def az:EJ→Nat × List LX | .mk k v s kids=>(aE k,cn k v s (cD kids))
def cD:List EJ→List (Nat × List LX) | []=>[] | x::r=>az x::cD r
end
def ar (from_:Nat) (x:EJ):List LX:=a8 from_ (az x)
theorem iH:∀ l:List EJ,cD l=l.map az
 | []=>by unfold cD;rfl
 | x::r=>by unfold cD;rw [iH r];rfl
mutual
/-- the tokens of a statement -/
def dn:SJ→List LX
 | .mk k s a b body els =>
  if k=1 then aS dv::(ar 1 a++ap [44]::(ar 1 b++[ap [59]]))
  else (if k=3 then [aS fj,eq s,aS wIn] else [aS wIf])++(ar 1 a++ap [123]::(aq body++ap [125]::(if els.length=0 then [] else aS cS::ap [123]::(aq els++[ap [125]]))))
def aq:List SJ→List LX | []=>[] | x::r=>dn x++aq r
end
theorem kf:∀ l m:List SJ,aq (l++m)=aq l++aq m
 | [],m=>by show aq m=_;rw [aq];rfl
 | x::r,m=>by show aq (x::(r++m))=_;rw [aq,aq,kf r m,List.append_assoc]
def cK (c:UInt8):Bool:=aM c || aR c
def kF (was t:List UInt8):Bool:=(cK (was.getLastD 0) && cK (t.headD 0)) || (aR (was.headD 0) && t == [46])
def bD (was:List UInt8):List (List UInt8)→List UInt8
 | []=>[]
 | t::r=>(if kF was t=true then 32::t else t)++bD t r
def pV:List (List UInt8)→List UInt8
 | []=>[]
 | t::r=>t++bD t r
def fA (l:List SJ):List UInt8:=pV ((aq l).map ay)
def rdT (T:List ak) (p:Nat):LX:=(tkK T p,tkT T p,tkN T p)
def At (T:List ak) (p:Nat) (l:List LX):Prop:=∀ i x,l[i]? = some x→rdT T (p+i)=x
theorem At.app {T:List ak} {p:Nat} {a b:List LX}:At T p (a++b) ↔ At T p a∧At T (p+a.length) b:=by
 constructor
 ·intro h;refine ⟨fun i x hx=>h i x ?_,fun i x hx=>?_⟩
  ·rw [List.getElem?_append_left (List.getElem?_eq_some_iff.1 hx).1];exact hx
  ·rw [Nat.add_assoc];refine h (a.length+i) x ?_;rw [List.getElem?_append_right (by omega),Nat.add_sub_cancel_left];exact hx
 ·rintro ⟨h1,h2⟩ i x hx;rcases Nat.lt_or_ge i a.length with hi | hi
  ·rw [List.getElem?_append_left hi] at hx;exact h1 i x hx
  ·rw [List.getElem?_append_right hi] at hx;have:=h2 (i-a.length) x hx;rwa [show p+a.length+(i-a.length)=p+i by omega] at this
theorem At.cons {T:List ak} {p:Nat} {x:LX} {b:List LX}:At T p (x::b) ↔ rdT T p=x∧At T (p+1) b:=by
 constructor
 ·intro h;refine ⟨h 0 x rfl,fun i y hy=>?_⟩;have:=h (i+1) y (by simpa using hy);rwa [show p+(i+1)=p+1+i by omega] at this
 ·rintro ⟨h1,h2⟩ i y hy;cases i with
  |zero =>
   have:x=y:=by simpa using hy
   rw [← this];exact h1
  |succ i =>
   have:=h2 i y (by simpa using hy);rwa [show p+1+i=p+(i+1) by omega] at this
theorem At.nil {T:List ak} {p:Nat}:At T p []:=fun i x h=>by simp at h
theorem bc {T:List ak} {p:Nat} {k:Int} {t w:List UInt8} {n:Int} (h:rdT T p=(k,t,n)):am T p w=decide ((k=5∨k=2)∧t=w):=by
 unfold rdT at h;injection h with h1 h2
 injection h2 with h2 h3
 unfold am;rw [h1,h2]
theorem il {T:List ak} {p:Nat} {k:Int} {t:List UInt8} {n:Int} (h:rdT T p=(k,t,n)):tkK T p=k∧tkT T p=t∧tkN T p=n:=by
 unfold rdT at h;injection h with h1 h2
 injection h2 with h2 h3
 exact ⟨h1,h2,h3⟩
theorem oh {T:List ak} {p:Nat} {k:Int} {t:List UInt8} {n:Int} (h:rdT T p=(k,t,n)) (hk:k=5∨k=2):∀ l:List (List UInt8 × Int),fI T p l=(l.find? (fun x=>decide (t=x.1))).map (·.2)
 | []=>rfl
 |x::r=>by
  unfold fI;rw [bc h,oh h hk r,List.find?_cons];by_cases e:t=x.1<;>simp [e,hk]
def a9 (st:List UInt8 × Bool) (s:List UInt8):List UInt8 × Bool :=
 (st.1++((if st.1≠[]∧((cK (st.1.getLastD 0)=true∧cK (s.headD 0)=true)∨(st.2=true∧s.headD 0=46)) then [32] else [])++s),aR (s.headD 0))
def tq (s:List UInt8):Prop:=s≠[]∧(s.headD 0=46→s=[46])
theorem tR {α:Type} (x:α) (r:List α) (d d':α):(x::r).getLast?.getD d=(x::r).getLast?.getD d':=by
 cases h:(x::r).getLast? with
 | none=>simp at h
 | some v=>rfl
theorem jv {a b:List UInt8} (hb:b≠[]) (d:UInt8):(a++b).getLastD d=b.getLastD d:=by
 cases b with
 | nil=>exact absurd rfl hb
 | cons x r=>simp [List.getLastD_eq_getLast?];exact tR _ _ _ _
theorem pH:∀ (ls:List (List UInt8)) (was b:List UInt8) (f:Bool),(∀ s ∈ ls,tq s)→b≠[]→b.getLastD 0=was.getLastD 0→f=aR (was.headD 0) →
  ls.foldl a9 (b,f)=(b++bD was ls,aR ((ls.getLastD was).headD 0))
 | [],was,b,f,_,_,_,hf=>by show (b,f)=_;rw [hf];simp [bD]
 |s::r,was,b,f,hp,hb,hl,hf=>by
  obtain ⟨h1,h2⟩:=hp s List.mem_cons_self;have e:a9 (b,f) s=(b++(if kF was s=true then 32::s else s),aR (s.headD 0)):=by
   unfold a9 kF;simp only;rw [hl,hf];congr 2;by_cases hg:(cK (was.getLastD 0)=true∧cK (s.headD 0)=true)∨(aR (was.headD 0)=true∧s.headD 0=46)
   ·rw [if_pos ⟨hb,hg⟩,if_pos]
    ·rfl
    ·rw [Bool.or_eq_true,Bool.and_eq_true,Bool.and_eq_true,beq_iff_eq];exact hg.imp id fun h=>⟨h.1,h2 h.2⟩
   ·rw [if_neg (fun h=>hg h.2),if_neg]
    ·rfl
    ·rw [Bool.or_eq_true,Bool.and_eq_true,Bool.and_eq_true,beq_iff_eq];exact fun h=>hg (h.imp id fun h=>⟨h.1,by rw [h.2];rfl⟩)
  rw [List.foldl_cons,e,pH r s _ _ (fun t ht=>hp t (List.mem_cons_of_mem _ ht)) (by intro h;have:=congrArg List.length h;rw [List.length_append] at this;have:=List.length_pos_iff.2 hb;simp only [List.length_nil] at *;omega) (by
   split
   ·rw [jv (by simp)];have:(32::s).getLastD 0=s.getLastD 0:=by cases s with | nil=>exact absurd rfl h1 | cons x t=>simp [List.getLastD_eq_getLast?]
    exact this
   ·exact jv h1 0) rfl]
  rw [List.append_assoc];congr 2;cases r with
  | nil=>rfl
  | cons x t=>simp [List.getLastD_eq_getLast?];rw [tR x t s was]
theorem uD (ls:List (List UInt8)) (hp:∀ s ∈ ls,tq s):(ls.foldl a9 ([],false)).1=pV ls:=by
 cases ls with
 | nil=>rfl
 |cons s r =>
  have e:a9 ([],false) s=(s,aR (s.headD 0)):=by
   unfold a9;simp
  rw [List.foldl_cons,e,pH r s s _ (fun t ht=>hp t (List.mem_cons_of_mem _ ht)) (hp s List.mem_cons_self).1 rfl rfl];rfl
end
end Go.Proofs.YtgmnmnnoahdjnaaGreatDoor
