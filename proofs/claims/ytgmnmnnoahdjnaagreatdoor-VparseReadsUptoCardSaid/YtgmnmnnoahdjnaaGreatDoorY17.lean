import Derived.Test.YtgmnmnnoahdjnaaGreatDoorY15
set_option maxRecDepth 100000
set_option maxHeartbeats 16000000
set_option linter.unusedVariables false
set_option linter.unusedSimpArgs false
namespace Go.Proofs.YtgmnmnnoahdjnaaGreatDoor
section
inductive PR (α:Type) where
 | ok:α->Nat->PR α
 | bad:Nat->PR α
def tkK (T:List ap) (p:Nat):Int:=match T[p]? with | some t=>t.1 | none=>6
def tkT (T:List ap) (p:Nat):List UInt8:=match T[p]? with | some t=>t.2.2.1 | none=>[]
def tkN (T:List ap) (p:Nat):Int:=match T[p]? with | some t=>t.2.2.2 | none=>0
def tkA (T:List ap) (p:Nat):Nat:=match T[p]? with | some t=>t.2.1 | none=>0
def al (T:List ap) (p:Nat) (w:List UInt8):Bool:=decide ((tkK T p=5∨tkK T p=2)/\tkT T p=w)
def eZ:Nat->List (List UInt8 × Int)
 | 1=>[([111,114],15)]
 | 2=>[([97,110,100],14)]
 | 3=>[([110,111,116],5)]
 | 4=>[([61,61],11),([60],12),([60,61],13)]
 | 5=>[([43],9),([45],10)]
 | 6=>[([42],8)]
 | 7=>[([115,105,122,101],6),([107,105,110,100],7)]
 | _=>[]
def fs (T:List ap) (p:Nat):List (List UInt8 × Int)->Option Int
 | []=>none
 | x::r=>if al T p x.1=true then some x.2 else fs T p r
def eo (T:List ap) (lvl p:Nat):Option Int:=fs T p (eZ lvl)
def eOp (k:Int) (l:List EJ):EJ:=.mk k cS [] l
def dF (v:JV):EJ:=.mk 1 v [] []
def du:List UInt8:=[101,109,105,116]
def wIf:List UInt8:=[105,102]
def ep:List UInt8:=[101,108,115,101]
def iB:List UInt8:=[102,111,114]
def wIn:List UInt8:=[105,110]
def m9:List UInt8:=[110,117,108,108]
def gV:List UInt8:=[116,114,117,101]
def fA:List UInt8:=[102,97,108,115,101]
mutual
/-- an expression from a level on -/
def aS (T:List ap):Nat->Nat->Nat->PR EJ
 | 0,_,p=>.bad p
 |n+1,lvl,p =>
  if lvl=3∨lvl=7 then
   match eo T lvl p with
   |some k=>(match aS T n lvl (p+1) with
    | .ok x q=>.ok (eOp k [x]) q
    | .bad q=>.bad q)
   | none=>aS T n (lvl+1) p
  else if 8<=lvl then
   match dr T n p with
   | .ok x q=>fx T n x q
   | .bad q=>.bad q
  else match aS T n (lvl+1) p with
   | .ok x q=>js T n lvl x q
   | .bad q=>.bad q
/-- what stands behind an expression,of a level's operators -/
def js (T:List ap):Nat->Nat->EJ->Nat->PR EJ
 | 0,_,_,p=>.bad p
 |n+1,lvl,x,p=>match eo T lvl p with
  | none=>.ok x p
  |some k=>match aS T n (lvl+1) (p+1) with
   | .bad q=>.bad q
   | .ok y q=>if lvl=4 then .ok (eOp k [x,y]) q else js T n lvl (eOp k [x,y]) q
/-- names behind points -/
def fx (T:List ap):Nat->EJ->Nat->PR EJ
 | 0,_,p=>.bad p
 | n+1,x,p=>if al T p [46]=true then (if tkK T (p+1)=1 then fx T n (.mk 3 cS (tkT T (p+1)) [x]) (p+2) else .bad (p+1)) else .ok x p
/-- what stands alone -/
def dr (T:List ap):Nat->Nat->PR EJ
 | 0,p=>.bad p
 |n+1,p =>
  if tkK T p=1 then .ok (.mk 2 cS (tkT T p) []) (p+1)
  else if tkK T p=3 then .ok (dF (lQ (tkN T p))) (p+1)
  else if tkK T p=4 then .ok (dF (je (tkT T p))) (p+1)
  else if al T p m9=true then .ok (dF (.mk 1 0 [] [] [])) (p+1)
  else if al T p gV=true then .ok (dF (eY true)) (p+1)
  else if al T p fA=true then .ok (dF (eY false)) (p+1)
  else if al T p [40]=true then (match aS T n 1 (p+1) with
   | .ok x q=>if al T q [41]=true then .ok x (q+1) else .bad q
   | .bad q=>.bad q)
  else if al T p [91]=true then (if al T (p+1) [93]=true then .ok (eOp 4 []) (p+2) else fv T n [] (p+1))
  else .bad p
/-- the expressions of a list -/
def fv (T:List ap):Nat->List EJ->Nat->PR EJ
 | 0,_,p=>.bad p
 |n+1,acc,p=>match aS T n 1 p with
  | .bad q=>.bad q
  | .ok x q=>if al T q [44]=true then fv T n (acc++[x]) (q+1) else if al T q [93]=true then .ok (eOp 4 (acc++[x])) (q+1) else .bad q
end
mutual
/-- statements,as long as there are some -/
def cJ (T:List ap):Nat->List SJ->Nat->PR (List SJ)
 | 0,_,p=>.bad p
 |n+1,acc,p =>
  if al T p du=true then
   match aS T n 1 (p+1) with
   | .bad q=>.bad q
   | .ok a q=>if al T q [44]=true then (match aS T n 1 (q+1) with
     | .bad r=>.bad r
     | .ok b r=>if al T r [59]=true then cJ T n (acc++[.mk 1 [] a b [] []]) (r+1) else .bad r)
    else .bad q
  else if al T p wIf=true then
   match aS T n 1 (p+1) with
   | .bad q=>.bad q
   | .ok a q=>match bX T n q with
    | .bad r=>.bad r
    | .ok body r=>if al T r ep=true then (match bX T n (r+1) with
      | .bad u=>.bad u
      | .ok els u=>cJ T n (acc++[.mk 2 [] a aR body els]) u)
     else cJ T n (acc++[.mk 2 [] a aR body []]) r
  else if al T p iB=true then
   (if tkK T (p+1)=1 then
    (if al T (p+2) wIn=true then (match aS T n 1 (p+3) with
     | .bad q=>.bad q
     | .ok a q=>match bX T n q with
      | .bad r=>.bad r
      | .ok body r=>cJ T n (acc++[.mk 3 (tkT T (p+1)) a aR body []]) r)
    else .bad (p+2))
   else .bad (p+1))
  else .ok acc p
/-- statements in brackets -/
def bX (T:List ap):Nat->Nat->PR (List SJ)
 | 0,p=>.bad p
 |n+1,p=>if al T p [123]=true then (match cJ T n [] (p+1) with
   | .bad q=>.bad q
   | .ok l q=>if al T q [125]=true then .ok l (q+1) else .bad q)
  else .bad p
end
structure WT (T:List ap):Prop where
 last:∃ m,T.length=m+1/\tkK T m=6
 one:∀ p,p+1<T.length->tkK T p≠6
 words:∀ p,tkK T p=2->tkT T p ∈ cC
 signs:∀ p,tkK T p=5->tkT T p ∉ cC
 kinds:∀ p,1<=tkK T p/\tkK T p<=6
theorem WT.next {T:List ap} (h:WT T) {p:Nat} (hp:p<T.length) (hk:tkK T p≠6):p+1<T.length:=by
 obtain ⟨m,hm,h6⟩:=h.last;rcases Nat.lt_or_ge (p+1) T.length with h1 | h1
 ·exact h1
 ·obtain rfl:p=m:=by omega
  exact absurd h6 hk
theorem ar {T:List ap} {p:Nat} {w:List UInt8} (h:al T p w=true):tkK T p≠6:=by
 unfold al at h;rw [decide_eq_true_eq] at h;omega
theorem fu {T:List ap} {p:Nat}:∀ {l:List (List UInt8 × Int)} {k:Int},fs T p l=some k->tkK T p≠6
 | [],k,h=>by cases h
 |x::r,k,h=>by
  unfold fs at h;split at h
  ·rename_i hs;exact ar hs
  ·exact fu h
def PR.In {α:Type} (T:List ap) (p:Nat):PR α->Prop
 | .ok _ q=>p<q/\q<T.length
 | .bad q=>p<=q/\q<T.length
def PR.In0 {α:Type} (T:List ap) (p:Nat):PR α->Prop
 | .ok _ q=>p<=q/\q<T.length
 | .bad q=>p<=q/\q<T.length
theorem PR.In.mono {α:Type} {T:List ap} {p p':Nat} {r:PR α} (h:r.In T p) (hp:p'<=p):r.In T p':=by
 cases r<;>(unfold PR.In at h ⊢;omega)
theorem PR.In0.mono {α:Type} {T:List ap} {p p':Nat} {r:PR α} (h:r.In0 T p) (hp:p'<=p):r.In0 T p':=by
 cases r<;>(unfold PR.In0 at h ⊢;omega)
theorem PR.In0.up {α:Type} {T:List ap} {p p':Nat} {r:PR α} (h:r.In0 T p) (hp:p'<p):r.In T p':=by
 cases r<;>(unfold PR.In0 at h;unfold PR.In;omega)
theorem PR.In.zero {α:Type} {T:List ap} {p:Nat} {r:PR α} (h:r.In T p):r.In0 T p:=by
 cases r<;>(unfold PR.In at h;unfold PR.In0;omega)
theorem gL {α:Type} {T:List ap} {p q:Nat} (h:p<=q) (hq:q<T.length):(PR.bad q:PR α).In T p:=⟨h,hq⟩
theorem jg {α:Type} {T:List ap} {p q:Nat} {x:α} (h:p<q) (hq:q<T.length):(PR.ok x q).In T p:=⟨h,hq⟩
section
variable {T:List ap} (hT:WT T)
include hT
theorem mW:∀ (n:Nat),(∀ lvl p,p<T.length->(aS T n lvl p).In T p)/\(∀ lvl x p,p<T.length->(js T n lvl x p).In0 T p)/\(∀ x p,p<T.length->(fx T n x p).In0 T p)/\(∀ p,p<T.length->(dr T n p).In T p)/\(∀ acc p,p<T.length->(fv T n acc p).In T p)
 | 0=>⟨λ lvl p hp=>by unfold aS;exact gL (Nat.le_refl _) hp,λ lvl x p hp=>by unfold js;exact ⟨Nat.le_refl _,hp⟩,λ x p hp=>by unfold fx;exact ⟨Nat.le_refl _,hp⟩,λ p hp=>by unfold dr;exact gL (Nat.le_refl _) hp,λ acc p hp=>by unfold fv;exact gL (Nat.le_refl _) hp⟩
 |n+1=>by
  obtain ⟨hE,hB,hP,hA,hL⟩:=mW n;refine ⟨λ lvl p hp=>?_,λ lvl x p hp=>?_,λ x p hp=>?_,λ p hp=>?_,λ acc p hp=>?_⟩
  ·unfold aS;split
   ·cases ho:eo T lvl p with
    | none=>exact hE _ _ hp
    |some k =>
     have h1:=hE lvl (p+1) (hT.next hp (fu ho));simp only;cases hx:aS T n lvl (p+1) with
     | ok x q=>rw [hx] at h1;exact ⟨by have:=h1.1;omega,h1.2⟩
     | bad q=>rw [hx] at h1;exact ⟨by have:=h1.1;omega,h1.2⟩
   ·split
    ·have h1:=hA p hp;cases hx:dr T n p with
     | ok x q=>rw [hx] at h1;simp only;exact (hP x q h1.2).up h1.1
     | bad q=>rw [hx] at h1;exact h1
    ·have h1:=hE (lvl+1) p hp;cases hx:aS T n (lvl+1) p with
     | ok x q=>rw [hx] at h1;simp only;exact (hB lvl x q h1.2).up h1.1
     | bad q=>rw [hx] at h1;exact h1
  ·unfold js;cases ho:eo T lvl p with
   | none=>exact ⟨Nat.le_refl _,hp⟩
   |some k =>
    have h1:=hE (lvl+1) (p+1) (hT.next hp (fu ho));simp only;cases hx:aS T n (lvl+1) (p+1) with
    | bad q=>rw [hx] at h1;exact ⟨by have:=h1.1;omega,h1.2⟩
    |ok y q =>
     rw [hx] at h1;simp only;split
     ·exact ⟨by have:=h1.1;omega,h1.2⟩
     ·exact (hB lvl _ q h1.2).mono (by have:=h1.1;omega)
  ·unfold fx;split
   ·rename_i hs
    have h1:=hT.next hp (ar hs);split
    ·rename_i hk
     have h2:=hT.next h1 (by omega);exact (hP _ (p+2) h2).mono (by omega)
    ·exact ⟨by omega,h1⟩
   ·exact ⟨Nat.le_refl _,hp⟩
  ·unfold dr;split
   ·exact jg (by omega) (hT.next hp (by omega))
   split
   ·exact jg (by omega) (hT.next hp (by omega))
   split
   ·exact jg (by omega) (hT.next hp (by omega))
   split
   ·rename_i hs;exact jg (by omega) (hT.next hp (ar hs))
   split
   ·rename_i hs;exact jg (by omega) (hT.next hp (ar hs))
   split
   ·rename_i hs;exact jg (by omega) (hT.next hp (ar hs))
   split
   ·rename_i hs
    have h0:=hT.next hp (ar hs);have h1:=hE 1 (p+1) h0;cases hx:aS T n 1 (p+1) with
    | bad q=>rw [hx] at h1;exact ⟨by have:=h1.1;omega,h1.2⟩
    |ok y q =>
     rw [hx] at h1;simp only;split
     ·rename_i hs2;exact jg (by have:=h1.1;omega) (hT.next h1.2 (ar hs2))
     ·exact gL (by have:=h1.1;omega) h1.2
   split
   ·rename_i hs
    have h0:=hT.next hp (ar hs);split
    ·rename_i hs2;exact jg (by omega) (hT.next h0 (ar hs2))
    ·exact (hL [] (p+1) h0).mono (by omega)
   ·exact gL (Nat.le_refl _) hp
  ·unfold fv;have h1:=hE 1 p hp;cases hx:aS T n 1 p with
   | bad q=>rw [hx] at h1;exact h1
   |ok y q =>
    rw [hx] at h1;simp only;split
    ·rename_i hs;exact (hL _ (q+1) (hT.next h1.2 (ar hs))).mono (by have:=h1.1;omega)
    ·split
     ·rename_i hs;exact jg (by have:=h1.1;omega) (hT.next h1.2 (ar hs))
     ·exact gL (by have:=h1.1;omega) h1.2
theorem ej (n lvl p:Nat) (hp:p<T.length):(aS T n lvl p).In T p:=(mW hT n).1 lvl p hp
theorem rJ:∀ (n:Nat),(∀ acc p,p<T.length->(cJ T n acc p).In0 T p)/\(∀ p,p<T.length->(bX T n p).In T p)
 | 0=>⟨λ acc p hp=>by unfold cJ;exact ⟨Nat.le_refl _,hp⟩,λ p hp=>by unfold bX;exact gL (Nat.le_refl _) hp⟩
 |n+1=>by
  obtain ⟨hS,hB⟩:=rJ n;refine ⟨λ acc p hp=>?_,λ p hp=>?_⟩
  ·unfold cJ;split
   ·rename_i hs
    have h1:=ej hT n 1 (p+1) (hT.next hp (ar hs));cases hx:aS T n 1 (p+1) with
    | bad q=>rw [hx] at h1;exact ⟨by have:=h1.1;omega,h1.2⟩
    |ok a q =>
     rw [hx] at h1;simp only;split
     ·rename_i hs2
      have h2:=ej hT n 1 (q+1) (hT.next h1.2 (ar hs2));cases hy:aS T n 1 (q+1) with
      | bad r=>rw [hy] at h2;exact ⟨by have:=h1.1;have:=h2.1;omega,h2.2⟩
      |ok b r =>
       rw [hy] at h2;simp only;split
       ·rename_i hs3;exact (hS _ (r+1) (hT.next h2.2 (ar hs3))).mono (by have:=h1.1;have:=h2.1;omega)
       ·exact ⟨by have:=h1.1;have:=h2.1;omega,h2.2⟩
     ·exact ⟨by have:=h1.1;omega,h1.2⟩
   split
   ·rename_i hs
    have h1:=ej hT n 1 (p+1) (hT.next hp (ar hs));cases hx:aS T n 1 (p+1) with
    | bad q=>rw [hx] at h1;exact ⟨by have:=h1.1;omega,h1.2⟩
    |ok a q =>
     rw [hx] at h1;simp only;have h2:=hB q h1.2;cases hy:bX T n q with
     | bad r=>rw [hy] at h2;exact ⟨by have:=h1.1;have:=h2.1;omega,h2.2⟩
     |ok body r =>
      rw [hy] at h2;simp only;split
      ·rename_i hs3
       have h3:=hB (r+1) (hT.next h2.2 (ar hs3));cases hz:bX T n (r+1) with
       | bad u=>rw [hz] at h3;exact ⟨by have:=h1.1;have:=h2.1;have:=h3.1;omega,h3.2⟩
       | ok els u=>rw [hz] at h3;exact (hS _ u h3.2).mono (by have:=h1.1;have:=h2.1;have:=h3.1;omega)
      ·exact (hS _ r h2.2).mono (by have:=h1.1;have:=h2.1;omega)
   split
   ·rename_i hs
    have h0:=hT.next hp (ar hs);split
    ·rename_i hk
     have h9:=hT.next h0 (by omega);split
     ·rename_i hs2
      have h1:=ej hT n 1 (p+3) (hT.next h9 (ar hs2));cases hx:aS T n 1 (p+3) with
      | bad q=>rw [hx] at h1;exact ⟨by have:=h1.1;omega,h1.2⟩
      |ok a q =>
       rw [hx] at h1;simp only;have h2:=hB q h1.2;cases hy:bX T n q with
       | bad r=>rw [hy] at h2;exact ⟨by have:=h1.1;have:=h2.1;omega,h2.2⟩
       | ok body r=>rw [hy] at h2;exact (hS _ r h2.2).mono (by have:=h1.1;have:=h2.1;omega)
     ·exact ⟨by omega,h9⟩
    ·exact ⟨by omega,h0⟩
   ·exact ⟨Nat.le_refl _,hp⟩
  ·unfold bX;split
   ·rename_i hs
    have h0:=hT.next hp (ar hs);have h1:=hS [] (p+1) h0;cases hx:cJ T n [] (p+1) with
    | bad q=>rw [hx] at h1;exact ⟨by have:=h1.1;omega,h1.2⟩
    |ok l q =>
     rw [hx] at h1;simp only;split
     ·rename_i hs2;exact jg (by have:=h1.1;omega) (hT.next h1.2 (ar hs2))
     ·exact gL (by have:=h1.1;omega) h1.2
   ·exact gL (Nat.le_refl _) hp
end
def va (T:List ap):Nat:=12*(T.length+2)
def fL (T:List ap):PR (List SJ) :=
 match cJ T (va T) [] 0 with
 | .bad p=>.bad p
 | .ok l p=>if tkK T p=6 then .ok l p else .bad p
abbrev LX:=Int × List UInt8 × Int
def aK (s:List UInt8):LX:=(5,s,0)
def cF (s:List UInt8):LX:=(2,s,0)
def jf (s:List UInt8):LX:=(1,s,0)
def bF (x:LX):List UInt8:=if x.1=4 then mX x.2.1 else x.2.1
def bt (k:Int):Nat :=
 if k=15 then 1 else if k=14 then 2 else if k=5 then 3 else if k=11∨k=12∨k=13 then 4 else if k=9∨k=10 then 5 else if k=8 then 6 else if k=6∨k=7 then 7 else if k=3 then 8 else 9
def opK (k:Int):LX :=
 if k=15 then cF [111,114] else if k=14 then cF [97,110,100] else if k=5 then cF [110,111,116] else if k=11 then aK [61,61] else if k=12 then aK [60] else if k=13 then aK [60,61]
 else if k=9 then aK [43] else if k=10 then aK [45] else if k=8 then aK [42] else if k=6 then cF [115,105,122,101] else cF [107,105,110,100]
def lW (v:JV):LX :=
 if v.kind=3 then (3,iZ v.num,v.num) else if v.kind=4 then (4,v.txt,0) else if v.kind=1 then cF m9 else if v.num=1 then cF gV else cF fA
def fP (from_:Nat) (x:Nat × List LX):List LX:=if x.1<from_ then aK [40]::(x.2++[aK [41]]) else x.2
def de:List (List LX)->List LX
 | []=>[]
 | [a]=>a
 | a::b::r=>a++aK [44]::de (b::r)
def tg (l:Nat):Nat:=if l=4 then 5 else l
def dE (k:Int) (v:JV) (s:List UInt8) (ks:List (Nat × List LX)):List LX :=
 if k=1 then [lW v]
 else if k=2 then [jf s]
 else if k=3 then fP 8 (ks.headD (9,[]))++[aK [46],jf s]
 else if k=4 then aK [91]::(de (ks.map (fP 1))++[aK [93]])
 else match ks with
  | [a]=>opK k::fP (bt k) a
  | [a,b]=>fP (tg (bt k)) a++opK k::fP (bt k+1) b
  | _=>[]
mutual
/-- an expression's level and tokens -/
def jb:EJ->Nat × List LX | .mk k v s kids=>(bt k,dE k v s (dW kids))
def dW:List EJ->List (Nat × List LX) | []=>[] | x::r=>jb x::dW r
end
def bI (from_:Nat) (x:EJ):List LX:=fP from_ (jb x)
theorem kA:∀ l:List EJ,dW l=l.map jb
 | []=>by unfold dW;rfl
 | x::r=>by unfold dW;rw [kA r];rfl
mutual
/-- the tokens of a statement -/
def gY:SJ->List LX
 | .mk k s a b body els =>
  if k=1 then cF du::(bI 1 a++aK [44]::(bI 1 b++[aK [59]]))
  else (if k=3 then [cF iB,jf s,cF wIn] else [cF wIf])++(bI 1 a++aK [123]::(aT body++aK [125]::(if els.length=0 then [] else cF ep::aK [123]::(aT els++[aK [125]]))))
def aT:List SJ->List LX | []=>[] | x::r=>gY x++aT r
end
theorem kB:∀ l m:List SJ,aT (l++m)=aT l++aT m
 | [],m=>by show aT m=_;rw [aT];rfl
 | x::r,m=>by show aT (x::(r++m))=_;rw [aT,aT,kB r m,List.append_assoc]
def cR (c:UInt8):Bool:=ay c || aJ c
def yc (was t:List UInt8):Bool:=(cR (was.getLastD 0) && cR (t.headD 0)) || (aJ (was.headD 0) && t == [46])
def jW (was:List UInt8):List (List UInt8)->List UInt8
 | []=>[]
 | t::r=>(if yc was t=true then 32::t else t)++jW t r
def xL:List (List UInt8)->List UInt8
 | []=>[]
 | t::r=>t++jW t r
def mj (l:List SJ):List UInt8:=xL ((aT l).map bF)
def rdT (T:List ap) (p:Nat):LX:=(tkK T p,tkT T p,tkN T p)
theorem sH {T:List ap} {p:Nat} {k:Int} {t w:List UInt8} {n:Int} (h:rdT T p=(k,t,n)):al T p w=decide ((k=5∨k=2)/\t=w):=by
 unfold rdT at h;injection h with h1 h2
 injection h2 with h2 h3
 unfold al;rw [h1,h2]
theorem oZ {T:List ap} {p:Nat} {k:Int} {t:List UInt8} {n:Int} (h:rdT T p=(k,t,n)) (hk:k=5∨k=2):∀ l:List (List UInt8 × Int),fs T p l=(l.find? (λ x=>decide (t=x.1))).map (·.2)
 | []=>rfl
 |x::r=>by
  unfold fs;rw [sH h,oZ h hk r,List.find?_cons];by_cases e:t=x.1<;>simp [e,hk]
def a6 (st:List UInt8 × Bool) (s:List UInt8):List UInt8 × Bool :=
 (st.1++((if st.1≠[]/\((cR (st.1.getLastD 0)=true/\cR (s.headD 0)=true)∨(st.2=true/\s.headD 0=46)) then [32] else [])++s),aJ (s.headD 0))
def t9 (s:List UInt8):Prop:=s≠[]/\(s.headD 0=46->s=[46])
theorem uE {α:Type} (x:α) (r:List α) (d d':α):(x::r).getLast?.getD d=(x::r).getLast?.getD d':=by
 cases h:(x::r).getLast? with
 | none=>simp at h
 | some v=>rfl
theorem jI {a b:List UInt8} (hb:b≠[]) (d:UInt8):(a++b).getLastD d=b.getLastD d:=by
 cases b with
 | nil=>exact absurd rfl hb
 | cons x r=>simp [List.getLastD_eq_getLast?];exact uE _ _ _ _
theorem qj:∀ (ls:List (List UInt8)) (was b:List UInt8) (f:Bool),(∀ s ∈ ls,t9 s)->b≠[]->b.getLastD 0=was.getLastD 0->f=aJ (was.headD 0) ->
  ls.foldl a6 (b,f)=(b++jW was ls,aJ ((ls.getLastD was).headD 0))
 | [],was,b,f,_,_,_,hf=>by show (b,f)=_;rw [hf];simp [jW]
 |s::r,was,b,f,hp,hb,hl,hf=>by
  obtain ⟨h1,h2⟩:=hp s List.mem_cons_self;have e:a6 (b,f) s=(b++(if yc was s=true then 32::s else s),aJ (s.headD 0)):=by
   unfold a6 yc;simp only;rw [hl,hf];congr 2;by_cases hg:(cR (was.getLastD 0)=true/\cR (s.headD 0)=true)∨(aJ (was.headD 0)=true/\s.headD 0=46)
   ·rw [if_pos ⟨hb,hg⟩,if_pos]
    ·rfl
    ·rw [Bool.or_eq_true,Bool.and_eq_true,Bool.and_eq_true,beq_iff_eq];exact hg.imp id λ h=>⟨h.1,h2 h.2⟩
   ·rw [if_neg (λ h=>hg h.2),if_neg]
    ·rfl
    ·rw [Bool.or_eq_true,Bool.and_eq_true,Bool.and_eq_true,beq_iff_eq];exact λ h=>hg (h.imp id λ h=>⟨h.1,by rw [h.2];rfl⟩)
  rw [List.foldl_cons,e,qj r s _ _ (λ t ht=>hp t (List.mem_cons_of_mem _ ht)) (by intro h;have:=congrArg List.length h;rw [List.length_append] at this;have:=List.length_pos_iff.2 hb;simp only [List.length_nil] at *;omega) (by
   split
   ·rw [jI (by simp)];have:(32::s).getLastD 0=s.getLastD 0:=by cases s with | nil=>exact absurd rfl h1 | cons x t=>simp [List.getLastD_eq_getLast?]
    exact this
   ·exact jI h1 0) rfl]
  rw [List.append_assoc];congr 2;cases r with
  | nil=>rfl
  | cons x t=>simp [List.getLastD_eq_getLast?];rw [uE x t s was]
theorem vi (ls:List (List UInt8)) (hp:∀ s ∈ ls,t9 s):(ls.foldl a6 ([],false)).1=xL ls:=by
 cases ls with
 | nil=>rfl
 |cons s r =>
  have e:a6 ([],false) s=(s,aJ (s.headD 0)):=by
   unfold a6;simp
  rw [List.foldl_cons,e,qj r s s _ (λ t ht=>hp t (List.mem_cons_of_mem _ ht)) (hp s List.mem_cons_self).1 rfl rfl];rfl
def fJ (k:Int):Int:=if k=1∨k=2 then 0 else if k=3∨k=5∨k=6∨k=7 then 1 else if k=4 then -1 else 2
mutual
def dpR:Nat->EJ->Nat
 | room,.mk k v s kids=>if room=0 then 13 else if okX k v s kids.length=true then (match dpL (room-1) kids with | none=>0 | some m=>m+1) else 0
def dpL:Nat->List EJ->Option Nat
 | _,[]=>some 0
 | room,x::r=>if dpR room x=0 then none else match dpL room r with | none=>none | some m=>some (max (dpR room x) m)
end
def dpF (r:Nat) (l:List EJ):Nat:=l.foldl (λ m x=>if m<dpR r x then dpR r x else m) 0
theorem lF {r:Nat}:∀ {l:List EJ} {x:EJ},x ∈ l->dpR r x=0->dpL r l=none
 |y::l,x,hx,h0=>by
  unfold dpL;rcases List.mem_cons.1 hx with rfl | hx
  ·rw [if_pos h0]
  ·split
   ·rfl
   ·rw [lF hx h0]
theorem um {r:Nat}:∀ (l:List EJ) (m:Nat),(∀ x ∈ l,dpR r x≠0)->∃ q,dpL r l=some q/\l.foldl (λ m x=>if m<dpR r x then dpR r x else m) m=max m q
 | [],m,_=>⟨0,by rw [dpL],by simp⟩
 |x::l,m,h=>by
  obtain ⟨q,h1,h2⟩:=um l (if m<dpR r x then dpR r x else m) λ y hy=>h y (List.mem_cons_of_mem _ hy)
  refine ⟨max (dpR r x) q,by rw [dpL,if_neg (h x List.mem_cons_self),h1],?_⟩;rw [List.foldl_cons,h2];split<;>omega
theorem lG {r:Nat} {l:List EJ} (h:∀ x ∈ l,dpR r x≠0):dpL r l=some (dpF r l):=by
 obtain ⟨q,h1,h2⟩:=um l 0 h;unfold dpF;rw [h1,h2,Nat.zero_max]
theorem qV {r n:Nat}:∀ {l:List EJ} {q:Nat},dpL r l=some q->(q<n+1 ↔ ∀ x ∈ l,dpR r x<n+1)
 |[],q,h=>by
  rw [dpL] at h;obtain rfl:=Option.some.inj h;simp
 |x::l,q,h=>by
  rw [dpL] at h;split at h
  ·cases h
  ·split at h
   ·cases h
   ·rename_i m hm
    obtain rfl:=Option.some.inj h;have:=qV (n:=n) hm;simp only [List.mem_cons,forall_eq_or_imp,← this];omega
theorem wt {r:Nat}:∀ {l:List EJ} {q:Nat},dpL r l=some q->∀ x ∈ l,dpR r x≠0
 |y::l,q,h,x,hx=>by
  intro e;rw [lF hx e] at h;cases h
theorem ns:∀ (R:Nat) (x:EJ),(dpR R x≠0/\dpR R x<R) ↔ (R≠0/\bM (R-1) x≠0)
 |0,.mk k v s kids=>by
  constructor
  ·rintro ⟨_,h⟩;omega
  ·rintro ⟨h,_⟩;exact absurd rfl h
 |1,.mk k v s kids=>by
  constructor
  ·rintro ⟨h1,h2⟩;omega
  ·rintro ⟨_,h⟩;exact absurd rfl (cD h).1
 |n+2,.mk k v s kids=>by
  have ih:=λ x=>ns (n+1) x
  constructor
  ·rintro ⟨h1,h2⟩;refine ⟨by omega,?_⟩;rw [dpR,if_neg (by omega)] at h1 h2;by_cases hk:okX k v s kids.length=true
   ·rw [if_pos hk] at h1 h2;cases hd:dpL (n+2-1) kids with
    | none=>rw [hd] at h1;exact absurd rfl h1
    |some q =>
     rw [hd] at h2;refine qT (by omega) hk λ x hx=>?_
     have h3:q+1<n+2:=h2;have:=(ih x).1 ⟨wt hd x hx,(qV hd).1 (by omega) x hx⟩;exact this.2
   ·rw [if_neg hk] at h1;exact absurd rfl h1
  ·rintro ⟨_,h⟩;obtain ⟨_,hk,hkids⟩:=cD h;have h9:∀ x ∈ kids,dpR (n+1) x≠0/\dpR (n+1) x<n+1:=λ x hx=>(ih x).2 ⟨by omega,hkids x hx⟩
   rw [dpR,if_neg (by omega),if_pos hk,show n+2-1=n+1 by omega,lG λ x hx=>(h9 x hx).1];refine ⟨by simp,?_⟩;have:=(qV (n:=n) (lG λ x hx=>(h9 x hx).1)).2 λ x hx=>(h9 x hx).2
   show dpF (n+1) kids+1<n+2
   omega
theorem ul (x:EJ):(1<=dpR 13 x/\dpR 13 x<=12) ↔ gW x:=by
 have:=ns 13 x;unfold gW;constructor
 ·rintro ⟨h1,h2⟩;exact (this.1 ⟨by omega,by omega⟩).2
 ·intro h;have h9:=this.2 ⟨by omega,h⟩;omega
def okA (k:Int) (nk:Nat):Bool:=decide (1<=k/\k<=15) && (decide (fJ k<0) || decide ((nk:Int)=fJ k))
def okB (k:Int) (v:JV):Bool:=if k=1 then ee v else dj v
def okC (k:Int) (s:List UInt8):Bool:=if k=2∨k=3 then dB s else decide (s=[])
theorem wM (k:Int) (v:JV) (s:List UInt8) (nk:Nat):okX k v s nk=(okA k nk && (okB k v && okC k s)):=by
 have hk:k<1∨15<k∨k=1∨k=2∨k=3∨k=4∨(5<=k/\k<=7)∨(8<=k/\k<=15):=by omega
 unfold okX okA okB okC;rcases hk with h | h | rfl | rfl | rfl | rfl | ⟨h,h'⟩ | ⟨h,h'⟩
 ·have e:decide (1<=k/\k<=15)=false:=decide_eq_false (by omega);rw [e,if_neg (by omega)];split
  ·simp
  ·rw [if_neg (by omega),if_neg (by omega),if_neg (by omega),if_neg (by omega),if_neg (by omega)];simp
 ·have e:decide (1<=k/\k<=15)=false:=decide_eq_false (by omega);rw [e,if_neg (by omega)];split
  ·simp
  ·rw [if_neg (by omega),if_neg (by omega),if_neg (by omega),if_neg (by omega),if_neg (by omega)];simp
 ·simp [fJ];cases ee v<;>simp [Bool.and_comm]
 ·simp [fJ];cases dj v<;>simp [Bool.and_comm]
 ·have e3:decide ((nk:Int)=1)=decide (nk=1):=by rw [decide_eq_decide];omega
  simp [fJ,e3];cases dj v<;>simp [Bool.and_comm]
 ·simp [fJ]
 ·have n1:¬ k=1:=by omega
  have n2:¬ k=2:=by omega
  have n3:¬ k=3:=by omega
  have n4:¬ k=4:=by omega
  have n5:5<=k/\k<=7:=by omega
  have n6:¬ (k=2∨k=3):=by omega
  have e:decide (1<=k/\k<=15)=true:=decide_eq_true (by omega);have e2:fJ k=1:=by unfold fJ;rw [if_neg (by omega),if_pos (by omega)]
  have e3:decide ((nk:Int)=1)=decide (nk=1):=by rw [decide_eq_decide];omega
  rw [if_neg n1,if_neg n1,if_neg n2,if_neg n3,if_neg n4,if_pos n5,if_neg n6,e,e2,e3];cases dj v<;>simp [Bool.and_comm]
 ·have n1:¬ k=1:=by omega
  have n2:¬ k=2:=by omega
  have n3:¬ k=3:=by omega
  have n4:¬ k=4:=by omega
  have n5:¬ (5<=k/\k<=7):=by omega
  have n6:¬ (k=2∨k=3):=by omega
  have n7:8<=k/\k<=15:=by omega
  have e:decide (1<=k/\k<=15)=true:=decide_eq_true (by omega);have e2:fJ k=2:=by unfold fJ;rw [if_neg (by omega),if_neg (by omega),if_neg (by omega)]
  have e3:decide ((nk:Int)=2)=decide (nk=2):=by rw [decide_eq_decide];omega
  rw [if_neg n1,if_neg n1,if_neg n2,if_neg n3,if_neg n4,if_neg n5,if_pos n7,if_neg n6,e,e2,e3];cases dj v<;>simp [Bool.and_comm]
end
end Go.Proofs.YtgmnmnnoahdjnaaGreatDoor
