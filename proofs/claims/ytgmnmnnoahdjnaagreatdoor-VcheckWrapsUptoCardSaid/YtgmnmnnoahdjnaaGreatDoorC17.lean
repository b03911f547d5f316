import Derived.Test.YtgmnmnnoahdjnaaGreatDoorC14
import Derived.Test.YtgmnmnnoahdjnaaGreatDoorC12
import Derived.Test.YtgmnmnnoahdjnaaGreatDoorC13
open Go.Value renaming int → Zi, slice → Zs, string → Zt, pointer → Zp
open Go.IntKind renaming i64 → Zq
set_option maxRecDepth 100000
set_option maxHeartbeats 16000000
set_option linter.unusedVariables false
set_option linter.unusedSimpArgs false
namespace Go.Proofs.YtgmnmnnoahdjnaaGreatDoor
section
mutual
/-- how much an expression is in all -/
def bZ:EJ->Nat | .mk _ v s kids=>1+b8 v+s.length+bM kids
def bM:List EJ->Nat | []=>0 | x::r=>bZ x+bM r
end
mutual
/-- how much a statement is in all -/
def eI:SJ->Nat | .mk _ s a b body els=>1+s.length+bZ a+bZ b+aA body+aA els
def aA:List SJ->Nat | []=>0 | x::r=>eI x+aA r
end
theorem kM:∀ l:List EJ,bM l=(l.map bZ).sum
 | []=>rfl
 | x::r=>by unfold bM;rw [kM r];rfl
theorem jd:∀ l:List SJ,aA l=(l.map eI).sum
 | []=>rfl
 | x::r=>by unfold aA;rw [jd r];rfl
theorem kN:∀ a b:List SJ,aA (a++b)=aA a+aA b
 | [],b=>by simp [aA]
 | x::r,b=>by rw [List.cons_append,aA,aA,kN r b];omega
theorem mX:∀ (n:Nat) (l:List SJ),aA (l.take n)<=aA l
 | 0,l=>by simp [aA]
 | n+1,[]=>Nat.le_refl _
 | n+1,x::r=>by have:=mX n r;rw [List.take_succ_cons,aA,aA];omega
def fR (v:JV):Bool:=fY v && (decide (v.kind=3/\0<=v.num) || decide (v.kind=1∨v.kind=2∨v.kind=4))
def ig:JV->Bool | .mk k n s kids keys=>decide (k=0/\n=0/\s=[]/\kids.length+keys.length=0)
def fe (s:List UInt8):Bool:=dg ⟨s.toArray⟩
def okX (k:Int) (v:JV) (s:List UInt8) (nk:Nat):Bool :=
 if k=1 then fR v && decide (s=[]/\nk=0)
 else if ig v=false then false
 else if k=2 then fe s && decide (nk=0)
 else if k=3 then fe s && decide (nk=1)
 else if k=4 then decide (s=[])
 else if 5<=k/\k<=7 then decide (s=[]/\nk=1)
 else if 8<=k/\k<=15 then decide (s=[]/\nk=2)
 else false
mutual
/-- how deep an expression is that may be,within so many levels;0: it may not be -/
def bw:Nat->EJ->Nat
 | room,.mk k v s kids=>if room=0 then 0 else if okX k v s kids.length=true then (match cJ (room-1) kids with | none=>0 | some m=>m+1) else 0
def cJ:Nat->List EJ->Option Nat
 | _,[]=>some 0
 | room,x::r=>if bw room x=0 then none else match cJ room r with | none=>none | some m=>some (max (bw room x) m)
end
def o4 (x:EJ):Prop:=bw 12 x≠0
instance (x:EJ):Decidable (o4 x):=by unfold o4;infer_instance
def fW:EJ->Bool | .mk k v s kids=>decide (k=0/\s=[]/\kids.length=0) && ig v
mutual
/-- may a statement be,within so many levels? -/
def ly:Nat->SJ->Bool
 | room,.mk k s a b body els=>decide (room≠0) && (decide (o4 a) &&
   (if k=1 then decide (o4 b) && decide (s=[]/\body.length+els.length=0)
    else if k=2 then fW b && (decide (s=[]) && (cF (room-1) body && cF (room-1) els))
    else if k=3 then fW b && (fe s && (cF (room-1) body && decide (els.length=0)))
    else false))
def cF:Nat->List SJ->Bool
 | _,[]=>true
 | room,x::r=>ly room x && cF room r
end
def fG (l:List SJ):Bool:=cF 12 l
theorem my {d:Nat}:∀ {xs:List SJ},cF d xs=true ↔ ∀ x ∈ xs,ly d x=true
 | []=>by simp [cF]
 | x::r=>by simp [cF,my (xs:=r)]
theorem rI {r:Nat} {x:EJ} {l:List EJ}:cJ r (x::l)≠none ↔ bw r x≠0/\cJ r l≠none:=by
 rw [cJ];by_cases h:bw r x=0
 ·rw [if_pos h];simp [h]
 ·rw [if_neg h];cases hd:cJ r l<;>simp [h]
theorem km {r:Nat}:∀ {l:List EJ},cJ r l≠none ↔ ∀ x ∈ l,bw r x≠0
 | []=>by simp [cJ]
 | x::l=>by rw [rI,km (l:=l)];simp
theorem cG {r:Nat} {k:Int} {v:JV} {s:List UInt8} {kids:List EJ} (h:bw r (.mk k v s kids)≠0):r≠0/\okX k v s kids.length=true/\∀ x ∈ kids,bw (r-1) x≠0:=by
 unfold bw at h;by_cases h0:r=0
 ·rw [if_pos h0] at h;exact absurd rfl h
 ·rw [if_neg h0] at h;by_cases h1:okX k v s kids.length=true
  ·rw [if_pos h1] at h;refine ⟨h0,h1,km.1 λ e=>?_⟩;rw [e] at h;exact h rfl
  ·rw [if_neg h1] at h;exact absurd rfl h
def fP (b:Bool):JV:=.mk 2 (if b=true then 1 else 0) [] [] []
def nr (n:Int):JV:=.mk 3 n [] [] []
def jX (s:List UInt8):JV:=.mk 4 0 s [] []
theorem wi {d:Nat} {l m:List SJ}:cF d (l++m)=(cF d l && cF d m):=by
 induction l with
 | nil=>simp [cF]
 | cons x r ih=>show (ly d x && cF d (r++m))=_;rw [ih,cF,Bool.and_assoc]
inductive PR (α:Type) where
 | ok:α->Nat->PR α
 | bad:Nat->PR α
def tkK (T:List ak) (p:Nat):Int:=match T[p]? with | some t=>t.1 | none=>6
def tkT (T:List ak) (p:Nat):List UInt8:=match T[p]? with | some t=>t.2.2.1 | none=>[]
def tkN (T:List ak) (p:Nat):Int:=match T[p]? with | some t=>t.2.2.2 | none=>0
def tkA (T:List ak) (p:Nat):Nat:=match T[p]? with | some t=>t.2.1 | none=>0
def al (T:List ak) (p:Nat) (w:List UInt8):Bool:=decide ((tkK T p=5∨tkK T p=2)/\tkT T p=w)
def eU:Nat->List (List UInt8 × Int)
 | 1=>[([111,114],15)]
 | 2=>[([97,110,100],14)]
 | 3=>[([110,111,116],5)]
 | 4=>[([61,61],11),([60],12),([60,61],13)]
 | 5=>[([43],9),([45],10)]
 | 6=>[([42],8)]
 | 7=>[([115,105,122,101],6),([107,105,110,100],7)]
 | _=>[]
def ga (T:List ak) (p:Nat):List (List UInt8 × Int)->Option Int
 | []=>none
 | x::r=>if al T p x.1=true then some x.2 else ga T p r
def dx (T:List ak) (lvl p:Nat):Option Int:=ga T p (eU lvl)
def eOp (k:Int) (l:List EJ):EJ:=.mk k cn [] l
def fa (v:JV):EJ:=.mk 1 v [] []
def dF:List UInt8:=[101,109,105,116]
def wIf:List UInt8:=[105,102]
def dc:List UInt8:=[101,108,115,101]
def fJ:List UInt8:=[102,111,114]
def wIn:List UInt8:=[105,110]
def nw:List UInt8:=[110,117,108,108]
def jm:List UInt8:=[116,114,117,101]
def gi:List UInt8:=[102,97,108,115,101]
mutual
/-- an expression from a level on -/
def aC (T:List ak):Nat->Nat->Nat->PR EJ
 | 0,_,p=>.bad p
 |n+1,lvl,p =>
  if lvl=3∨lvl=7 then
   match dx T lvl p with
   |some k=>(match aC T n lvl (p+1) with
    | .ok x q=>.ok (eOp k [x]) q
    | .bad q=>.bad q)
   | none=>aC T n (lvl+1) p
  else if 8<=lvl then
   match bz T n p with
   | .ok x q=>dK T n x q
   | .bad q=>.bad q
  else match aC T n (lvl+1) p with
   | .ok x q=>fI T n lvl x q
   | .bad q=>.bad q
/-- what stands behind an expression,of a level's operators -/
def fI (T:List ak):Nat->Nat->EJ->Nat->PR EJ
 | 0,_,_,p=>.bad p
 |n+1,lvl,x,p=>match dx T lvl p with
  | none=>.ok x p
  |some k=>match aC T n (lvl+1) (p+1) with
   | .bad q=>.bad q
   | .ok y q=>if lvl=4 then .ok (eOp k [x,y]) q else fI T n lvl (eOp k [x,y]) q
/-- names behind points -/
def dK (T:List ak):Nat->EJ->Nat->PR EJ
 | 0,_,p=>.bad p
 | n+1,x,p=>if al T p [46]=true then (if tkK T (p+1)=1 then dK T n (.mk 3 cn (tkT T (p+1)) [x]) (p+2) else .bad (p+1)) else .ok x p
/-- what stands alone -/
def bz (T:List ak):Nat->Nat->PR EJ
 | 0,p=>.bad p
 |n+1,p =>
  if tkK T p=1 then .ok (.mk 2 cn (tkT T p) []) (p+1)
  else if tkK T p=3 then .ok (fa (nr (tkN T p))) (p+1)
  else if tkK T p=4 then .ok (fa (jX (tkT T p))) (p+1)
  else if al T p nw=true then .ok (fa (.mk 1 0 [] [] [])) (p+1)
  else if al T p jm=true then .ok (fa (fP true)) (p+1)
  else if al T p gi=true then .ok (fa (fP false)) (p+1)
  else if al T p [40]=true then (match aC T n 1 (p+1) with
   | .ok x q=>if al T q [41]=true then .ok x (q+1) else .bad q
   | .bad q=>.bad q)
  else if al T p [91]=true then (if al T (p+1) [93]=true then .ok (eOp 4 []) (p+2) else dJ T n [] (p+1))
  else .bad p
/-- the expressions of a list -/
def dJ (T:List ak):Nat->List EJ->Nat->PR EJ
 | 0,_,p=>.bad p
 |n+1,acc,p=>match aC T n 1 p with
  | .bad q=>.bad q
  | .ok x q=>if al T q [44]=true then dJ T n (acc++[x]) (q+1) else if al T q [93]=true then .ok (eOp 4 (acc++[x])) (q+1) else .bad q
end
mutual
/-- statements,as long as there are some -/
def bt (T:List ak):Nat->List SJ->Nat->PR (List SJ)
 | 0,_,p=>.bad p
 |n+1,acc,p =>
  if al T p dF=true then
   match aC T n 1 (p+1) with
   | .bad q=>.bad q
   | .ok a q=>if al T q [44]=true then (match aC T n 1 (q+1) with
     | .bad r=>.bad r
     | .ok b r=>if al T r [59]=true then bt T n (acc++[.mk 1 [] a b [] []]) (r+1) else .bad r)
    else .bad q
  else if al T p wIf=true then
   match aC T n 1 (p+1) with
   | .bad q=>.bad q
   | .ok a q=>match br T n q with
    | .bad r=>.bad r
    | .ok body r=>if al T r dc=true then (match br T n (r+1) with
      | .bad u=>.bad u
      | .ok els u=>bt T n (acc++[.mk 2 [] a aM body els]) u)
     else bt T n (acc++[.mk 2 [] a aM body []]) r
  else if al T p fJ=true then
   (if tkK T (p+1)=1 then
    (if al T (p+2) wIn=true then (match aC T n 1 (p+3) with
     | .bad q=>.bad q
     | .ok a q=>match br T n q with
      | .bad r=>.bad r
      | .ok body r=>bt T n (acc++[.mk 3 (tkT T (p+1)) a aM body []]) r)
    else .bad (p+2))
   else .bad (p+1))
  else .ok acc p
/-- statements in brackets -/
def br (T:List ak):Nat->Nat->PR (List SJ)
 | 0,p=>.bad p
 |n+1,p=>if al T p [123]=true then (match bt T n [] (p+1) with
   | .bad q=>.bad q
   | .ok l q=>if al T q [125]=true then .ok l (q+1) else .bad q)
  else .bad p
end
structure WT (T:List ak):Prop where
 last:∃ m,T.length=m+1/\tkK T m=6
 one:∀ p,p+1<T.length->tkK T p≠6
 words:∀ p,tkK T p=2->tkT T p ∈ cR
 signs:∀ p,tkK T p=5->tkT T p ∉ cR
 kinds:∀ p,1<=tkK T p/\tkK T p<=6
theorem WT.next {T:List ak} (h:WT T) {p:Nat} (hp:p<T.length) (hk:tkK T p≠6):p+1<T.length:=by
 obtain ⟨m,hm,h6⟩:=h.last;rcases Nat.lt_or_ge (p+1) T.length with h1 | h1
 ·exact h1
 ·obtain rfl:p=m:=by omega
  exact absurd h6 hk
theorem au {T:List ak} {p:Nat} {w:List UInt8} (h:al T p w=true):tkK T p≠6:=by
 unfold al at h;rw [decide_eq_true_eq] at h;omega
theorem fD {T:List ak} {p:Nat}:∀ {l:List (List UInt8 × Int)} {k:Int},ga T p l=some k->tkK T p≠6
 | [],k,h=>by cases h
 |x::r,k,h=>by
  unfold ga at h;split at h
  ·rename_i hs;exact au hs
  ·exact fD h
def PR.In {α:Type} (T:List ak) (p:Nat):PR α->Prop
 | .ok _ q=>p<q/\q<T.length
 | .bad q=>p<=q/\q<T.length
def PR.In0 {α:Type} (T:List ak) (p:Nat):PR α->Prop
 | .ok _ q=>p<=q/\q<T.length
 | .bad q=>p<=q/\q<T.length
theorem PR.In.mono {α:Type} {T:List ak} {p p':Nat} {r:PR α} (h:r.In T p) (hp:p'<=p):r.In T p':=by
 cases r<;>(unfold PR.In at h ⊢;omega)
theorem PR.In0.mono {α:Type} {T:List ak} {p p':Nat} {r:PR α} (h:r.In0 T p) (hp:p'<=p):r.In0 T p':=by
 cases r<;>(unfold PR.In0 at h ⊢;omega)
theorem PR.In0.up {α:Type} {T:List ak} {p p':Nat} {r:PR α} (h:r.In0 T p) (hp:p'<p):r.In T p':=by
 cases r<;>(unfold PR.In0 at h;unfold PR.In;omega)
theorem PR.In.zero {α:Type} {T:List ak} {p:Nat} {r:PR α} (h:r.In T p):r.In0 T p:=by
 cases r<;>(unfold PR.In at h;unfold PR.In0;omega)
theorem gO {α:Type} {T:List ak} {p q:Nat} (h:p<=q) (hq:q<T.length):(PR.bad q:PR α).In T p:=⟨h,hq⟩
theorem jl {α:Type} {T:List ak} {p q:Nat} {x:α} (h:p<q) (hq:q<T.length):(PR.ok x q).In T p:=⟨h,hq⟩
section
variable {T:List ak} (hT:WT T)
include hT
theorem nu:∀ (n:Nat),(∀ lvl p,p<T.length->(aC T n lvl p).In T p)/\(∀ lvl x p,p<T.length->(fI T n lvl x p).In0 T p)/\(∀ x p,p<T.length->(dK T n x p).In0 T p)/\(∀ p,p<T.length->(bz T n p).In T p)/\(∀ acc p,p<T.length->(dJ T n acc p).In T p)
 | 0=>⟨λ lvl p hp=>by unfold aC;exact gO (Nat.le_refl _) hp,λ lvl x p hp=>by unfold fI;exact ⟨Nat.le_refl _,hp⟩,λ x p hp=>by unfold dK;exact ⟨Nat.le_refl _,hp⟩,λ p hp=>by unfold bz;exact gO (Nat.le_refl _) hp,λ acc p hp=>by unfold dJ;exact gO (Nat.le_refl _) hp⟩
 |n+1=>by
  obtain ⟨hE,hB,hP,hA,hL⟩:=nu n;refine ⟨λ lvl p hp=>?_,λ lvl x p hp=>?_,λ x p hp=>?_,λ p hp=>?_,λ acc p hp=>?_⟩
  ·unfold aC;split
   ·cases ho:dx T lvl p with
    | none=>exact hE _ _ hp
    |some k =>
     have h1:=hE lvl (p+1) (hT.next hp (fD ho));simp only;cases hx:aC T n lvl (p+1) with
     | ok x q=>rw [hx] at h1;exact ⟨by have:=h1.1;omega,h1.2⟩
     | bad q=>rw [hx] at h1;exact ⟨by have:=h1.1;omega,h1.2⟩
   ·split
    ·have h1:=hA p hp;cases hx:bz T n p with
     | ok x q=>rw [hx] at h1;simp only;exact (hP x q h1.2).up h1.1
     | bad q=>rw [hx] at h1;exact h1
    ·have h1:=hE (lvl+1) p hp;cases hx:aC T n (lvl+1) p with
     | ok x q=>rw [hx] at h1;simp only;exact (hB lvl x q h1.2).up h1.1
     | bad q=>rw [hx] at h1;exact h1
  ·unfold fI;cases ho:dx T lvl p with
   | none=>exact ⟨Nat.le_refl _,hp⟩
   |some k =>
    have h1:=hE (lvl+1) (p+1) (hT.next hp (fD ho));simp only;cases hx:aC T n (lvl+1) (p+1) with
    | bad q=>rw [hx] at h1;exact ⟨by have:=h1.1;omega,h1.2⟩
    |ok y q =>
     rw [hx] at h1;simp only;split
     ·exact ⟨by have:=h1.1;omega,h1.2⟩
     ·exact (hB lvl _ q h1.2).mono (by have:=h1.1;omega)
  ·unfold dK;split
   ·rename_i hs
    have h1:=hT.next hp (au hs);split
    ·rename_i hk
     have h2:=hT.next h1 (by omega);exact (hP _ (p+2) h2).mono (by omega)
    ·exact ⟨by omega,h1⟩
   ·exact ⟨Nat.le_refl _,hp⟩
  ·unfold bz;split
   ·exact jl (by omega) (hT.next hp (by omega))
   split
   ·exact jl (by omega) (hT.next hp (by omega))
   split
   ·exact jl (by omega) (hT.next hp (by omega))
   split
   ·rename_i hs;exact jl (by omega) (hT.next hp (au hs))
   split
   ·rename_i hs;exact jl (by omega) (hT.next hp (au hs))
   split
   ·rename_i hs;exact jl (by omega) (hT.next hp (au hs))
   split
   ·rename_i hs
    have h0:=hT.next hp (au hs);have h1:=hE 1 (p+1) h0;cases hx:aC T n 1 (p+1) with
    | bad q=>rw [hx] at h1;exact ⟨by have:=h1.1;omega,h1.2⟩
    |ok y q =>
     rw [hx] at h1;simp only;split
     ·rename_i hs2;exact jl (by have:=h1.1;omega) (hT.next h1.2 (au hs2))
     ·exact gO (by have:=h1.1;omega) h1.2
   split
   ·rename_i hs
    have h0:=hT.next hp (au hs);split
    ·rename_i hs2;exact jl (by omega) (hT.next h0 (au hs2))
    ·exact (hL [] (p+1) h0).mono (by omega)
   ·exact gO (Nat.le_refl _) hp
  ·unfold dJ;have h1:=hE 1 p hp;cases hx:aC T n 1 p with
   | bad q=>rw [hx] at h1;exact h1
   |ok y q =>
    rw [hx] at h1;simp only;split
    ·rename_i hs;exact (hL _ (q+1) (hT.next h1.2 (au hs))).mono (by have:=h1.1;omega)
    ·split
     ·rename_i hs;exact jl (by have:=h1.1;omega) (hT.next h1.2 (au hs))
     ·exact gO (by have:=h1.1;omega) h1.2
theorem eh (n lvl p:Nat) (hp:p<T.length):(aC T n lvl p).In T p:=(nu hT n).1 lvl p hp
theorem sw:∀ (n:Nat),(∀ acc p,p<T.length->(bt T n acc p).In0 T p)/\(∀ p,p<T.length->(br T n p).In T p)
 | 0=>⟨λ acc p hp=>by unfold bt;exact ⟨Nat.le_refl _,hp⟩,λ p hp=>by unfold br;exact gO (Nat.le_refl _) hp⟩
 |n+1=>by
  obtain ⟨hS,hB⟩:=sw n;refine ⟨λ acc p hp=>?_,λ p hp=>?_⟩
  ·unfold bt;split
   ·rename_i hs
    have h1:=eh hT n 1 (p+1) (hT.next hp (au hs));cases hx:aC T n 1 (p+1) with
    | bad q=>rw [hx] at h1;exact ⟨by have:=h1.1;omega,h1.2⟩
    |ok a q =>
     rw [hx] at h1;simp only;split
     ·rename_i hs2
      have h2:=eh hT n 1 (q+1) (hT.next h1.2 (au hs2));cases hy:aC T n 1 (q+1) with
      | bad r=>rw [hy] at h2;exact ⟨by have:=h1.1;have:=h2.1;omega,h2.2⟩
      |ok b r =>
       rw [hy] at h2;simp only;split
       ·rename_i hs3;exact (hS _ (r+1) (hT.next h2.2 (au hs3))).mono (by have:=h1.1;have:=h2.1;omega)
       ·exact ⟨by have:=h1.1;have:=h2.1;omega,h2.2⟩
     ·exact ⟨by have:=h1.1;omega,h1.2⟩
   split
   ·rename_i hs
    have h1:=eh hT n 1 (p+1) (hT.next hp (au hs));cases hx:aC T n 1 (p+1) with
    | bad q=>rw [hx] at h1;exact ⟨by have:=h1.1;omega,h1.2⟩
    |ok a q =>
     rw [hx] at h1;simp only;have h2:=hB q h1.2;cases hy:br T n q with
     | bad r=>rw [hy] at h2;exact ⟨by have:=h1.1;have:=h2.1;omega,h2.2⟩
     |ok body r =>
      rw [hy] at h2;simp only;split
      ·rename_i hs3
       have h3:=hB (r+1) (hT.next h2.2 (au hs3));cases hz:br T n (r+1) with
       | bad u=>rw [hz] at h3;exact ⟨by have:=h1.1;have:=h2.1;have:=h3.1;omega,h3.2⟩
       | ok els u=>rw [hz] at h3;exact (hS _ u h3.2).mono (by have:=h1.1;have:=h2.1;have:=h3.1;omega)
      ·exact (hS _ r h2.2).mono (by have:=h1.1;have:=h2.1;omega)
   split
   ·rename_i hs
    have h0:=hT.next hp (au hs);split
    ·rename_i hk
     have h9:=hT.next h0 (by omega);split
     ·rename_i hs2
      have h1:=eh hT n 1 (p+3) (hT.next h9 (au hs2));cases hx:aC T n 1 (p+3) with
      | bad q=>rw [hx] at h1;exact ⟨by have:=h1.1;omega,h1.2⟩
      |ok a q =>
       rw [hx] at h1;simp only;have h2:=hB q h1.2;cases hy:br T n q with
       | bad r=>rw [hy] at h2;exact ⟨by have:=h1.1;have:=h2.1;omega,h2.2⟩
       | ok body r=>rw [hy] at h2;exact (hS _ r h2.2).mono (by have:=h1.1;have:=h2.1;omega)
     ·exact ⟨by omega,h9⟩
    ·exact ⟨by omega,h0⟩
   ·exact ⟨Nat.le_refl _,hp⟩
  ·unfold br;split
   ·rename_i hs
    have h0:=hT.next hp (au hs);have h1:=hS [] (p+1) h0;cases hx:bt T n [] (p+1) with
    | bad q=>rw [hx] at h1;exact ⟨by have:=h1.1;omega,h1.2⟩
    |ok l q =>
     rw [hx] at h1;simp only;split
     ·rename_i hs2;exact jl (by have:=h1.1;omega) (hT.next h1.2 (au hs2))
     ·exact gO (by have:=h1.1;omega) h1.2
   ·exact gO (Nat.le_refl _) hp
end
def n9 (T:List ak):Nat:=12*(T.length+2)
def gJ (T:List ak):PR (List SJ) :=
 match bt T (n9 T) [] 0 with
 | .bad p=>.bad p
 | .ok l p=>if tkK T p=6 then .ok l p else .bad p
abbrev LX:=Int × List UInt8 × Int
def ap (s:List UInt8):LX:=(5,s,0)
def aS (s:List UInt8):LX:=(2,s,0)
def eR (s:List UInt8):LX:=(1,s,0)
def ay (x:LX):List UInt8:=if x.1=4 then iF x.2.1 else x.2.1
def a8 (k:Int):Nat :=
 if k=15 then 1 else if k=14 then 2 else if k=5 then 3 else if k=11∨k=12∨k=13 then 4 else if k=9∨k=10 then 5 else if k=8 then 6 else if k=6∨k=7 then 7 else if k=3 then 8 else 9
def opK (k:Int):LX :=
 if k=15 then aS [111,114] else if k=14 then aS [97,110,100] else if k=5 then aS [110,111,116] else if k=11 then ap [61,61] else if k=12 then ap [60] else if k=13 then ap [60,61]
 else if k=9 then ap [43] else if k=10 then ap [45] else if k=8 then ap [42] else if k=6 then aS [115,105,122,101] else aS [107,105,110,100]
def gU (v:JV):LX :=
 if v.kind=3 then (3,ep v.num,v.num) else if v.kind=4 then (4,v.txt,0) else if v.kind=1 then aS nw else if v.num=1 then aS jm else aS gi
def bu (from_:Nat) (x:Nat × List LX):List LX:=if x.1<from_ then ap [40]::(x.2++[ap [41]]) else x.2
def bg:List (List LX)->List LX
 | []=>[]
 | [a]=>a
 | a::b::r=>a++ap [44]::bg (b::r)
def mj (l:Nat):Nat:=if l=4 then 5 else l
def cI (k:Int) (v:JV) (s:List UInt8) (ks:List (Nat × List LX)):List LX :=
 if k=1 then [gU v]
 else if k=2 then [eR s]
 else if k=3 then bu 8 (ks.headD (9,[]))++[ap [46],eR s]
 else if k=4 then ap [91]::(bg (ks.map (bu 1))++[ap [93]])
 else match ks with
  | [a]=>opK k::bu (a8 k) a
  | [a,b]=>bu (mj (a8 k)) a++opK k::bu (a8 k+1) b
  | _=>[]
mutual
/-- an expression's level and tokens -/
def az:EJ->Nat × List LX | .mk k v s kids=>(a8 k,cI k v s (cW kids))
def cW:List EJ->List (Nat × List LX) | []=>[] | x::r=>az x::cW r
end
def aw (from_:Nat) (x:EJ):List LX:=bu from_ (az x)
theorem jf:∀ l:List EJ,cW l=l.map az
 | []=>by unfold cW;rfl
 | x::r=>by unfold cW;rw [jf r];rfl
mutual
/-- the tokens of a statement -/
def dA:SJ->List LX
 | .mk k s a b body els =>
  if k=1 then aS dF::(aw 1 a++ap [44]::(aw 1 b++[ap [59]]))
  else (if k=3 then [aS fJ,eR s,aS wIn] else [aS wIf])++(aw 1 a++ap [123]::(aq body++ap [125]::(if els.length=0 then [] else aS dc::ap [123]::(aq els++[ap [125]]))))
def aq:List SJ->List LX | []=>[] | x::r=>dA x++aq r
end
theorem kQ:∀ l m:List SJ,aq (l++m)=aq l++aq m
 | [],m=>by show aq m=_;rw [aq];rfl
 | x::r,m=>by show aq (x::(r++m))=_;rw [aq,aq,kQ r m,List.append_assoc]
def cQ (c:UInt8):Bool:=aN c || a9 c
def ml (was t:List UInt8):Bool:=(cQ (was.getLastD 0) && cQ (t.headD 0)) || (a9 (was.headD 0) && t == [46])
def bF (was:List UInt8):List (List UInt8)->List UInt8
 | []=>[]
 | t::r=>(if ml was t=true then 32::t else t)++bF t r
def rh:List (List UInt8)->List UInt8
 | []=>[]
 | t::r=>t++bF t r
def ff (l:List SJ):List UInt8:=rh ((aq l).map ay)
def rdT (T:List ak) (p:Nat):LX:=(tkK T p,tkT T p,tkN T p)
def At (T:List ak) (p:Nat) (l:List LX):Prop:=∀ i x,l[i]? = some x->rdT T (p+i)=x
theorem At.app {T:List ak} {p:Nat} {a b:List LX}:At T p (a++b) ↔ At T p a/\At T (p+a.length) b:=by
 constructor
 ·intro h;refine ⟨λ i x hx=>h i x ?_,λ i x hx=>?_⟩
  ·rw [List.getElem?_append_left (List.getElem?_eq_some_iff.1 hx).1];exact hx
  ·rw [Nat.add_assoc];refine h (a.length+i) x ?_;rw [List.getElem?_append_right (by omega),Nat.add_sub_cancel_left];exact hx
 ·rintro ⟨h1,h2⟩ i x hx;rcases Nat.lt_or_ge i a.length with hi | hi
  ·rw [List.getElem?_append_left hi] at hx;exact h1 i x hx
  ·rw [List.getElem?_append_right hi] at hx;have:=h2 (i-a.length) x hx;rwa [show p+a.length+(i-a.length)=p+i by omega] at this
theorem At.cons {T:List ak} {p:Nat} {x:LX} {b:List LX}:At T p (x::b) ↔ rdT T p=x/\At T (p+1) b:=by
 constructor
 ·intro h;refine ⟨h 0 x rfl,λ i y hy=>?_⟩;have:=h (i+1) y (by simpa using hy);rwa [show p+(i+1)=p+1+i by omega] at this
 ·rintro ⟨h1,h2⟩ i y hy;cases i with
  |zero =>
   have:x=y:=by simpa using hy
   rw [← this];exact h1
  |succ i =>
   have:=h2 i y (by simpa using hy);rwa [show p+1+i=p+(i+1) by omega] at this
theorem At.nil {T:List ak} {p:Nat}:At T p []:=λ i x h=>by simp at h
theorem bf {T:List ak} {p:Nat} {k:Int} {t w:List UInt8} {n:Int} (h:rdT T p=(k,t,n)):al T p w=decide ((k=5∨k=2)/\t=w):=by
 unfold rdT at h;injection h with h1 h2
 injection h2 with h2 h3
 unfold al;rw [h1,h2]
theorem iJ {T:List ak} {p:Nat} {k:Int} {t:List UInt8} {n:Int} (h:rdT T p=(k,t,n)):tkK T p=k/\tkT T p=t/\tkN T p=n:=by
 unfold rdT at h;injection h with h1 h2
 injection h2 with h2 h3
 exact ⟨h1,h2,h3⟩
theorem pj {T:List ak} {p:Nat} {k:Int} {t:List UInt8} {n:Int} (h:rdT T p=(k,t,n)) (hk:k=5∨k=2):∀ l:List (List UInt8 × Int),ga T p l=(l.find? (λ x=>decide (t=x.1))).map (·.2)
 | []=>rfl
 |x::r=>by
  unfold ga;rw [bf h,pj h hk r,List.find?_cons];by_cases e:t=x.1<;>simp [e,hk]
end
section
open Go.RowKit
attribute [local go_sem] aa ac ae ab
def dP (l:List UInt8) (p:Nat):oO :=
 let r:=cD l p
 if r.2.2=0 then .inl (3,(l.drop p).take (r.2.1.toNat-p),r.1,r.2.1.toNat) else .inr (r.2.1,r.2.2)
def ie (l:List UInt8) (p:Nat):oO :=
 let r:=dE l p
 if r.2.2=0 then .inl (4,r.1,0,r.2.1.toNat) else .inr (r.2.1,r.2.2)
theorem xm (w:World) (g:Nat) (A:Option Addr) (cap:Nat) (l:List UInt8) (p:Nat) (hG:GOK w) (hV:VB w g A cap l p 0) (hp:p<l.length) (hcap:l.length<=cap) (hlen:l.length<=4194304) :
  Calls Tryz.prog 131 #[Zp (some ⟨g,0,none⟩)] w (fK (ie l p) p w g A cap l):=by
 obtain ⟨hc,hf,hlt⟩:=hV.1.rules;have hgw:g<w.heap.size:=hV.1.lt;have HV:=aW hV;have HG:=aW hG;have hbs:=λ W (hr:Rd W A (am l)) hg=>ux (Zs A l.length cap) l p W hg ⟨A,cap,rfl,hcap,hr⟩ hlen
 obtain ⟨⟨t,m,er⟩,hr⟩:∃ r,dE l p=r:=⟨_,rfl⟩
 rw [hr] at hbs;have HO:=aW (show er=0->∃ n:Nat,m=n/\p<n/\n<=l.length from λ h=>by have:=qU (l:=l) (a:=p);rw [hr] at this;exact this h);have HS:=aW (show ie l p=if er=0 then .inl (4,t,0,m.toNat) else .inr (m,er) by unfold ie;rw [hr]);have HQ:=aW hbs;clear hV hG hbs hr;unfold cB at hc;have HQ1:=aW (HQ.out ((w.alloc (.cells #[Zi Zq 0,Zi Zq 0,Zt ⟨#[]⟩,Zi Zq 0] 86)).drew) (HV.out.2.alloc _) ((HG.out.alloc _).drewN 1));have hst0:aP w g A cap l p 0 ((w.alloc (.cells #[Zi Zq 0,Zi Zq 0,Zt ⟨#[]⟩,Zi Zq 0] 86)).drew):=((aP.refl HV.out).alloc _).drewN 1;have hr0:Blk (w.alloc (.cells #[Zi Zq 0,Zi Zq 0,Zt ⟨#[]⟩,Zi Zq 0] 86)) w.heap.size 86 #[Zi Zq 0,Zi Zq 0,Zt ⟨#[]⟩,Zi Zq 0]:=Blk.new _ _ _;go_enter Tryz.func131,Tryz.ntmps131;go_wp2;go_region_held3 (λ w'=>w'.cell? ⟨g,0,none⟩=some (Zi Zq (p:Int))/\w'.cell? ⟨g,2,none⟩=some (Zs A l.length cap)) (go_keep) ((go_at_call 169;refine HQ1.out.mono ?_;rintro e w1 ⟨rfl,hb1⟩;have hst1:=hst0.keep hb1;have hR1:=(hr0.drew).keep hb1;have h10:=hst1.1.1.cell 0;have h12:=hst1.1.1.cell 2;unfold cB at h10 h12;simp at h10 h12));have hn:=hR1.lt;have hg1:=hst1.1.1.lt;have hf1:=hst1.1.1.frozen;have hfr:=hR1.frozen;have hcr:=hR1.cell;by_cases her:er=0
 ·obtain ⟨n,hn1,hn2,hn3⟩:=HO.out her;subst her;subst hn1;have hz:((0:Int) != 0)=false:=rfl;go_wp2;have hR2:=hR1.far (p:=⟨g,0,none⟩) (show w.heap.size≠g by omega) (Zi Zq n);obtain ⟨cf,_,_⟩:=((Blk.put4 hR2 (Zi Zq 4) (Zi Zq p) (Zt ⟨t.toArray⟩) (Zi Zq 0)).alloc (.cells #[Zi Zq 4,Zi Zq p,Zt ⟨t.toArray⟩,Zi Zq 0] 86)).rules;refine bodyPost_ret (v:=.agg #[Zi Zq 4,Zi Zq p,Zt ⟨t.toArray⟩,Zi Zq 0]) (by simp only [results,Tryz.results131];go_simp) rfl ?_;rw [HS.out,if_pos trivial,Int.toNat_natCast];exact ⟨rfl,((hst1.set0 n).put4 hR2 (Nat.le_refl _) hgw _ _ _ _).alloc _⟩
 ·have hz:(er != 0)=true:=by simp;omega
  go_wp2_with (go_at_call 167;refine (gB _ g _ cap l _ _ _ _ hst1.1).mono ?_;rintro e w3 ⟨rfl,hst5⟩;have hR3:=hR1.grown hst5.2 (by simp;omega);obtain ⟨cr3,fr3,lr3⟩:=hR3.rules;unfold ia);obtain ⟨cf,_,_⟩:=(Blk.put4 hR3 (Zi Zq 0) (Zi Zq 0) (Zt ⟨#[]⟩) (Zi Zq 0)).rules;refine bodyPost_ret (v:=.agg #[Zi Zq 0,Zi Zq 0,Zt ⟨#[]⟩,Zi Zq 0]) (by simp only [results,Tryz.results131];go_simp) rfl ?_;rw [HS.out,if_neg her];exact ⟨rfl,(hst1.trans hst5).put4 hR3 (Nat.le_refl _) hgw _ _ _ _⟩
theorem sd (w:World) (g:Nat) (A:Option Addr) (cap:Nat) (l:List UInt8) (p:Nat) (hV:VB w g A cap l p 0) (hp:p<l.length) (hcap:l.length<=cap) (hlen:l.length<=4194304) :
  Calls Tryz.prog 129 #[Zp (some ⟨g,0,none⟩)] w (fK (dP l p) p w g A cap l):=by
 obtain ⟨hc,hf,hlt⟩:=hV.1.rules;have hgw:g<w.heap.size:=hV.1.lt;obtain ⟨b,o,rfl,hb,_⟩:=hV.byte (List.getElem?_eq_getElem hp);have HV:=aW hV;have hbs:=λ W (hr:Rd W (some ⟨b,o,none⟩) (am l))=>qN W (Zs (some ⟨b,o,none⟩) l.length cap) l p ⟨_,cap,rfl,hcap,hr⟩ hlen
 obtain ⟨⟨v,m,er⟩,hr⟩:∃ r,cD l p=r:=⟨_,rfl⟩
 rw [hr] at hbs;have HO:=aW (show er=0->∃ n:Nat,m=n/\p<=n/\n<=l.length from λ h=>by have:=mH (l:=l) (a:=p);rw [hr] at this;exact this h);have HS:=aW (show dP l p=if er=0 then .inl (3,(l.drop p).take (m.toNat-p),v,m.toNat) else .inr (m,er) by unfold dP;rw [hr]);have HQ:=aW hbs;clear hV hbs hr;unfold cB at hc;have HQ1:=aW (HQ.out ((w.alloc (.cells #[Zi Zq 0,Zi Zq 0,Zt ⟨#[]⟩,Zi Zq 0] 86)).drew) (HV.out.2.alloc _));have hst0:aP w g (some ⟨b,o,none⟩) cap l p 0 ((w.alloc (.cells #[Zi Zq 0,Zi Zq 0,Zt ⟨#[]⟩,Zi Zq 0] 86)).drew):=((aP.refl HV.out).alloc _).drewN 1;have hr0:Blk (w.alloc (.cells #[Zi Zq 0,Zi Zq 0,Zt ⟨#[]⟩,Zi Zq 0] 86)) w.heap.size 86 #[Zi Zq 0,Zi Zq 0,Zt ⟨#[]⟩,Zi Zq 0]:=Blk.new _ _ _;go_enter Tryz.func129,Tryz.ntmps129;go_wp2;go_region_held3 (λ w'=>w'.cell? ⟨g,0,none⟩=some (Zi Zq (p:Int))/\w'.cell? ⟨g,2,none⟩=some (Zs (some ⟨b,o,none⟩) l.length cap)) (go_keep) ((go_at_call 168;refine HQ1.out.mono ?_;rintro e w1 ⟨rfl,hb1⟩;have hst1:=hst0.keep hb1;have hR1:=(hr0.drew).keep hb1;have h10:=hst1.1.1.cell 0;have h12:=hst1.1.1.cell 2;unfold cB at h10 h12;simp at h10 h12));have hn:=hR1.lt;have hg1:=hst1.1.1.lt;by_cases her:er=0
 ·obtain ⟨n,hn1,hn2,hn3⟩:=HO.out her;have HS2:=aW (HS.out.trans (if_pos her));have HE:=aW her;subst hn1;have hz:(er != 0)=false:=by simp [her]
  have hw1r:Rd w1 (some ⟨b,o,none⟩) (am l):=hst1.1.2;obtain ⟨RQ,hRQ⟩:∃ RQ:World->Prop,RQ=λ w'=>Rd w' (some ⟨b,o+p,none⟩) (am ((l.drop p).take (n-p))):=⟨_,rfl⟩
  have hq':∀ w',RQ w'->(convert 67 9 (Zs (some ⟨b,o+p,none⟩) (n-p) (cap-p))).run Tryz.prog w'=.ok (Zt ⟨((l.drop p).take (n-p)).toArray⟩) w':=by rw [hRQ];exact λ w' h=>j5 hn2 hn3 hcap h
  have hka':∀ (w':World) (o':Obj),RQ w'->RQ (w'.alloc o'):=by rw [hRQ];exact λ w' o' h=>h.alloc o'
  have hkd':∀ (w':World),RQ w'->RQ w'.drew:=by rw [hRQ];exact λ w' h=>h
  have hs2:RQ w1:=by rw [hRQ];exact py hw1r
  have hkc:n<=cap:=by omega
  have hpc':¬ cap=p:=by omega
  clear hRQ her hst0 hr0 hw1r;go_wp2;go_region_held3 (λ w'=>w'.cell? ⟨g,0,none⟩=some (Zi Zq (p:Int))/\w'.cell? ⟨g,2,none⟩=some (Zs (some ⟨b,o,none⟩) l.length cap)/\RQ w') (go_keep) ((fail));obtain ⟨t,ht⟩:∃ t,(l.drop p).take (n-p)=t:=⟨_,rfl⟩
  rw [ht];obtain ⟨Wx,hWx⟩:∃ Wx,(w1.alloc (.cells #[Zi Zq 3,Zi Zq p,Zt ⟨t.toArray⟩,Zi Zq v] 86)).drew=Wx:=⟨_,rfl⟩
  have hT:Blk Wx w1.heap.size 86 #[Zi Zq 3,Zi Zq p,Zt ⟨t.toArray⟩,Zi Zq v]:=by rw [← hWx];exact Blk.new w1 _ _
  have hR2:Blk Wx w.heap.size 86 #[Zi Zq 0,Zi Zq 0,Zt ⟨#[]⟩,Zi Zq 0]:=by rw [← hWx];exact hR1.alloc _
  have hst2:aP w g (some ⟨b,o,none⟩) cap l p 0 Wx:=by rw [← hWx];exact (hst1.alloc _).drewN 1
  rw [hWx];obtain ⟨N,hN⟩:∃ N,w1.heap.size=N:=⟨_,rfl⟩
  rw [hN] at hT hn hg1 ⊢;have HT:=aW ht;clear hWx hN hs2 hq' hka' hkd' hR1 hst1 ht hb h10 h12;obtain ⟨ct,ft,lt⟩:=hT.rules;obtain ⟨cr,fr,lr⟩:=hR2.rules;have hgf:=hst2.1.1.frozen;have hgc:=hst2.1.1.cell;unfold cB at hgc;go_wp2;have hR3:=hR2.far (p:=⟨g,0,none⟩) (show w.heap.size≠g by omega) (Zi Zq n);obtain ⟨cf,_,_⟩:=(Blk.put4 hR3 (Zi Zq 3) (Zi Zq p) (Zt ⟨t.toArray⟩) (Zi Zq v)).rules;refine bodyPost_ret (v:=.agg #[Zi Zq 3,Zi Zq p,Zt ⟨t.toArray⟩,Zi Zq v]) (by simp only [results,Tryz.results129];go_simp) rfl ?_;rw [HS2.out,Int.toNat_natCast,HT.out];exact ⟨rfl,(hst2.set0 n).put4 hR3 (Nat.le_refl _) hgw _ _ _ _⟩
 ·have hz:(er != 0)=true:=by simp;omega
  have HS2:=aW (HS.out.trans (if_neg her));clear her hst0 hr0;go_wp2_with (go_at_call 167;refine (gB _ g _ cap l _ _ _ _ hst1.1).mono ?_;rintro e w3 ⟨rfl,hst5⟩;have hR3:=hR1.grown hst5.2 (by simp;omega);obtain ⟨cr3,fr3,lr3⟩:=hR3.rules;unfold ia);obtain ⟨cf,_,_⟩:=(Blk.put4 hR3 (Zi Zq 0) (Zi Zq 0) (Zt ⟨#[]⟩) (Zi Zq 0)).rules;refine bodyPost_ret (v:=.agg #[Zi Zq 0,Zi Zq 0,Zt ⟨#[]⟩,Zi Zq 0]) (by simp only [results,Tryz.results129];go_simp) rfl ?_;rw [HS2.out];exact ⟨rfl,(hst1.trans hst5).put4 hR3 (Nat.le_refl _) hgw _ _ _ _⟩
def bH:List (List UInt8):=[[61,61],[60,61],[60],[59],[46],[44],[91],[93],[40],[41],[123],[125],[43],[45],[42]]
def xd:Value:=.agg (bH.map λ l=>Value.string ⟨l.toArray⟩).toArray
theorem sO (w:World):Calls Tryz.prog 170 #[] w λ e w'=>e=.returned xd/\Below w.heap.size w w':=by
 go_enter Tryz.func170,Tryz.ntmps170;go_wp2;go_returns;exact ⟨rfl,by go_grown⟩
theorem xe (k:Nat) (h:k<15) (w:World):(Instr.index 205 xd (Zi Zq (k:Int))).run Tryz.prog w=.ok (Zt ⟨(bH.getD k []).toArray⟩) w:=by
 rcases (by omega:k=0∨k=1∨k=2∨k=3∨k=4∨k=5∨k=6∨k=7∨k=8∨k=9∨k=10∨k=11∨k=12∨k=13∨k=14) with rfl | rfl | rfl | rfl | rfl | rfl | rfl | rfl | rfl | rfl | rfl | rfl | rfl | rfl | rfl<;>kernel_rfl
def dz (l:List UInt8) (p:Nat) (s:List UInt8):Bool:=decide ((l.drop p).take s.length=s)
def de (l:List UInt8) (p:Nat):List (List UInt8)->Option (List UInt8)
 | []=>none
 | s::r=>if dz l p s then some s else de l p r
def fU (l:List UInt8) (p:Nat):oO:=match de l p bH with | some s=>.inl (5,s,0,p+s.length) | none=>.inr (p,320)
theorem sB {k:Nat} (h:k<15):1<=(bH.getD k []).length/\(bH.getD k []).length<=2:=by
 have:∀ k:Fin 15,1<=(bH.getD k []).length/\(bH.getD k []).length<=2:=by decide
 exact this ⟨k,h⟩
theorem uP (w:World) (g:Nat) (A:Option Addr) (cap:Nat) (l:List UInt8) (p:Nat) (hV:VB w g A cap l p 0) (hp:p<l.length) (hcap:l.length<=cap) (hlen:l.length<=4194304) :
  Calls Tryz.prog 133 #[Zp (some ⟨g,0,none⟩)] w (fK (fU l p) p w g A cap l):=by
 obtain ⟨hc,hf,hlt⟩:=hV.1.rules;have hgw:g<w.heap.size:=hV.1.lt;obtain ⟨b,o,rfl,hb,_⟩:=hV.byte (List.getElem?_eq_getElem hp);have HV:=aW hV;clear hV;unfold cB at hc;obtain ⟨W0,hW0⟩:∃ W0,w.alloc (.cells #[Zi Zq 0,Zi Zq 0,Zt ⟨#[]⟩,Zi Zq 0] 86)=W0:=⟨_,rfl⟩
 have hst0:aP w g (some ⟨b,o,none⟩) cap l p 0 W0:=by rw [← hW0];exact (aP.refl HV.out).alloc _
 have hr0:Blk W0 w.heap.size 86 #[Zi Zq 0,Zi Zq 0,Zt ⟨#[]⟩,Zi Zq 0]:=by rw [← hW0];exact Blk.new _ _ _
 go_enter Tryz.func133,Tryz.ntmps133;go_wp2_with (go_at_call 170;refine (sO _).mono ?_;rintro e w1 ⟨rfl,hb1⟩);have hst1:=hst0.keep hb1;have hr1:=hr0.keep hb1;clear hW0 hc hf hlt hst0 hr0 hb;go_loopw [4,5,8] (λ _ _ i wr => ∃ k:Nat,k<=15/\i=Zi Zq k/\de l p bH=de l p (bH.drop k)/\∃ j,wr=w1.drewN j) (λ _ _ i _=>15-(intOf i).toNat)
 case atStart=>exact ⟨0,by omega,rfl,rfl,0,rfl⟩
 case round =>
  obtain ⟨k,hk,rfl,hfa,j,rfl⟩:=hrel;obtain ⟨hc,hf,hlt⟩:=hst1.1.1.rules;unfold cB at hc;by_cases h15:k<15
  ·have hix:=xe k h15 (w1.drewN j);have hsl:=sB h15;have hd:bH.drop k=bH.getD k []::bH.drop (k+1):=by
    rw [List.drop_eq_getElem_cons (show k<bH.length from h15),List.getD_eq_getElem?_getD,List.getElem?_eq_getElem (show k<bH.length from h15)];rfl
   rw [hd] at hfa;obtain ⟨s,hs⟩:∃ s,bH.getD k []=s:=⟨_,rfl⟩
   rw [hs] at hix hfa hsl;have hsz:(⟨s.toArray⟩:ByteArray).size=s.length:=by simp [ByteArray.size]
   have HF:=aW hfa;clear hs hd hfa;by_cases hend:p+s.length<=l.length
   ·have hcv:∀ j,(convert 67 9 (Zs (some ⟨b,o+p,none⟩) s.length (cap-p))).run Tryz.prog (w1.drewN j)=.ok (Zt ⟨((l.drop p).take s.length).toArray⟩) (w1.drewN j):=λ j=>by
     have h:=j5 (w:=w1.drewN j) (p:=p) (k:=p+s.length) (by omega) hend hcap (by rw [show p+s.length-p=s.length from by omega];exact (py hst1.1.2).drewN j);rw [show p+s.length-p=s.length from by omega] at h;exact h
    have hgt:decide ((p:Int)+(s.length:Int)<=(l.length:Int))=true:=by rw [decide_eq_true_eq];omega
    have h1:p+s.length-p=s.length:=by omega
    have h2:p+s.length<=cap:=by omega
    have h3:¬ cap=p:=by omega
    obtain ⟨x,hx⟩:∃ x,(l.drop p).take s.length=x:=⟨_,rfl⟩
    rw [hx] at hcv;have HX:=aW hx;clear hx;by_cases hxs:x=s
    ·subst hxs;have HY:=aW (show dz l p x=true by unfold dz;rw [HX.out];simp);go_wp2;go_quiet (fail);obtain ⟨W2,hW2⟩:∃ W2,(w1.drewN j).drewN nq=W2:=⟨_,rfl⟩
     have hst2:aP w g (some ⟨b,o,none⟩) cap l p 0 W2:=by rw [← hW2];exact (hst1.drewN _).drewN _
     have hr2:Blk W2 w.heap.size 86 #[Zi Zq 0,Zi Zq 0,Zt ⟨#[]⟩,Zi Zq 0]:=by rw [← hW2];exact (hr1.drewN _).drewN _
     rw [hW2];clear hW2 hcv hix hc hf hlt hgt h1 h2 h3 hst1 hr1;obtain ⟨hc,hf,hlt⟩:=hst2.1.1.rules;unfold cB at hc;obtain ⟨cr,fr,lr⟩:=hr2.rules;go_wp2;have hR3:=hr2.far (p:=⟨g,0,none⟩) (show w.heap.size≠g by omega) (Zi Zq ((p:Int)+(x.length:Int)));obtain ⟨cf,_,_⟩:=((Blk.put4 hR3 (Zi Zq 5) (Zi Zq p) (Zt ⟨x.toArray⟩) (Zi Zq 0)).alloc (.cells #[Zi Zq 5,Zi Zq p,Zt ⟨x.toArray⟩,Zi Zq 0] 86)).rules;refine bodyPost_ret (v:=.agg #[Zi Zq 5,Zi Zq p,Zt ⟨x.toArray⟩,Zi Zq 0]) (by simp only [results,Tryz.results133];go_simp) rfl ?_;have hv:fU l p=.inl (5,x,0,p+x.length):=by unfold fU;rw [HF.out,de,HY.out];rfl
     rw [hv];exact ⟨rfl,((hst2.set0 _).put4 hR3 (Nat.le_refl _) hgw _ _ _ _).alloc _⟩
    ·have HY:=aW (show dz l p s=false by unfold dz;rw [HX.out];simpa using hxs);have hbe:(x == s)=false:=by simpa using hxs
     go_wp2;go_quiet (fail);go_wp2;go_roundw
     case rel=>exact ⟨k+1,by omega,by go_num,by rw [HF.out,de,HY.out];rfl,_,rfl⟩
     case measure=>simp [intOf];omega
   ·have HN:=aW (show dz l p s=false by
     unfold dz;rw [decide_eq_false_iff_not];intro e;have:=congrArg List.length e;simp at this;omega)
    have hgt:decide ((p:Int)+(s.length:Int)<=(l.length:Int))=false:=by rw [decide_eq_false_iff_not];omega
    go_wp2;go_quiet (fail);go_wp2;go_roundw
    case rel=>exact ⟨k+1,by omega,by go_num,by rw [HF.out,de,HN.out];rfl,_,rfl⟩
    case measure=>simp [intOf];omega
  ·obtain rfl:k=15:=by omega
   have hv:fU l p=.inr (p,320):=by unfold fU;rw [hfa,List.drop_eq_nil_of_le (by decide)];rfl
   have HVV:=aW hv;clear hfa hv;go_wp2_with (go_at_call 167;refine (gB _ g _ cap l _ _ _ _ (hst1.drewN _).1).mono ?_;rintro e w3 ⟨rfl,hst5⟩;have hR3:=(hr1.drewN j).grown hst5.2 (by simp;omega);obtain ⟨cr3,fr3,lr3⟩:=hR3.rules;unfold ia);obtain ⟨cf,_,_⟩:=(Blk.put4 hR3 (Zi Zq 0) (Zi Zq 0) (Zt ⟨#[]⟩) (Zi Zq 0)).rules;refine bodyPost_ret (v:=.agg #[Zi Zq 0,Zi Zq 0,Zt ⟨#[]⟩,Zi Zq 0]) (by simp only [results,Tryz.results133];go_simp) rfl ?_;rw [HVV.out];exact ⟨rfl,((hst1.drewN j).trans hst5).put4 hR3 (Nat.le_refl _) hgw _ _ _ _⟩
def ll (g:Nat):Array Value:=#[.func (.func 122) #[] #[],.func (.func 128) #[Zp (some ⟨g,0,none⟩)] #[],
 .func (.func 123) #[] #[],.func (.func 129) #[Zp (some ⟨g,0,none⟩)] #[],
 .func (.func 130) #[] #[],.func (.func 131) #[Zp (some ⟨g,0,none⟩)] #[],
 .func (.func 132) #[] #[],.func (.func 133) #[Zp (some ⟨g,0,none⟩)] #[]]
theorem sH (g:Nat) (w:World) :
  Calls Tryz.prog 84 #[Zp (some ⟨g,0,none⟩)] w λ e w'=>e=.returned (.func (.func 134) #[] #[Zp (some ⟨w.heap.size,0,none⟩),Zp (some ⟨w.heap.size+1,0,none⟩)]) /\
   Blk w' w.heap.size 109 #[Zp (some ⟨g,0,none⟩)]/\Blk w' (w.heap.size+1) 165 (ll g)/\w'.heap.size=w.heap.size+2/\Below w.heap.size w w':=by
 have hmf:∀ (fn:Fn) (first cap:Array Value) (w:World),(Instr.makeFunc fn first cap).run Tryz.prog w=.ok (.func fn first cap) w:=λ _ _ _ _=>rfl
 go_enter Tryz.func84,Tryz.ntmps84;go_wp2;go_ret;refine ⟨rfl,(Blk.new w _ _).alloc _,?_,by simp,by go_grown⟩;have:=Blk.new (w.alloc (.cells #[Zp (some ⟨g,0,none⟩)] 109)) 165 (ll g);rw [World.size_alloc] at this;exact this
end
section
def bc (st:List UInt8 × Bool) (s:List UInt8):List UInt8 × Bool :=
 (st.1++((if st.1≠[]/\((cQ (st.1.getLastD 0)=true/\cQ (s.headD 0)=true)∨(st.2=true/\s.headD 0=46)) then [32] else [])++s),a9 (s.headD 0))
def vd (s:List UInt8):Prop:=s≠[]/\(s.headD 0=46->s=[46])
theorem vJ {α:Type} (x:α) (r:List α) (d d':α):(x::r).getLast?.getD d=(x::r).getLast?.getD d':=by
 cases h:(x::r).getLast? with
 | none=>simp at h
 | some v=>rfl
theorem jS {a b:List UInt8} (hb:b≠[]) (d:UInt8):(a++b).getLastD d=b.getLastD d:=by
 cases b with
 | nil=>exact absurd rfl hb
 | cons x r=>simp [List.getLastD_eq_getLast?];exact vJ _ _ _ _
theorem qS:∀ (ls:List (List UInt8)) (was b:List UInt8) (f:Bool),(∀ s ∈ ls,vd s)->b≠[]->b.getLastD 0=was.getLastD 0->f=a9 (was.headD 0) ->
  ls.foldl bc (b,f)=(b++bF was ls,a9 ((ls.getLastD was).headD 0))
 | [],was,b,f,_,_,_,hf=>by show (b,f)=_;rw [hf];simp [bF]
 |s::r,was,b,f,hp,hb,hl,hf=>by
  obtain ⟨h1,h2⟩:=hp s List.mem_cons_self;have e:bc (b,f) s=(b++(if ml was s=true then 32::s else s),a9 (s.headD 0)):=by
   unfold bc ml;simp only;rw [hl,hf];congr 2;by_cases hg:(cQ (was.getLastD 0)=true/\cQ (s.headD 0)=true)∨(a9 (was.headD 0)=true/\s.headD 0=46)
   ·rw [if_pos ⟨hb,hg⟩,if_pos]
    ·rfl
    ·rw [Bool.or_eq_true,Bool.and_eq_true,Bool.and_eq_true,beq_iff_eq];exact hg.imp id λ h=>⟨h.1,h2 h.2⟩
   ·rw [if_neg (λ h=>hg h.2),if_neg]
    ·rfl
    ·rw [Bool.or_eq_true,Bool.and_eq_true,Bool.and_eq_true,beq_iff_eq];exact λ h=>hg (h.imp id λ h=>⟨h.1,by rw [h.2];rfl⟩)
  rw [List.foldl_cons,e,qS r s _ _ (λ t ht=>hp t (List.mem_cons_of_mem _ ht)) (by intro h;have:=congrArg List.length h;rw [List.length_append] at this;have:=List.length_pos_iff.2 hb;simp only [List.length_nil] at *;omega) (by
   split
   ·rw [jS (by simp)];have:(32::s).getLastD 0=s.getLastD 0:=by cases s with | nil=>exact absurd rfl h1 | cons x t=>simp [List.getLastD_eq_getLast?]
    exact this
   ·exact jS h1 0) rfl]
  rw [List.append_assoc];congr 2;cases r with
  | nil=>rfl
  | cons x t=>simp [List.getLastD_eq_getLast?];rw [vJ x t s was]
theorem wN (ls:List (List UInt8)) (hp:∀ s ∈ ls,vd s):(ls.foldl bc ([],false)).1=rh ls:=by
 cases ls with
 | nil=>rfl
 |cons s r =>
  have e:bc ([],false) s=(s,a9 (s.headD 0)):=by
   unfold bc;simp
  rw [List.foldl_cons,e,qS r s s _ (λ t ht=>hp t (List.mem_cons_of_mem _ ht)) (hp s List.mem_cons_self).1 rfl rfl];rfl
end
section
open Go.RowKit
theorem rV {s:List UInt8} {i:Nat} {a:UInt8} (ha:s[i]? = some a) (W:World):(Instr.index 9 (Zt ⟨s.toArray⟩) (Zi Zq (i:Int))).run Tryz.prog W=.ok (Zi .u8 a.toNat) W:=by
 obtain ⟨hi,e⟩:=List.getElem?_eq_some_iff.1 ha;have hsz:(ByteArray.mk s.toArray).size=s.length:=by simp [ByteArray.size]
 rw [run_index_string W 9 ⟨s.toArray⟩ .i64 (i:Int) Tryz.underlying9,dif_pos ⟨by omega,by rw [hsz];omega⟩];subst e;rfl
theorem uc:(Tryz.prog.info? 5).map (λ i=>(i.zero,i.size,i.bytes))=some (some (Zi .u8 0),1,1):=by kernel_rfl
def jh (base:Nat) (row:Value) (n:Nat) (l:List UInt8) (w:World):Prop:=l.length=n/\w.ownsRow base 5 1 row n (am l)/\base<=w.heap.size
theorem jh.nil (w:World):jh w.heap.size (Zs none 0 0) 0 [] w:=⟨rfl,World.ownsRow_nil _ _ _ _,Nat.le_refl _⟩
theorem jh.bel {base n:Nat} {row:Value} {l:List UInt8} {w w':World} (h:jh base row n l w) (hb:Below w.heap.size w w'):jh base row n l w':=⟨h.1,wH h.2.1 hb,Nat.le_trans h.2.2 hb.size⟩
def Gr (row:Value) (w:World) (row':Value) (w':World):Prop:=w.grownBy w' row.ownBlock/\(row'.ownBlock=row.ownBlock∨∃ k,row'.ownBlock=some k/\w.heap.size<=k)
theorem Gr.refl (row:Value) (w:World):Gr row w row w:=⟨World.grownBy.refl w _,.inl rfl⟩
theorem Gr.trans {a b c:Value} {w w1 w2:World} (h:Gr a w b w1) (k:Gr b w1 c w2):Gr a w c w2:=by
 obtain ⟨h1,h2⟩:=h;obtain ⟨k1,k2⟩:=k;refine ⟨⟨k1.os.trans h1.os,k1.tape.trans h1.tape,k1.output.trans h1.output,Nat.le_trans h1.size k1.size,λ i hi hne=>(k1.block i (Nat.lt_of_lt_of_le hi h1.size) ?_).trans (h1.block i hi hne)⟩,?_⟩
 ·rcases h2 with h2 | ⟨q,h2,h3⟩
  ·rw [h2];exact hne
  ·rw [h2];intro e;injection e with e;omega
 ·rcases k2 with k2 | ⟨q,k2,k3⟩
  ·rcases h2 with h2 | ⟨q',h2,h3⟩
   ·exact .inl (k2.trans h2)
   ·exact .inr ⟨q',k2.trans h2,h3⟩
  ·exact .inr ⟨q,k2,Nat.le_trans h1.size k3⟩
theorem Gr.bel {row:Value} {w w':World} (h:Below w.heap.size w w'):Gr row w row w':=⟨aD h _,.inl rfl⟩
theorem Gr.size {a b:Value} {w w':World} (h:Gr a w b w'):w.heap.size<=w'.heap.size:=h.1.size
theorem Gr.keepF {a b:Value} {w w':World} {F:Nat->Prop} (h:Gr a w b w') (hF:∀ k,F k->some k≠a.ownBlock):ah F w w':=⟨h.1.size,λ k hf hk=>h.1.block k hk (hF k hf)⟩
theorem Gr.blk {a b:Value} {w w':World} {g:Nat} {t:TypeId} {cs:Array Value} (h:Gr a w b w') (hb:Blk w g t cs) (hg:some g≠a.ownBlock):Blk w' g t cs:=(h.1.block g hb.lt hg).trans hb
theorem Gr.below {a b:Value} {w w':World} {base:Nat} (h:Gr a w b w') (hb:base<=w.heap.size) (ho:∀ k,a.ownBlock=some k->base<=k):Below base w w':=(Below.refl base w).grown h.1 hb ho
theorem jh.post {base n M:Nat} {row row2:Value} {l m:List UInt8} {w w6:World} {o:Obj} (h:jh base row n l w) (hown:w6.ownsRow base 5 1 row2 (n+M) (am l++am m)) (hM:m.length=M) (hgr:(w.alloc o).grownBy w6 row.ownBlock) (hob:row2.ownBlock=row.ownBlock∨row2.ownBlock=some (w.alloc o).heap.size):jh base row2 (n+M) (l++m) w6/\Gr row w row2 w6:=by
 have hg:Gr row w row2 w6:=(Gr.bel ((Below.refl _ w).alloc (Nat.le_refl _) o)).trans ⟨hgr,hob.imp id λ e=>⟨_,e,Nat.le_refl _⟩⟩;exact ⟨⟨by rw [List.length_append,h.1,hM],by rw [iN];exact hown,Nat.le_trans h.2.2 hg.size⟩,hg⟩
end
end Go.Proofs.YtgmnmnnoahdjnaaGreatDoor
