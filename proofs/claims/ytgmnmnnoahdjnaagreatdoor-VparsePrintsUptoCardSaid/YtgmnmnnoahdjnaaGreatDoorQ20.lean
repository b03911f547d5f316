import Derived.Test.YtgmnmnnoahdjnaaGreatDoorQ18
import Derived.Test.YtgmnmnnoahdjnaaGreatDoorQ17
open Go.Value renaming int → Zi, slice → Zs, string → Zt, pointer → Zp
open Go.IntKind renaming i64 → Zq
set_option maxRecDepth 100000
set_option maxHeartbeats 16000000
set_option linter.unusedVariables false
set_option linter.unusedSimpArgs false
namespace Go.Proofs.YtgmnmnnoahdjnaaGreatDoor
section
mutual
/-- how much an expression is in all -/
def fE:EJ->Nat | .mk _ v s kids=>1+dj v+s.length+cZ kids
def cZ:List EJ->Nat | []=>0 | x::r=>fE x+cZ r
end
mutual
/-- how much a statement is in all -/
def ig:SJ->Nat | .mk _ s a b body els=>1+s.length+fE a+fE b+cq body+cq els
def cq:List SJ->Nat | []=>0 | x::r=>ig x+cq r
end
theorem oP:∀ l:List EJ,cZ l=(l.map fE).sum
 | []=>rfl
 | x::r=>by unfold cZ;rw [oP r];rfl
theorem jf:∀ l:List SJ,cq l=(l.map ig).sum
 | []=>rfl
 | x::r=>by unfold cq;rw [jf r];rfl
theorem np:∀ (n:Nat) (l:List EJ),cZ (l.take n)<=cZ l
 | 0,l=>by simp [cZ]
 | n+1,[]=>Nat.le_refl _
 | n+1,x::r=>by have:=np n r;rw [List.take_succ_cons,cZ,cZ];omega
theorem ns:∀ (n:Nat) (l:List SJ),cq (l.take n)<=cq l
 | 0,l=>by simp [cq]
 | n+1,[]=>Nat.le_refl _
 | n+1,x::r=>by have:=ns n r;rw [List.take_succ_cons,cq,cq];omega
theorem ra {f:EJ->EJ}:∀ (l:List EJ),(∀ x ∈ l,fE (f x)<=fE x)->cZ (l.map f)<=cZ l
 | [],_=>Nat.le_refl _
 |x::r,h=>by
  rw [List.map_cons,cZ,cZ];have h1:=h x List.mem_cons_self;have h2:=ra r λ y hy=>h y (List.mem_cons_of_mem _ hy)
  omega
theorem re {f:SJ->SJ}:∀ (l:List SJ),(∀ x ∈ l,ig (f x)<=ig x)->cq (l.map f)<=cq l
 | [],_=>Nat.le_refl _
 |x::r,h=>by
  rw [List.map_cons,cq,cq];have h1:=h x List.mem_cons_self;have h2:=re r λ y hy=>h y (List.mem_cons_of_mem _ hy)
  omega
inductive PR (α:Type) where
 | ok:α->Nat->PR α
 | bad:Nat->PR α
def tkK (T:List aq) (p:Nat):Int:=match T[p]? with | some t=>t.1 | none=>6
def tkT (T:List aq) (p:Nat):List UInt8:=match T[p]? with | some t=>t.2.2.1 | none=>[]
def tkN (T:List aq) (p:Nat):Int:=match T[p]? with | some t=>t.2.2.2 | none=>0
def tkA (T:List aq) (p:Nat):Nat:=match T[p]? with | some t=>t.2.1 | none=>0
def au (T:List aq) (p:Nat) (w:List UInt8):Bool:=decide ((tkK T p=5∨tkK T p=2)/\tkT T p=w)
def fA:Nat->List (List UInt8 × Int)
 | 1=>[([111,114],15)]
 | 2=>[([97,110,100],14)]
 | 3=>[([110,111,116],5)]
 | 4=>[([61,61],11),([60],12),([60,61],13)]
 | 5=>[([43],9),([45],10)]
 | 6=>[([42],8)]
 | 7=>[([115,105,122,101],6),([107,105,110,100],7)]
 | _=>[]
def gc (T:List aq) (p:Nat):List (List UInt8 × Int)->Option Int
 | []=>none
 | x::r=>if au T p x.1=true then some x.2 else gc T p r
def ez (T:List aq) (lvl p:Nat):Option Int:=gc T p (fA lvl)
def eOp (k:Int) (l:List EJ):EJ:=.mk k dX [] l
def fH (v:JV):EJ:=.mk 1 v [] []
def d8:List UInt8:=[101,109,105,116]
def wIf:List UInt8:=[105,102]
def dE:List UInt8:=[101,108,115,101]
def gM:List UInt8:=[102,111,114]
def wIn:List UInt8:=[105,110]
def pX:List UInt8:=[110,117,108,108]
def kj:List UInt8:=[116,114,117,101]
def gX:List UInt8:=[102,97,108,115,101]
mutual
/-- an expression from a level on -/
def aP (T:List aq):Nat->Nat->Nat->PR EJ
 | 0,_,p=>.bad p
 |n+1,lvl,p =>
  if lvl=3∨lvl=7 then
   match ez T lvl p with
   |some k=>(match aP T n lvl (p+1) with
    | .ok x q=>.ok (eOp k [x]) q
    | .bad q=>.bad q)
   | none=>aP T n (lvl+1) p
  else if 8<=lvl then
   match de T n p with
   | .ok x q=>eJ T n x q
   | .bad q=>.bad q
  else match aP T n (lvl+1) p with
   | .ok x q=>iD T n lvl x q
   | .bad q=>.bad q
/-- what stands behind an expression,of a level's operators -/
def iD (T:List aq):Nat->Nat->EJ->Nat->PR EJ
 | 0,_,_,p=>.bad p
 |n+1,lvl,x,p=>match ez T lvl p with
  | none=>.ok x p
  |some k=>match aP T n (lvl+1) (p+1) with
   | .bad q=>.bad q
   | .ok y q=>if lvl=4 then .ok (eOp k [x,y]) q else iD T n lvl (eOp k [x,y]) q
/-- names behind points -/
def eJ (T:List aq):Nat->EJ->Nat->PR EJ
 | 0,_,p=>.bad p
 | n+1,x,p=>if au T p [46]=true then (if tkK T (p+1)=1 then eJ T n (.mk 3 dX (tkT T (p+1)) [x]) (p+2) else .bad (p+1)) else .ok x p
/-- what stands alone -/
def de (T:List aq):Nat->Nat->PR EJ
 | 0,p=>.bad p
 |n+1,p =>
  if tkK T p=1 then .ok (.mk 2 dX (tkT T p) []) (p+1)
  else if tkK T p=3 then .ok (fH (pA (tkN T p))) (p+1)
  else if tkK T p=4 then .ok (fH (lg (tkT T p))) (p+1)
  else if au T p pX=true then .ok (fH (.mk 1 0 [] [] [])) (p+1)
  else if au T p kj=true then .ok (fH (ic true)) (p+1)
  else if au T p gX=true then .ok (fH (ic false)) (p+1)
  else if au T p [40]=true then (match aP T n 1 (p+1) with
   | .ok x q=>if au T q [41]=true then .ok x (q+1) else .bad q
   | .bad q=>.bad q)
  else if au T p [91]=true then (if au T (p+1) [93]=true then .ok (eOp 4 []) (p+2) else eI T n [] (p+1))
  else .bad p
/-- the expressions of a list -/
def eI (T:List aq):Nat->List EJ->Nat->PR EJ
 | 0,_,p=>.bad p
 |n+1,acc,p=>match aP T n 1 p with
  | .bad q=>.bad q
  | .ok x q=>if au T q [44]=true then eI T n (acc++[x]) (q+1) else if au T q [93]=true then .ok (eOp 4 (acc++[x])) (q+1) else .bad q
end
mutual
/-- statements,as long as there are some -/
def cF (T:List aq):Nat->List SJ->Nat->PR (List SJ)
 | 0,_,p=>.bad p
 |n+1,acc,p =>
  if au T p d8=true then
   match aP T n 1 (p+1) with
   | .bad q=>.bad q
   | .ok a q=>if au T q [44]=true then (match aP T n 1 (q+1) with
     | .bad r=>.bad r
     | .ok b r=>if au T r [59]=true then cF T n (acc++[.mk 1 [] a b [] []]) (r+1) else .bad r)
    else .bad q
  else if au T p wIf=true then
   match aP T n 1 (p+1) with
   | .bad q=>.bad q
   | .ok a q=>match bX T n q with
    | .bad r=>.bad r
    | .ok body r=>if au T r dE=true then (match bX T n (r+1) with
      | .bad u=>.bad u
      | .ok els u=>cF T n (acc++[.mk 2 [] a bQ body els]) u)
     else cF T n (acc++[.mk 2 [] a bQ body []]) r
  else if au T p gM=true then
   (if tkK T (p+1)=1 then
    (if au T (p+2) wIn=true then (match aP T n 1 (p+3) with
     | .bad q=>.bad q
     | .ok a q=>match bX T n q with
      | .bad r=>.bad r
      | .ok body r=>cF T n (acc++[.mk 3 (tkT T (p+1)) a bQ body []]) r)
    else .bad (p+2))
   else .bad (p+1))
  else .ok acc p
/-- statements in brackets -/
def bX (T:List aq):Nat->Nat->PR (List SJ)
 | 0,p=>.bad p
 |n+1,p=>if au T p [123]=true then (match cF T n [] (p+1) with
   | .bad q=>.bad q
   | .ok l q=>if au T q [125]=true then .ok l (q+1) else .bad q)
  else .bad p
end
structure WT (T:List aq):Prop where
 last:∃ m,T.length=m+1/\tkK T m=6
 one:∀ p,p+1<T.length->tkK T p≠6
 words:∀ p,tkK T p=2->tkT T p ∈ cL
 signs:∀ p,tkK T p=5->tkT T p ∉ cL
 kinds:∀ p,1<=tkK T p/\tkK T p<=6
theorem WT.next {T:List aq} (h:WT T) {p:Nat} (hp:p<T.length) (hk:tkK T p≠6):p+1<T.length:=by
 obtain ⟨m,hm,h6⟩:=h.last;rcases Nat.lt_or_ge (p+1) T.length with h1 | h1
 ·exact h1
 ·obtain rfl:p=m:=by omega
  exact absurd h6 hk
theorem av {T:List aq} {p:Nat} {w:List UInt8} (h:au T p w=true):tkK T p≠6:=by
 unfold au at h;rw [decide_eq_true_eq] at h;omega
theorem fy {T:List aq} {p:Nat}:∀ {l:List (List UInt8 × Int)} {k:Int},gc T p l=some k->tkK T p≠6
 | [],k,h=>by cases h
 |x::r,k,h=>by
  unfold gc at h;split at h
  ·rename_i hs;exact av hs
  ·exact fy h
def PR.In {α:Type} (T:List aq) (p:Nat):PR α->Prop
 | .ok _ q=>p<q/\q<T.length
 | .bad q=>p<=q/\q<T.length
def PR.In0 {α:Type} (T:List aq) (p:Nat):PR α->Prop
 | .ok _ q=>p<=q/\q<T.length
 | .bad q=>p<=q/\q<T.length
theorem PR.In.mono {α:Type} {T:List aq} {p p':Nat} {r:PR α} (h:r.In T p) (hp:p'<=p):r.In T p':=by
 cases r<;>(unfold PR.In at h ⊢;omega)
theorem PR.In0.mono {α:Type} {T:List aq} {p p':Nat} {r:PR α} (h:r.In0 T p) (hp:p'<=p):r.In0 T p':=by
 cases r<;>(unfold PR.In0 at h ⊢;omega)
theorem PR.In0.up {α:Type} {T:List aq} {p p':Nat} {r:PR α} (h:r.In0 T p) (hp:p'<p):r.In T p':=by
 cases r<;>(unfold PR.In0 at h;unfold PR.In;omega)
theorem PR.In.zero {α:Type} {T:List aq} {p:Nat} {r:PR α} (h:r.In T p):r.In0 T p:=by
 cases r<;>(unfold PR.In at h;unfold PR.In0;omega)
theorem gO {α:Type} {T:List aq} {p q:Nat} (h:p<=q) (hq:q<T.length):(PR.bad q:PR α).In T p:=⟨h,hq⟩
theorem jm {α:Type} {T:List aq} {p q:Nat} {x:α} (h:p<q) (hq:q<T.length):(PR.ok x q).In T p:=⟨h,hq⟩
section
variable {T:List aq} (hT:WT T)
include hT
theorem nO:∀ (n:Nat),(∀ lvl p,p<T.length->(aP T n lvl p).In T p)/\(∀ lvl x p,p<T.length->(iD T n lvl x p).In0 T p)/\(∀ x p,p<T.length->(eJ T n x p).In0 T p)/\(∀ p,p<T.length->(de T n p).In T p)/\(∀ acc p,p<T.length->(eI T n acc p).In T p)
 | 0=>⟨λ lvl p hp=>by unfold aP;exact gO (Nat.le_refl _) hp,λ lvl x p hp=>by unfold iD;exact ⟨Nat.le_refl _,hp⟩,λ x p hp=>by unfold eJ;exact ⟨Nat.le_refl _,hp⟩,λ p hp=>by unfold de;exact gO (Nat.le_refl _) hp,λ acc p hp=>by unfold eI;exact gO (Nat.le_refl _) hp⟩
 |n+1=>by
  obtain ⟨hE,hB,hP,hA,hL⟩:=nO n;refine ⟨λ lvl p hp=>?_,λ lvl x p hp=>?_,λ x p hp=>?_,λ p hp=>?_,λ acc p hp=>?_⟩
  ·unfold aP;split
   ·cases ho:ez T lvl p with
    | none=>exact hE _ _ hp
    |some k =>
     have h1:=hE lvl (p+1) (hT.next hp (fy ho));simp only;cases hx:aP T n lvl (p+1) with
     | ok x q=>rw [hx] at h1;exact ⟨by have:=h1.1;omega,h1.2⟩
     | bad q=>rw [hx] at h1;exact ⟨by have:=h1.1;omega,h1.2⟩
   ·split
    ·have h1:=hA p hp;cases hx:de T n p with
     | ok x q=>rw [hx] at h1;simp only;exact (hP x q h1.2).up h1.1
     | bad q=>rw [hx] at h1;exact h1
    ·have h1:=hE (lvl+1) p hp;cases hx:aP T n (lvl+1) p with
     | ok x q=>rw [hx] at h1;simp only;exact (hB lvl x q h1.2).up h1.1
     | bad q=>rw [hx] at h1;exact h1
  ·unfold iD;cases ho:ez T lvl p with
   | none=>exact ⟨Nat.le_refl _,hp⟩
   |some k =>
    have h1:=hE (lvl+1) (p+1) (hT.next hp (fy ho));simp only;cases hx:aP T n (lvl+1) (p+1) with
    | bad q=>rw [hx] at h1;exact ⟨by have:=h1.1;omega,h1.2⟩
    |ok y q =>
     rw [hx] at h1;simp only;split
     ·exact ⟨by have:=h1.1;omega,h1.2⟩
     ·exact (hB lvl _ q h1.2).mono (by have:=h1.1;omega)
  ·unfold eJ;split
   ·rename_i hs
    have h1:=hT.next hp (av hs);split
    ·rename_i hk
     have h2:=hT.next h1 (by omega);exact (hP _ (p+2) h2).mono (by omega)
    ·exact ⟨by omega,h1⟩
   ·exact ⟨Nat.le_refl _,hp⟩
  ·unfold de;split
   ·exact jm (by omega) (hT.next hp (by omega))
   split
   ·exact jm (by omega) (hT.next hp (by omega))
   split
   ·exact jm (by omega) (hT.next hp (by omega))
   split
   ·rename_i hs;exact jm (by omega) (hT.next hp (av hs))
   split
   ·rename_i hs;exact jm (by omega) (hT.next hp (av hs))
   split
   ·rename_i hs;exact jm (by omega) (hT.next hp (av hs))
   split
   ·rename_i hs
    have h0:=hT.next hp (av hs);have h1:=hE 1 (p+1) h0;cases hx:aP T n 1 (p+1) with
    | bad q=>rw [hx] at h1;exact ⟨by have:=h1.1;omega,h1.2⟩
    |ok y q =>
     rw [hx] at h1;simp only;split
     ·rename_i hs2;exact jm (by have:=h1.1;omega) (hT.next h1.2 (av hs2))
     ·exact gO (by have:=h1.1;omega) h1.2
   split
   ·rename_i hs
    have h0:=hT.next hp (av hs);split
    ·rename_i hs2;exact jm (by omega) (hT.next h0 (av hs2))
    ·exact (hL [] (p+1) h0).mono (by omega)
   ·exact gO (Nat.le_refl _) hp
  ·unfold eI;have h1:=hE 1 p hp;cases hx:aP T n 1 p with
   | bad q=>rw [hx] at h1;exact h1
   |ok y q =>
    rw [hx] at h1;simp only;split
    ·rename_i hs;exact (hL _ (q+1) (hT.next h1.2 (av hs))).mono (by have:=h1.1;omega)
    ·split
     ·rename_i hs;exact jm (by have:=h1.1;omega) (hT.next h1.2 (av hs))
     ·exact gO (by have:=h1.1;omega) h1.2
theorem ei (n lvl p:Nat) (hp:p<T.length):(aP T n lvl p).In T p:=(nO hT n).1 lvl p hp
theorem su:∀ (n:Nat),(∀ acc p,p<T.length->(cF T n acc p).In0 T p)/\(∀ p,p<T.length->(bX T n p).In T p)
 | 0=>⟨λ acc p hp=>by unfold cF;exact ⟨Nat.le_refl _,hp⟩,λ p hp=>by unfold bX;exact gO (Nat.le_refl _) hp⟩
 |n+1=>by
  obtain ⟨hS,hB⟩:=su n;refine ⟨λ acc p hp=>?_,λ p hp=>?_⟩
  ·unfold cF;split
   ·rename_i hs
    have h1:=ei hT n 1 (p+1) (hT.next hp (av hs));cases hx:aP T n 1 (p+1) with
    | bad q=>rw [hx] at h1;exact ⟨by have:=h1.1;omega,h1.2⟩
    |ok a q =>
     rw [hx] at h1;simp only;split
     ·rename_i hs2
      have h2:=ei hT n 1 (q+1) (hT.next h1.2 (av hs2));cases hy:aP T n 1 (q+1) with
      | bad r=>rw [hy] at h2;exact ⟨by have:=h1.1;have:=h2.1;omega,h2.2⟩
      |ok b r =>
       rw [hy] at h2;simp only;split
       ·rename_i hs3;exact (hS _ (r+1) (hT.next h2.2 (av hs3))).mono (by have:=h1.1;have:=h2.1;omega)
       ·exact ⟨by have:=h1.1;have:=h2.1;omega,h2.2⟩
     ·exact ⟨by have:=h1.1;omega,h1.2⟩
   split
   ·rename_i hs
    have h1:=ei hT n 1 (p+1) (hT.next hp (av hs));cases hx:aP T n 1 (p+1) with
    | bad q=>rw [hx] at h1;exact ⟨by have:=h1.1;omega,h1.2⟩
    |ok a q =>
     rw [hx] at h1;simp only;have h2:=hB q h1.2;cases hy:bX T n q with
     | bad r=>rw [hy] at h2;exact ⟨by have:=h1.1;have:=h2.1;omega,h2.2⟩
     |ok body r =>
      rw [hy] at h2;simp only;split
      ·rename_i hs3
       have h3:=hB (r+1) (hT.next h2.2 (av hs3));cases hz:bX T n (r+1) with
       | bad u=>rw [hz] at h3;exact ⟨by have:=h1.1;have:=h2.1;have:=h3.1;omega,h3.2⟩
       | ok els u=>rw [hz] at h3;exact (hS _ u h3.2).mono (by have:=h1.1;have:=h2.1;have:=h3.1;omega)
      ·exact (hS _ r h2.2).mono (by have:=h1.1;have:=h2.1;omega)
   split
   ·rename_i hs
    have h0:=hT.next hp (av hs);split
    ·rename_i hk
     have h9:=hT.next h0 (by omega);split
     ·rename_i hs2
      have h1:=ei hT n 1 (p+3) (hT.next h9 (av hs2));cases hx:aP T n 1 (p+3) with
      | bad q=>rw [hx] at h1;exact ⟨by have:=h1.1;omega,h1.2⟩
      |ok a q =>
       rw [hx] at h1;simp only;have h2:=hB q h1.2;cases hy:bX T n q with
       | bad r=>rw [hy] at h2;exact ⟨by have:=h1.1;have:=h2.1;omega,h2.2⟩
       | ok body r=>rw [hy] at h2;exact (hS _ r h2.2).mono (by have:=h1.1;have:=h2.1;omega)
     ·exact ⟨by omega,h9⟩
    ·exact ⟨by omega,h0⟩
   ·exact ⟨Nat.le_refl _,hp⟩
  ·unfold bX;split
   ·rename_i hs
    have h0:=hT.next hp (av hs);have h1:=hS [] (p+1) h0;cases hx:cF T n [] (p+1) with
    | bad q=>rw [hx] at h1;exact ⟨by have:=h1.1;omega,h1.2⟩
    |ok l q =>
     rw [hx] at h1;simp only;split
     ·rename_i hs2;exact jm (by have:=h1.1;omega) (hT.next h1.2 (av hs2))
     ·exact gO (by have:=h1.1;omega) h1.2
   ·exact gO (Nat.le_refl _) hp
end
def vU (T:List aq):Nat:=12*(T.length+2)
def jn (T:List aq):PR (List SJ) :=
 match cF T (vU T) [] 0 with
 | .bad p=>.bad p
 | .ok l p=>if tkK T p=6 then .ok l p else .bad p
end
section
open Go.RowKit
theorem gQ {s:List UInt8} {i:Nat} {a:UInt8} (ha:s[i]? = some a) (W:World):(Instr.index 9 (Zt ⟨s.toArray⟩) (Zi Zq (i:Int))).run Tryz.prog W=.ok (Zi .u8 a.toNat) W:=by
 obtain ⟨hi,e⟩:=List.getElem?_eq_some_iff.1 ha;have hsz:(ByteArray.mk s.toArray).size=s.length:=by simp [ByteArray.size]
 rw [run_index_string W 9 ⟨s.toArray⟩ .i64 (i:Int) Tryz.underlying9,dif_pos ⟨by omega,by rw [hsz];omega⟩];subst e;rfl
theorem t0:(Tryz.prog.info? 5).map (λ i=>(i.zero,i.size,i.bytes))=some (some (Zi .u8 0),1,1):=by kernel_rfl
def ji (base:Nat) (row:Value) (n:Nat) (l:List UInt8) (w:World):Prop:=l.length=n/\w.ownsRow base 5 1 row n (ak l)/\base<=w.heap.size
theorem ji.nil (w:World):ji w.heap.size (Zs none 0 0) 0 [] w:=⟨rfl,World.ownsRow_nil _ _ _ _,Nat.le_refl _⟩
theorem ji.bel {base n:Nat} {row:Value} {l:List UInt8} {w w':World} (h:ji base row n l w) (hb:Below w.heap.size w w'):ji base row n l w':=⟨h.1,mQ h.2.1 hb,Nat.le_trans h.2.2 hb.size⟩
def Gr (row:Value) (w:World) (row':Value) (w':World):Prop:=w.grownBy w' row.ownBlock/\(row'.ownBlock=row.ownBlock∨∃ k,row'.ownBlock=some k/\w.heap.size<=k)
theorem Gr.refl (row:Value) (w:World):Gr row w row w:=⟨World.grownBy.refl w _,.inl rfl⟩
theorem Gr.trans {a b c:Value} {w w1 w2:World} (h:Gr a w b w1) (k:Gr b w1 c w2):Gr a w c w2:=by
 obtain ⟨h1,h2⟩:=h;obtain ⟨k1,k2⟩:=k;refine ⟨⟨k1.os.trans h1.os,k1.tape.trans h1.tape,k1.output.trans h1.output,Nat.le_trans h1.size k1.size,λ i hi hne=>(k1.block i (Nat.lt_of_lt_of_le hi h1.size) ?_).trans (h1.block i hi hne)⟩,?_⟩
 ·rcases h2 with h2 | ⟨q,h2,h3⟩
  ·rw [h2];exact hne
  ·rw [h2];intro e;injection e with e;omega
 ·rcases k2 with k2 | ⟨q,k2,k3⟩
  ·rcases h2 with h2 | ⟨q',h2,h3⟩
   ·exact .inl (k2.trans h2)
   ·exact .inr ⟨q',k2.trans h2,h3⟩
  ·exact .inr ⟨q,k2,Nat.le_trans h1.size k3⟩
theorem Gr.bel {row:Value} {w w':World} (h:Below w.heap.size w w'):Gr row w row w':=⟨aD h _,.inl rfl⟩
theorem Gr.size {a b:Value} {w w':World} (h:Gr a w b w'):w.heap.size<=w'.heap.size:=h.1.size
theorem Gr.keepF {a b:Value} {w w':World} {F:Nat->Prop} (h:Gr a w b w') (hF:∀ k,F k->some k≠a.ownBlock):ah F w w':=⟨h.1.size,λ k hf hk=>h.1.block k hk (hF k hf)⟩
theorem Gr.blk {a b:Value} {w w':World} {g:Nat} {t:TypeId} {cs:Array Value} (h:Gr a w b w') (hb:Blk w g t cs) (hg:some g≠a.ownBlock):Blk w' g t cs:=(h.1.block g hb.lt hg).trans hb
theorem Gr.below {a b:Value} {w w':World} {base:Nat} (h:Gr a w b w') (hb:base<=w.heap.size) (ho:∀ k,a.ownBlock=some k->base<=k):Below base w w':=(Below.refl base w).grown h.1 hb ho
theorem ji.post {base n M:Nat} {row row2:Value} {l m:List UInt8} {w w6:World} {o:Obj} (h:ji base row n l w) (hown:w6.ownsRow base 5 1 row2 (n+M) (ak l++ak m)) (hM:m.length=M) (hgr:(w.alloc o).grownBy w6 row.ownBlock) (hob:row2.ownBlock=row.ownBlock∨row2.ownBlock=some (w.alloc o).heap.size):ji base row2 (n+M) (l++m) w6/\Gr row w row2 w6:=by
 have hg:Gr row w row2 w6:=(Gr.bel ((Below.refl _ w).alloc (Nat.le_refl _) o)).trans ⟨hgr,hob.imp id λ e=>⟨_,e,Nat.le_refl _⟩⟩;exact ⟨⟨by rw [List.length_append,h.1,hM],by rw [ep];exact hown,Nat.le_trans h.2.2 hg.size⟩,hg⟩
end
section
open Go.RowKit
attribute [local go_sem] aa ac ae ab
def nM (cs:List Nat):List Value:=cs.map λ n:Nat=>Value.int .i64 (n:Int)
def An (cs:List Nat) (w:World) (e:Ending) (w':World):Prop:=(∃ A cap,e=.returned (.tuple #[Zs A cs.length cap,Zi Zq 0,.bool true])/\cs.length<=cap/\Rd w' A (nM cs))/\Below w.heap.size w w'
theorem Bu (v:Value) (cs:List Nat) (w:World) (hcp:∀ c ∈ cs,fZ (c:Int)=true) (hv:BS w v (cs.flatMap af)) (hlen:(cs.flatMap af).length<=4194304) :
  Calls Tryz.prog 165 #[v] w (An cs w):=by
 obtain ⟨i0,hi,hz0,hz1,hz2⟩:=info_parts sV;obtain ⟨hl1,hl2⟩:=sQ hcp;obtain ⟨l,hle⟩:∃ l,cs.flatMap af=l:=⟨_,rfl⟩
 rw [hle] at hv hl1 hl2 hlen;have hl:l.length<=4194304:=hlen;obtain ⟨A,cap,rfl,hcap,hr⟩:=hv;have HL:=aW hle;have HCP:=aW hcp;have HR:=aW hr;have HI:=aW hi;clear hle hcp hr hl1 hl2 hi hlen;go_enter Tryz.func165,Tryz.ntmps165;go_wp2;go_loopg [5,6] l.length (λ gk s5 s6 wr => ∃ (p:Nat) (pre suf:List Nat),p<=l.length/\pre.length<=p/\gk=l.length-p/\s6=Zi Zq p/\Hid (l.drop p=suf.flatMap af)/\Hid (∀ c ∈ suf,fZ (c:Int)=true)/\Hid (cs=pre++suf) /\
  wr.ownsRow w.heap.size 3 1 s5 pre.length (nM pre)/\Below w.heap.size w wr)
 case atStart=>exact ⟨0,[],cs,Nat.zero_le _,Nat.le_refl _,rfl,by go_num,aW (by rw [List.drop_zero,HL.out]),HCP,aW rfl,World.ownsRow_nil _ _ _ _,Below.refl _ _⟩
 case round =>
  obtain ⟨p,pre,suf,hp,hpp,hgk,rfl,HS,HQ,HPS,hown,hbw⟩:=hrel;have HG:=aW hgk;clear hgk;by_cases hlt:p<l.length
  ·obtain ⟨b,o,rfl,hb⟩:=HR.out.some_ (show 0<l.length by omega);cases suf with
   | nil=>have h:=congrArg List.length HS.out;rw [List.length_drop] at h;simp at h;omega
   |cons c suf =>
    have hc:=HQ.out c List.mem_cons_self;have hd:=HS.out;rw [List.flatMap_cons] at hd;obtain ⟨k1,k2,k3⟩:=di c (suf.flatMap af) hc;rw [← hd] at k1;obtain ⟨n,hn⟩:∃ n,(af c).length=n:=⟨_,rfl⟩
    rw [hn] at k1 k2 k3;have hpn:p+n<=l.length:=by have h:=congrArg List.length hd;rw [List.length_drop,List.length_append,hn] at h;omega
    have HD:=aW (show l.drop (p+n)=suf.flatMap af by rw [← List.drop_drop,hd,← hn,List.drop_left]);have HPS2:=aW (show cs=(pre++[c])++suf by rw [HPS.out];simp);have hB:=mY (Zs (some ⟨b,o+p,none⟩) (l.length-p) (cap-p)) (l.drop p) wr (BS.dropN (n:=0) (HR.out.below hbw) hcap p hp) (by rw [List.length_drop];omega);rw [k1] at hB;have HB:=aW hB;have HQ2:=aW (λ x hx=>HQ.out x (List.mem_cons_of_mem c hx));have hcapp:¬ cap=p:=by omega
    have hn0:((n:Int) == 0)=false:=by simp;omega
    clear hB k1 hd hc hn HQ HS HPS;go_wp2_with fail;refine HB.out.mono ?_;rintro e w1 ⟨rfl,hb1⟩;have hown1:=kL hown hb1;go_wp2_with (at_builtin;refine wpList_append_own _ rfl _ _ 176 rfl w.heap.size 3 i0 (Zi Zq 0) 1 8 Tryz.underlying176 HI.out hz0 hz1 hz2 rfl (by decide) _ _ _ rfl (hown1.alloc _) ⟨w1.heap.size,0,none⟩ 1 1 [Zi Zq c] rfl rfl (cell_one_new _ _ _) (by simp [Value.oneCell']) (by unfold maxLen;omega) (by omega) (by have:=hbw.size;have:=hb1.size;simp;omega) ?_;intro v2 w2 hown2 hgr2 _);go_roundg (l.length-(p+n))
    case measure=>rw [HG.out];omega
    case rel =>
     have s1:=hbw.size;have s2:=hb1.size;refine ⟨p+n,pre++[c],suf,hpn,by rw [List.length_append,List.length_singleton];omega,rfl,by go_num,HD,HQ2,HPS2,?_,?_⟩
     ·rw [List.length_append,List.length_singleton];have e:nM (pre++[c])=nM pre++[Zi Zq c]:=by simp [nM]
      rw [e];exact hown2
     ·refine ((hbw.trans (hb1.mono s1)).alloc (by omega) _).grown hgr2 (by simp;omega) (λ k e=>?_);exact (hown1.lt k e).1
  ·cases suf with
   |cons c suf =>
    exfalso;have h:=congrArg List.length HS.out;rw [List.length_drop,List.flatMap_cons,List.length_append] at h;have:=(di c [] (HQ.out c List.mem_cons_self)).2.1;omega
   |nil =>
    have hpe:pre=cs:=by rw [HPS.out,List.append_nil]
    subst hpe;obtain ⟨Ao,co,rfl,hco,hro⟩:=Rd.of_own hown;have HF:=aW (show An pre w (.returned (.tuple #[Zs Ao pre.length co,Zi Zq 0,.bool true])) wr from ⟨⟨_,_,rfl,hco,hro⟩,hbw⟩);clear hco hro hown HCP HL HPS HQ HS HR;go_wp2;go_ret3;exact HF.out
end
end Go.Proofs.YtgmnmnnoahdjnaaGreatDoor
