import Derived.Test.YtgmnmnnoahdjnaaGreatDoorY21
import Derived.Test.YtgmnmnnoahdjnaaGreatDoorY19
import Derived.Test.YtgmnmnnoahdjnaaGreatDoorY20
set_option maxRecDepth 100000
set_option maxHeartbeats 16000000
set_option linter.unusedVariables false
set_option linter.unusedSimpArgs false
namespace Go.Proofs.YtgmnmnnoahdjnaaGreatDoor
section
section
variable {T:List ap}
theorem rI (hT:WT T):∀ (n:Nat),(∀ acc p,p<T.length->12*(T.length-p)+1<=n->cJ T (n+1) acc p=cJ T n acc p)/\(∀ p,p<T.length->12*(T.length-p)+1<=n->bX T (n+1) p=bX T n p)
 | 0=>⟨λ acc p hp h=>by omega,λ p hp h=>by omega⟩
 |n+1=>by
  obtain ⟨hS,hK⟩:=rI hT n;have hE:=(jt hT n).1;have hI:=λ p hp=>ej hT n 1 p hp
  have hIK:=(rJ hT n).2;have hIS:=(rJ hT n).1;refine ⟨λ acc p hp h=>?_,λ p hp h=>?_⟩
  ·conv=>lhs;unfold cJ
   conv=>rhs;unfold cJ
   split
   ·rename_i hs
    have h0:=hT.next hp (ar hs);have h1:=hI (p+1) h0;rw [hE 1 (p+1) (by omega) h0 (by omega)];cases hx:aS T n 1 (p+1) with
    | bad q=>rfl
    |ok a q =>
     rw [hx] at h1;simp only;split
     ·rename_i hs2
      have h2:=hT.next h1.2 (ar hs2);have h3:=hI (q+1) h2;rw [hE 1 (q+1) (by omega) h2 (by have:=h1.1;omega)];cases hy:aS T n 1 (q+1) with
      | bad r=>rfl
      |ok b r =>
       rw [hy] at h3;simp only;split
       ·rename_i hs3;exact hS _ (r+1) (hT.next h3.2 (ar hs3)) (by have:=h1.1;have:=h3.1;omega)
       ·rfl
     ·rfl
   split
   ·rename_i hs
    have h0:=hT.next hp (ar hs);have h1:=hI (p+1) h0;rw [hE 1 (p+1) (by omega) h0 (by omega)];cases hx:aS T n 1 (p+1) with
    | bad q=>rfl
    |ok a q =>
     rw [hx] at h1;simp only;rw [hK q h1.2 (by have:=h1.1;omega)];have h2:=hIK q h1.2;cases hy:bX T n q with
     | bad r=>rfl
     |ok body r =>
      rw [hy] at h2;simp only;split
      ·rename_i hs3
       have h4:=hT.next h2.2 (ar hs3);rw [hK (r+1) h4 (by have:=h1.1;have:=h2.1;omega)];have h5:=hIK (r+1) h4;cases hz:bX T n (r+1) with
       | bad u=>rfl
       | ok els u=>rw [hz] at h5;exact hS _ u h5.2 (by have:=h1.1;have:=h2.1;have:=h5.1;omega)
      ·exact hS _ r h2.2 (by have:=h1.1;have:=h2.1;omega)
   split
   ·rename_i hs
    have h0:=hT.next hp (ar hs);split
    ·rename_i hk
     have h9:=hT.next h0 (by omega);split
     ·rename_i hs2
      have h8:=hT.next h9 (ar hs2);have h1:=hI (p+3) h8;rw [hE 1 (p+3) (by omega) h8 (by omega)];cases hx:aS T n 1 (p+3) with
      | bad q=>rfl
      |ok a q =>
       rw [hx] at h1;simp only;rw [hK q h1.2 (by have:=h1.1;omega)];have h2:=hIK q h1.2;cases hy:bX T n q with
       | bad r=>rfl
       | ok body r=>rw [hy] at h2;exact hS _ r h2.2 (by have:=h1.1;have:=h2.1;omega)
     ·rfl
    ·rfl
   ·rfl
  ·conv=>lhs;unfold bX
   conv=>rhs;unfold bX
   split
   ·rename_i hs
    have h0:=hT.next hp (ar hs);rw [hS [] (p+1) h0 (by omega)]
   ·rfl
end
def pM (T:List ap):Nat:=12*T.length+23
theorem zr (T:List ap):va T=pM T+1:=by unfold va pM;omega
def eE (T:List ap) (lvl p:Nat):PR EJ:=aS T (pM T+1) lvl p
def eB (T:List ap) (lvl:Nat) (x:EJ) (p:Nat):PR EJ:=js T (pM T+1) lvl x p
def eP (T:List ap) (x:EJ) (p:Nat):PR EJ:=fx T (pM T+1) x p
def eA (T:List ap) (p:Nat):PR EJ:=dr T (pM T+1) p
def eL (T:List ap) (acc:List EJ) (p:Nat):PR EJ:=fv T (pM T+1) acc p
def eS (T:List ap) (acc:List SJ) (p:Nat):PR (List SJ):=cJ T (pM T+1) acc p
def eK (T:List ap) (p:Nat):PR (List SJ):=bX T (pM T+1) p
section
variable {T:List ap} (hT:WT T)
include hT
theorem mT {lvl p:Nat} (hl:lvl<=8) (hp:p<T.length):aS T (pM T) lvl p=eE T lvl p:=((jt hT (pM T)).1 lvl p hl hp (by unfold pM;omega)).symm
theorem zj {lvl p:Nat} {x:EJ} (hl:lvl<=7) (hp:p<T.length):js T (pM T) lvl x p=eB T lvl x p:=((jt hT (pM T)).2.1 lvl x p hl hp (by unfold pM;omega)).symm
theorem zn {p:Nat} {x:EJ} (hp:p<T.length):fx T (pM T) x p=eP T x p:=((jt hT (pM T)).2.2.1 x p hp (by unfold pM;omega)).symm
theorem zI {p:Nat} (hp:p<T.length):dr T (pM T) p=eA T p:=((jt hT (pM T)).2.2.2.1 p hp (by unfold pM;omega)).symm
theorem zl {p:Nat} {acc:List EJ} (hp:p<T.length):fv T (pM T) acc p=eL T acc p:=((jt hT (pM T)).2.2.2.2 acc p hp (by unfold pM;omega)).symm
theorem ux {p:Nat} {acc:List SJ} (hp:p<T.length):cJ T (pM T) acc p=eS T acc p:=((rI hT (pM T)).1 acc p hp (by unfold pM;omega)).symm
theorem xZ {p:Nat} (hp:p<T.length):bX T (pM T) p=eK T p:=((rI hT (pM T)).2 p hp (by unfold pM;omega)).symm
theorem xA {lvl p:Nat} (hp:p<T.length):(eE T lvl p).In T p:=(mW hT _).1 lvl p hp
theorem zi {p:Nat} (hp:p<T.length):(eA T p).In T p:=(mW hT _).2.2.2.1 p hp
theorem uy {p:Nat} {acc:List SJ} (hp:p<T.length):(eS T acc p).In0 T p:=(rJ hT _).1 acc p hp
theorem xC {p:Nat} (hp:p<T.length):(eK T p).In T p:=(rJ hT _).2 p hp
theorem dm {lvl p q:Nat} {x:EJ} (hp:p<T.length) (h:eE T lvl p=.ok x q):p<q/\q<T.length:=by have:=xA hT (lvl:=lvl) hp;rw [h] at this;exact this
theorem jn {lvl p q:Nat} (hp:p<T.length) (h:eE T lvl p=.bad q):p<=q/\q<T.length:=by have:=xA hT (lvl:=lvl) hp;rw [h] at this;exact this
theorem xy {p q:Nat} {x:EJ} (hp:p<T.length) (h:eA T p=.ok x q):p<q/\q<T.length:=by have:=zi hT hp;rw [h] at this;exact this
theorem kJ {p q:Nat} {x:List SJ} (hp:p<T.length) (h:eK T p=.ok x q):p<q/\q<T.length:=by have:=xC hT hp;rw [h] at this;exact this
theorem qX {p q:Nat} (hp:p<T.length) (h:eK T p=.bad q):p<=q/\q<T.length:=by have:=xC hT hp;rw [h] at this;exact this
theorem uu {lvl p:Nat} (h:lvl=3∨lvl=7) (hp:p<T.length):eE T lvl p=(match eo T lvl p with
  | some k=>(match eE T lvl (p+1) with | .ok x q=>.ok (eOp k [x]) q | .bad q=>.bad q)
  | none=>eE T (lvl+1) p):=by
 conv=>lhs;unfold eE aS
 rw [if_pos h];cases ho:eo T lvl p with
 | none=>simp only;rw [mT hT (by omega) hp]
 | some k=>simp only;rw [mT hT (by omega) (hT.next hp (fu ho))];rfl
theorem r4 {p:Nat} (hp:p<T.length):eE T 8 p=(match eA T p with | .ok x q=>eP T x q | .bad q=>.bad q):=by
 conv=>lhs;unfold eE aS
 rw [if_neg (by omega),if_pos (Nat.le_refl _),zI hT hp];cases ho:eA T p with
 | bad q=>rfl
 | ok x q=>simp only;rw [zn hT (xy hT hp ho).2]
theorem ut {lvl p:Nat} (h3:¬ (lvl=3∨lvl=7)) (h8:¬ 8<=lvl) (hp:p<T.length):eE T lvl p=(match eE T (lvl+1) p with | .ok x q=>eB T lvl x q | .bad q=>.bad q):=by
 conv=>lhs;unfold eE aS
 rw [if_neg h3,if_neg h8,mT hT (by omega) hp];cases ho:eE T (lvl+1) p with
 | bad q=>rfl
 | ok x q=>simp only;rw [zj hT (by omega) (dm hT hp ho).2]
theorem xz {lvl p:Nat} {x:EJ} (hl:lvl<=7) (hp:p<T.length):eB T lvl x p=(match eo T lvl p with
  | none=>.ok x p
  |some k=>match eE T (lvl+1) (p+1) with
   | .bad q=>.bad q
   | .ok y q=>if lvl=4 then .ok (eOp k [x,y]) q else eB T lvl (eOp k [x,y]) q):=by
 conv=>lhs;unfold eB js
 cases ho:eo T lvl p with
 | none=>rfl
 |some k =>
  simp only;have h1:=hT.next hp (fu ho);rw [mT hT (by omega) h1];cases hx:eE T (lvl+1) (p+1) with
  | bad q=>rfl
  | ok y q=>simp only;rw [zj hT hl (dm hT h1 hx).2]
theorem r6 {p:Nat} {x:EJ} (hp:p<T.length):eP T x p=(if al T p [46]=true then (if tkK T (p+1)=1 then eP T (.mk 3 cS (tkT T (p+1)) [x]) (p+2) else .bad (p+1)) else .ok x p):=by
 conv=>lhs;unfold eP fx
 by_cases hs:al T p [46]=true
 ·rw [if_pos hs,if_pos hs];by_cases hk:tkK T (p+1)=1
  ·rw [if_pos hk,if_pos hk,zn hT (hT.next (hT.next hp (ar hs)) (by omega))]
  ·rw [if_neg hk,if_neg hk]
 ·rw [if_neg hs,if_neg hs]
theorem xx {p:Nat} (hp:p<T.length):eA T p=(if tkK T p=1 then .ok (.mk 2 cS (tkT T p) []) (p+1)
  else if tkK T p=3 then .ok (dF (lQ (tkN T p))) (p+1)
  else if tkK T p=4 then .ok (dF (je (tkT T p))) (p+1)
  else if al T p m9=true then .ok (dF (.mk 1 0 [] [] [])) (p+1)
  else if al T p gV=true then .ok (dF (eY true)) (p+1)
  else if al T p fA=true then .ok (dF (eY false)) (p+1)
  else if al T p [40]=true then (match eE T 1 (p+1) with
   | .ok x q=>if al T q [41]=true then .ok x (q+1) else .bad q
   | .bad q=>.bad q)
  else if al T p [91]=true then (if al T (p+1) [93]=true then .ok (eOp 4 []) (p+2) else eL T [] (p+1))
  else .bad p):=by
 conv=>lhs;unfold eA dr
 by_cases h40:al T p [40]=true
 ·rw [mT hT (by omega) (hT.next hp (ar h40))]
  repeat' split
  all_goals first | rfl | contradiction | simp_all
 ·by_cases h91:al T p [91]=true
  ·rw [zl hT (hT.next hp (ar h91))]
   repeat' split
   all_goals first | rfl | contradiction | simp_all
  ·repeat' split
   all_goals first | rfl | contradiction | simp_all
theorem r5 {p:Nat} {acc:List EJ} (hp:p<T.length):eL T acc p=(match eE T 1 p with
  | .bad q=>.bad q
  | .ok x q=>if al T q [44]=true then eL T (acc++[x]) (q+1) else if al T q [93]=true then .ok (eOp 4 (acc++[x])) (q+1) else .bad q):=by
 conv=>lhs;unfold eL fv
 rw [mT hT (by omega) hp];cases hx:eE T 1 p with
 | bad q=>rfl
 |ok x q =>
  simp only;by_cases hs:al T q [44]=true
  ·rw [if_pos hs,if_pos hs,zl hT (hT.next (dm hT hp hx).2 (ar hs))]
  ·rw [if_neg hs,if_neg hs]
theorem xB {p:Nat} (hp:p<T.length):eK T p=(if al T p [123]=true then (match eS T [] (p+1) with
   | .bad q=>.bad q
   | .ok l q=>if al T q [125]=true then .ok l (q+1) else .bad q)
  else .bad p):=by
 conv=>lhs;unfold eK bX
 by_cases hs:al T p [123]=true
 ·rw [if_pos hs,if_pos hs,ux hT (hT.next hp (ar hs))];rfl
 ·rw [if_neg hs,if_neg hs]
end
def jd (T:List ap) (p:Nat):PR SJ:=match eE T 1 p with
 | .bad q=>.bad q
 | .ok a q=>if al T q [44]=true then (match eE T 1 (q+1) with
   | .bad r=>.bad r
   | .ok b r=>if al T r [59]=true then .ok (.mk 1 [] a b [] []) (r+1) else .bad r)
  else .bad q
def eIf (T:List ap) (p:Nat):PR SJ:=match eE T 1 p with
 | .bad q=>.bad q
 | .ok a q=>match eK T q with
  | .bad r=>.bad r
  | .ok body r=>if al T r ep=true then (match eK T (r+1) with
    | .bad u=>.bad u
    | .ok els u=>.ok (.mk 2 [] a aR body els) u)
   else .ok (.mk 2 [] a aR body []) r
def mU (T:List ap) (p:Nat):PR SJ :=
 if tkK T p=1 then
  (if al T (p+1) wIn=true then (match eE T 1 (p+2) with
   | .bad q=>.bad q
   | .ok a q=>match eK T q with
    | .bad r=>.bad r
    | .ok body r=>.ok (.mk 3 (tkT T p) a aR body []) r)
  else .bad (p+1))
 else .bad p
def dR (T:List ap) (p:Nat):Option (PR SJ) :=
 if al T p du=true then some (jd T (p+1)) else if al T p wIf=true then some (eIf T (p+1)) else if al T p iB=true then some (mU T (p+1)) else none
section
variable {T:List ap} (hT:WT T)
include hT
theorem uv {p:Nat} (hp:p<T.length):(jd T p).In T p:=by
 unfold jd;cases h1:eE T 1 p with
 | bad q=>exact jn hT hp h1
 |ok a q =>
  have g1:=dm hT hp h1;simp only;split
  ·rename_i hs
   have h0:=hT.next g1.2 (ar hs);cases h2:eE T 1 (q+1) with
   | bad r=>have g2:=jn hT h0 h2;exact ⟨by omega,g2.2⟩
   |ok b r =>
    have g2:=dm hT h0 h2;simp only;split
    ·rename_i hs2;exact ⟨by omega,hT.next g2.2 (ar hs2)⟩
    ·exact ⟨by omega,g2.2⟩
  ·exact ⟨by omega,g1.2⟩
theorem xY {p:Nat} (hp:p<T.length):(eIf T p).In T p:=by
 unfold eIf;cases h1:eE T 1 p with
 | bad q=>exact jn hT hp h1
 |ok a q =>
  have g1:=dm hT hp h1;simp only;cases h2:eK T q with
  | bad r=>have g2:=qX hT g1.2 h2;exact ⟨by omega,g2.2⟩
  |ok body r =>
   have g2:=kJ hT g1.2 h2;simp only;split
   ·rename_i hs
    have h0:=hT.next g2.2 (ar hs);cases h3:eK T (r+1) with
    | bad u=>have g3:=qX hT h0 h3;exact ⟨by omega,g3.2⟩
    | ok els u=>have g3:=kJ hT h0 h3;exact ⟨by omega,g3.2⟩
   ·exact ⟨by omega,g2.2⟩
theorem wu {p:Nat} (hp:p<T.length):(mU T p).In T p:=by
 unfold mU;split
 ·rename_i hk
  have h0:=hT.next hp (by omega);split
  ·rename_i hs
   have h9:=hT.next h0 (ar hs);cases h1:eE T 1 (p+2) with
   | bad q=>have g1:=jn hT h9 h1;exact ⟨by omega,g1.2⟩
   |ok a q =>
    have g1:=dm hT h9 h1;simp only;cases h2:eK T q with
    | bad r=>have g2:=qX hT g1.2 h2;exact ⟨by omega,g2.2⟩
    | ok body r=>have g2:=kJ hT g1.2 h2;exact ⟨by omega,g2.2⟩
  ·exact ⟨by omega,h0⟩
 ·exact ⟨Nat.le_refl _,hp⟩
theorem dG {p:Nat} {r:PR SJ} (hp:p<T.length) (h:dR T p=some r):p+1<T.length/\r.In T (p+1):=by
 unfold dR at h;split at h
 ·rename_i hs
  have h0:=hT.next hp (ar hs);injection h with h;subst h
  exact ⟨h0,uv hT h0⟩
 split at h
 ·rename_i hs
  have h0:=hT.next hp (ar hs);injection h with h;subst h
  exact ⟨h0,xY hT h0⟩
 split at h
 ·rename_i hs
  have h0:=hT.next hp (ar hs);injection h with h;subst h
  exact ⟨h0,wu hT h0⟩
 ·cases h
theorem gU {p:Nat} {acc:List SJ} (hp:p<T.length):eS T acc p=(match dR T p with
  | none=>.ok acc p
  | some (.bad q)=>.bad q
  | some (.ok x q)=>eS T (acc++[x]) q):=by
 conv=>lhs;unfold eS cJ
 unfold dR;by_cases h1:al T p du=true
 ·have h0:=hT.next hp (ar h1);rw [if_pos h1,if_pos h1,mT hT (by omega) h0];simp only [jd];cases hx:eE T 1 (p+1) with
  | bad q=>rfl
  |ok a q =>
   simp only;have g1:=dm hT h0 hx;by_cases h2:al T q [44]=true
   ·have g0:=hT.next g1.2 (ar h2);rw [if_pos h2,if_pos h2,mT hT (by omega) g0];cases hy:eE T 1 (q+1) with
    | bad r=>rfl
    |ok b r =>
     have g2:=dm hT g0 hy;simp only;by_cases h3:al T r [59]=true
     ·rw [if_pos h3,if_pos h3,ux hT (hT.next g2.2 (ar h3))]
     ·rw [if_neg h3,if_neg h3]
   ·rw [if_neg h2,if_neg h2]
 rw [if_neg h1,if_neg h1];by_cases h4:al T p wIf=true
 ·have h0:=hT.next hp (ar h4);rw [if_pos h4,if_pos h4,mT hT (by omega) h0];simp only [eIf];cases hx:eE T 1 (p+1) with
  | bad q=>rfl
  |ok a q =>
   have g1:=dm hT h0 hx;simp only;rw [xZ hT g1.2];cases hy:eK T q with
   | bad r=>rfl
   |ok body r =>
    have g2:=kJ hT g1.2 hy;simp only;by_cases h5:al T r ep=true
    ·have g0:=hT.next g2.2 (ar h5);rw [if_pos h5,if_pos h5,xZ hT g0];cases hz:eK T (r+1) with
     | bad u=>rfl
     | ok els u=>simp only;rw [ux hT (kJ hT g0 hz).2]
    ·rw [if_neg h5,if_neg h5,ux hT g2.2]
 rw [if_neg h4,if_neg h4];by_cases h6:al T p iB=true
 ·have h0:=hT.next hp (ar h6);rw [if_pos h6,if_pos h6];simp only [mU];by_cases h7:tkK T (p+1)=1
  ·have h9:=hT.next h0 (by omega);rw [if_pos h7,if_pos h7,show p+1+1=p+2 from rfl,show p+1+2=p+3 from rfl];by_cases h8:al T (p+2) wIn=true
   ·have g9:=hT.next h9 (ar h8);rw [if_pos h8,if_pos h8,mT hT (by omega) g9];cases hx:eE T 1 (p+3) with
    | bad q=>rfl
    |ok a q =>
     have g1:=dm hT g9 hx;simp only;rw [xZ hT g1.2];cases hy:eK T q with
     | bad r=>rfl
     | ok body r=>simp only;rw [ux hT (kJ hT g1.2 hy).2]
   ·rw [if_neg h8,if_neg h8]
  ·rw [if_neg h7,if_neg h7]
 rw [if_neg h6,if_neg h6]
end
theorem jN (T:List ap):fL T=(match eS T [] 0 with
 | .bad p=>.bad p
 | .ok l p=>if tkK T p=6 then .ok l p else .bad p):=by unfold fL eS;rw [zr];rfl
end
section
open Go.RowKit
theorem kN:∀ {i:Nat} {l:List UInt8},aN i l=true->∀ c ∈ l,cK c=true
 | _,[],_,c,hc=>by cases hc
 |i,x::r,h,c,hc=>by
  unfold aN at h;simp only [Bool.and_eq_true,Bool.or_eq_true] at h;rcases List.mem_cons.1 hc with rfl | hc
  ·unfold cK;rcases h.1 with h1 | h1
   ·rw [h1];rfl
   ·rw [h1.2];simp
  ·exact kN h.2 c hc
theorem lY {c:UInt8} {r:List UInt8} (h:aN 0 (c::r)=true):ay c=true:=by
 unfold aN at h;simp only [Bool.and_eq_true,Bool.or_eq_true] at h;rcases h.1 with h1 | h1
 ·exact h1
 ·simp at h1
theorem oT {l:List UInt8} (h:bc ⟨l.toArray⟩=true):aN 0 l=true/\1<=l.length/\l.length<=12/\cO l=false:=by
 unfold bc at h;rw [eO] at h;simp only [Bool.and_eq_true,decide_eq_true_eq,Bool.not_eq_true',ByteArray.size,List.size_toArray] at h;exact ⟨h.1,h.2.1.1,h.2.1.2,h.2.2⟩
end
section
def kW (x:LX):Prop :=
 (x.1=1/\dB x.2.1=true/\x.2.2=0)∨(x.1=2/\x.2.1 ∈ cC/\x.2.2=0)∨(x.1=3/\0<=x.2.2/\x.2.2<=9223372036854775807/\x.2.1=iZ x.2.2)∨(x.1=4/\cA x.2.1=true/\x.2.2=0)∨(x.1=5/\x.2.1 ∈ aF/\x.2.2=0)
theorem xu {t:List UInt8} (h:t ∈ cC):(∀ c ∈ t,cK c=true)/\∃ c r,t=c::r/\ay c=true:=by
 have:∀ t ∈ cC,(t.all cK=true)/\ay (t.headD 0)=true/\t≠[]:=by decide
 obtain ⟨h1,h2,h3⟩:=this t h;refine ⟨List.all_eq_true.1 h1,?_⟩;cases t with
 | nil=>exact absurd rfl h3
 | cons c r=>exact ⟨c,r,rfl,h2⟩
theorem sm {t:List UInt8} (h:dB t=true):(∀ c ∈ t,cK c=true)/\(∃ c r,t=c::r/\ay c=true)/\cO t=false:=by
 obtain ⟨h1,h2,_,h4⟩:=oT h;refine ⟨kN h1,?_,h4⟩;cases t with
 | nil=>simp at h2
 | cons c r=>exact ⟨c,r,rfl,lY h1⟩
theorem lT {c:UInt8} (h:ay c=true):97<=c.toNat/\c.toNat<=122:=of_decide_eq_true h
theorem lC {c:UInt8} (h:aJ c=true):48<=c.toNat/\c.toNat<=57:=of_decide_eq_true h
theorem oc {x:LX} (h:kW x):∃ c r,bF x=c::r/\cn c=false/\c≠69/\(x.1=1∨x.1=2->ay c=true)/\(x.1=3->aJ c=true/\ay c=false)/\(x.1=4->c=34)/\(x.1=5->ay c=false/\aJ c=false/\c.toNat≠34):=by
 have nb:∀ c:UInt8,97<=c.toNat/\c.toNat<=122∨48<=c.toNat/\c.toNat<=57->cn c=false/\c≠69:=λ c hc=>by
  refine ⟨by unfold cn;rw [decide_eq_false_iff_not];omega,λ e=>?_⟩;rw [e] at hc;rcases hc with hc | hc
  ·exact absurd hc (by decide)
  ·exact absurd hc (by decide)
 rcases h with ⟨hk,hn,_⟩ | ⟨hk,hw,_⟩ | ⟨hk,h0,h1,ht⟩ | ⟨hk,ht,_⟩ | ⟨hk,hs,_⟩
 ·obtain ⟨_,⟨c,r,e,hl⟩,_⟩:=sm hn;obtain ⟨h2,h3⟩:=nb c (.inl (lT hl));exact ⟨c,r,by unfold bF;rw [if_neg (by omega)];exact e,h2,h3,λ _=>hl,λ h=>by omega,λ h=>by omega,λ h=>by omega⟩
 ·obtain ⟨_,c,r,e,hl⟩:=xu hw;obtain ⟨h2,h3⟩:=nb c (.inl (lT hl));exact ⟨c,r,by unfold bF;rw [if_neg (by omega)];exact e,h2,h3,λ _=>hl,λ h=>by omega,λ h=>by omega,λ h=>by omega⟩
 ·have e:iZ x.2.2=fT x.2.2.natAbs:=by unfold iZ;rw [if_neg (by omega)]
  cases hd:fT x.2.2.natAbs with
  | nil=>exact absurd hd (iJ _)
  |cons c r =>
   have hdig:=uS x.2.2.natAbs c (by rw [hd];exact List.mem_cons_self);obtain ⟨h2,h3⟩:=nb c (.inr (lC hdig));refine ⟨c,r,by unfold bF;rw [if_neg (by omega),ht,e,hd],h2,h3,λ h=>by omega,λ _=>⟨hdig,?_⟩,λ h=>by omega,λ h=>by omega⟩;have:=lC hdig;unfold ay;rw [decide_eq_false_iff_not];omega
 ·refine ⟨34,(ig x.2.1).flatMap bQ++[34],by unfold bF mX;rw [if_pos hk];rfl,by decide,by decide,λ h=>by omega,λ h=>by omega,λ _=>rfl,λ h=>by omega⟩
 ·have:∀ t ∈ aF,t≠[]/\cn (t.headD 0)=false/\t.headD 0≠69/\ay (t.headD 0)=false/\aJ (t.headD 0)=false/\(t.headD 0).toNat≠34:=by decide
  obtain ⟨h1,h2,h3,h4⟩:=this _ hs;cases ht:x.2.1 with
  | nil=>exact absurd ht h1
  |cons c r =>
   rw [ht] at h2 h3 h4;exact ⟨c,r,by unfold bF;rw [if_neg (by omega)];exact ht,h2,h3,λ h=>by omega,λ h=>by omega,λ h=>by omega,λ _=>h4⟩
def iU:List LX->Prop
 | []=>True
 | [x]=>kW x
 | x::y::r=>kW x/\(x.1=5->x.2.1=[60]->(bF y).headD 0≠61)/\iU (y::r)
theorem iU.head {x:LX} {r:List LX} (h:iU (x::r)):kW x:=by
 cases r with
 | nil=>exact h
 | cons y r=>exact h.1
theorem iU.tail {x:LX} {r:List LX} (h:iU (x::r)):iU r:=by
 cases r with
 | nil=>trivial
 | cons y r=>exact h.2.2
def wg (t:ap):Prop:=1<=t.1/\t.1<=5/\(t.1=2->t.2.2.1 ∈ cC)/\(t.1=5->t.2.2.1 ∉ cC)
theorem xh {l:List UInt8} {p:Nat} {k n:Int} {t:List UInt8} {m:Nat} (h:cV l p=.inl (k,t,n,m)) (a:Nat):wg (k,a,t,n):=by
 unfold cV at h;cases hc:l[p]? with
 | none=>rw [hc] at h;cases h
 |some c =>
  rw [hc] at h;simp only at h;split at h
  ·unfold cU at h;simp only at h;split at h
   ·rename_i hw
    simp only [Sum.inl.injEq,Prod.mk.injEq] at h;obtain ⟨rfl,rfl,rfl,rfl⟩:=h;exact ⟨by show (1:Int)<=2;decide,by show (2:Int)<=5;decide,λ _=>of_decide_eq_true hw,λ h=>absurd h (by show ¬ (2:Int)=5;decide)⟩
   ·split at h
    ·simp only [Sum.inl.injEq,Prod.mk.injEq] at h;obtain ⟨rfl,rfl,rfl,rfl⟩:=h;exact ⟨by show (1:Int)<=1;decide,by show (1:Int)<=5;decide,λ h=>absurd h (by show ¬ (1:Int)=2;decide),λ h=>absurd h (by show ¬ (1:Int)=5;decide)⟩
    ·cases h
  ·split at h
   ·unfold di at h;simp only at h;split at h
    ·simp only [Sum.inl.injEq,Prod.mk.injEq] at h;obtain ⟨rfl,rfl,rfl,rfl⟩:=h;exact ⟨by show (1:Int)<=3;decide,by show (3:Int)<=5;decide,λ h=>absurd h (by show ¬ (3:Int)=2;decide),λ h=>absurd h (by show ¬ (3:Int)=5;decide)⟩
    ·cases h
   ·split at h
    ·unfold fO at h;simp only at h;split at h
     ·simp only [Sum.inl.injEq,Prod.mk.injEq] at h;obtain ⟨rfl,rfl,rfl,rfl⟩:=h;exact ⟨by show (1:Int)<=4;decide,by show (4:Int)<=5;decide,λ h=>absurd h (by show ¬ (4:Int)=2;decide),λ h=>absurd h (by show ¬ (4:Int)=5;decide)⟩
     ·cases h
    ·unfold eU at h;cases hf:cE l p aF with
     | none=>rw [hf] at h;cases h
     |some s =>
      rw [hf] at h;simp only [Sum.inl.injEq,Prod.mk.injEq] at h;obtain ⟨rfl,rfl,rfl,rfl⟩:=h;have hall:∀ s ∈ aF,s ∉ cC:=by decide
      exact ⟨by show (1:Int)<=5;decide,by show (5:Int)<=5;decide,λ h=>absurd h (by show ¬ (5:Int)=2;decide),λ _=>hall s (fI hf).1⟩
theorem vB {l:List UInt8}:∀ (k p:Nat) (T:List ap),gI l k p=(T,none)->l.length-p<k->∃ T',T=T'++[(6,l.length,[],0)]/\∀ t ∈ T',wg t
 | 0,_,_,_,h=>by omega
 |k+1,p,T,hr,hk=>by
  unfold gI at hr;split at hr
  ·rename_i hq
   cases hv:cV l (bV l p) with
   | inr e=>rw [hv] at hr;injection hr with _ h2;cases h2
   |inl r =>
    obtain ⟨kd,t,n,m⟩:=r;rw [hv] at hr;simp only at hr;injection hr with h1 h2
    have hm:=iA hq hv;have hg:=iv l p;obtain ⟨T',e,h3⟩:=vB k m (gI l k m).1 (by rw [← h2]) (by omega);refine ⟨(kd,bV l p,t,n)::T',by rw [← h1,e];rfl,λ x hx=>?_⟩;rcases List.mem_cons.1 hx with rfl | hx
    ·exact xh hv _
    ·exact h3 x hx
  ·injection hr with h1 _
   exact ⟨[],h1.symm,λ t h=>by cases h⟩
theorem WT.of {T':List ap} {n:Nat} (h:∀ t ∈ T',wg t):WT (T'++[(6,n,[],0)]):=by
 have hlt:∀ p,p<T'.length->∃ t,(T'++[((6:Int),n,([]:List UInt8),(0:Int))])[p]? = some t/\wg t:=λ p hp=>by
  rw [List.getElem?_append_left hp];exact ⟨_,List.getElem?_eq_getElem hp,h _ (List.getElem_mem hp)⟩
 have hge:∀ p,T'.length<=p->tkK (T'++[((6:Int),n,([]:List UInt8),(0:Int))]) p=6:=λ p hp=>by
  unfold tkK;rcases Nat.eq_or_lt_of_le hp with rfl | hp
  ·simp
  ·rw [List.getElem?_eq_none (by simp;omega)]
 refine ⟨⟨T'.length,by simp,hge _ (Nat.le_refl _)⟩,λ p hp=>?_,λ p hk=>?_,λ p hk=>?_,λ p=>?_⟩
 ·obtain ⟨t,h1,h2⟩:=hlt p (by simp at hp;omega);unfold tkK;rw [h1];have:=h2.2.1;show t.1≠6;omega
 ·rcases Nat.lt_or_ge p T'.length with hp | hp
  ·obtain ⟨t,h1,h2⟩:=hlt p hp;unfold tkK at hk;rw [h1] at hk;unfold tkT;rw [h1];exact h2.2.2.1 hk
  ·rw [hge p hp] at hk;omega
 ·rcases Nat.lt_or_ge p T'.length with hp | hp
  ·obtain ⟨t,h1,h2⟩:=hlt p hp;unfold tkK at hk;rw [h1] at hk;unfold tkT;rw [h1];exact h2.2.2.2 hk
  ·rw [hge p hp] at hk;omega
 ·rcases Nat.lt_or_ge p T'.length with hp | hp
  ·obtain ⟨t,h1,h2⟩:=hlt p hp;unfold tkK;rw [h1];exact ⟨h2.1,by have:=h2.2.1;show t.1<=6;omega⟩
  ·rw [hge p hp];omega
end
section
open Go.RowKit Go.Shelf
attribute [local go_sem] aa ac ae ab
theorem og:∀ {l:List EJ} {x:EJ},x ∈ l->qu x<=sK l
 |y::r,x,h=>by
  unfold sK;rcases List.mem_cons.1 h with rfl | h
  ·omega
  ·have:=og h;omega
theorem vJ (x:EJ):1<=qu x:=by cases x;unfold qu;omega
end
section
open Go.RowKit
attribute [local go_sem] aa ac ae ab
end
end Go.Proofs.YtgmnmnnoahdjnaaGreatDoor
