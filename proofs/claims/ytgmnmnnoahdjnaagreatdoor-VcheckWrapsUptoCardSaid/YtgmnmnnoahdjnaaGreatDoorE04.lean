import Derived.Test.YtgmnmnnoahdjnaaGreatDoorE03
import Derived.Test.YtgmnmnnoahdjnaaGreatDoorE01
import Derived.Test.YtgmnmnnoahdjnaaGreatDoorE02
open Go.Value renaming int → Zi, slice → Zs, string → Zt, pointer → Zp
open Go.IntKind renaming i64 → Zq
set_option maxRecDepth 100000
set_option maxHeartbeats 16000000
set_option linter.unusedVariables false
set_option linter.unusedSimpArgs false
namespace Go.Proofs.YtgmnmnnoahdjnaaGreatDoor
section
open Go.RowKit
attribute [local go_sem] aa ac ae ab
mutual
theorem Cj:∀ (x:SJ) (kn:List (List UInt8)) (n:Nat),rgS kn n x=0∨(340<=rgS kn n x/\rgS kn n x<=342)
 | .mk k s a b body els,kn,n=>by
  have h1:=BT body (kn++[s]) (n+1);have h2:=BT body kn n;have h3:=BT els kn n;rw [rgS];split
  ·omega
  ·split
   ·split
    ·omega
    ·split
     ·omega
     ·split<;>omega
   ·split<;>omega
theorem BT:∀ (l:List SJ) (kn:List (List UInt8)) (n:Nat),rgL kn n l=0∨(340<=rgL kn n l/\rgL kn n l<=342)
 | [],kn,n=>.inl rfl
 |x::r,kn,n=>by
  have h1:=Cj x kn n;have h2:=BT r kn n;rw [rgL];split<;>omega
end
theorem BW {l:List SJ}:dQ l≠332 ↔ fG l=true:=by
 rw [BV];by_cases h:fG l=true
 ·rw [if_pos h];have:=BT l (knw []) 0;exact ⟨λ _=>h,λ _=>by omega⟩
 ·rw [if_neg h];exact ⟨λ h'=>absurd rfl h',λ h'=>absurd h' h⟩
/-- slices.Clone of a row of texts -/
theorem Ce (l:List (List UInt8)) (A:Option Addr) (n ca:Nat) (w:World) (hl:l.length=n) (hn:n<=4194304) (hnc:n<=ca) (hA:A=none->ca=0) (hr:Rd w A (bY l)) :
  Calls Tryz.prog 36 #[Zs A n ca] w λ e w' => ∃ v,e=.returned v/\w'.ownsRow w.heap.size 9 1 v n (bY l)/\Below w.heap.size w w':=by
 have HR:=aW hr;have HL:=aW hl;clear hr hl;have hnil:=λ (A:Option Addr) (n c:Nat) (w:World)=>Lib.run_eql_slice_nil (P:=Tryz.prog) (w:=w) 40 9 A n c 0 0 Tryz.underlying40
 cases A with
 |none =>
  have hc0:=hA rfl;have hn0:n=0:=by omega
  subst hn0 hc0;have:l=[]:=List.eq_nil_of_length_eq_zero HL.out;subst this;clear HR HL;go_enter Tryz.func36,Tryz.ntmps36;go_wp2;go_ret;exact ⟨_,rfl,World.ownsRow_nil _ _ _ _,Below.refl _ _⟩
 |some a =>
  obtain ⟨i0,hi,hz,h1,h2⟩:=qw;have HI:=aW (And.intro hi (And.intro hz (And.intro h1 h2)));have HO:=aW (World.ownsRow_lit (base:=w.heap.size) (size:=1) (e:=9) w #[] 0 (Nat.le_refl _) (by unfold maxLen;omega) rfl);have HB:=aW (show Below w.heap.size w (w.alloc (.cells #[] 9)) from (Below.refl _ w).alloc (Nat.le_refl _) _);have HR2:=aW (HR.out.alloc (.cells #[] 9));clear hi hz h1 h2 hA;go_enter Tryz.func36,Tryz.ntmps36;go_wp2_with (at_builtin;refine cX _ rfl (.tmp 5) (.tmp 6) 40 rfl w.heap.size 9 i0 _ 1 16 Tryz.underlying40 HI.out.1 HI.out.2.1 HI.out.2.2.1 HI.out.2.2.2 rfl (by decide) _ 0 [] (by rfl) HO.out _ n ca (λ e=>by cases e) (bY l) (by rfl) (by rw [di,HL.out];omega) HR2.out (BP l) (by unfold maxLen;omega) (by omega) (by simp) ?_;intro v' w1 hown hgr _);go_ret;exact ⟨v',rfl,by simpa using hown,HB.out.grown hgr HB.out.size (λ k e=>(HO.out.lt k e).1)⟩
end
end Go.Proofs.YtgmnmnnoahdjnaaGreatDoor
