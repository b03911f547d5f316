import Derived.Test.YtgmnmnnoahdjnaaGreatDoorH10
import Derived.Test.YtgmnmnnoahdjnaaGreatDoorH11
open Go.Value renaming int → Zi, slice → Zs, string → Zt, pointer → Zp
open Go.IntKind renaming i64 → Zq
set_option maxRecDepth 100000
set_option maxHeartbeats 16000000
set_option linter.unusedVariables false
set_option linter.unusedSimpArgs false
namespace Go.Proofs.YtgmnmnnoahdjnaaGreatDoor
section
section Less
end Less
mutual
def aN:JV->Nat | .mk _ _ _ kids _=>1+aP kids
def aP:List JV->Nat | []=>0 | x::r=>aN x+aP r
end
theorem gZ:∀ (xs ys:List JV),aP (xs++ys)=aP xs+aP ys
 | [],ys=>by simp [aP]
 | x::r,ys=>by rw [List.cons_append,aP,aP,gZ r ys];omega
section RightR
variable {l:List UInt8}
end RightR
end
section
open Go.RowKit
theorem gJ {W:World} {b o:Nat} {ks:List (List UInt8)} {n:Nat} (h:RdF W (λ _=>True) (some ⟨b,o,none⟩) (ar ks)) {i:Nat} {t:List UInt8} (hx:ks[i]? = some t):W.cell? ⟨b,o+i,none⟩=some (Zt ⟨t.toArray⟩):=by
 have hkl:=List.getElem?_eq_some_iff.1 hx;obtain ⟨b',o',e,_,_,hc⟩:=h (by intro e;have h:=av ks;rw [e] at h;have:=hkl.1;simp at h;omega);injection e with e;injection e with e1 e2
 subst e1;subst e2;rw [hc i (by rw [av];exact hkl.1)];simp [ar,hkl.2]
theorem lX {W:World} {F:Nat->Prop} {A:Option Addr} {ks:List (List UInt8)} (h:RdF W F A (ar ks)) (hx:0<ks.length):∃ b o,A=some ⟨b,o,none⟩/\b<W.heap.size:=by
 obtain ⟨b,o,e,hb,_⟩:=h (by intro e;have h:=av ks;rw [e] at h;simp at h;omega);exact ⟨b,o,e,hb⟩
theorem dK (v:JV):1<=aN v:=by cases v;unfold aN;omega
theorem kD:∀ xs:List JV,xs.length<=aP xs
 | []=>Nat.zero_le _
 | x::r=>by have:=kD r;have:=dK x;rw [aP,List.length_cons];omega
theorem jj {xs:List JV} {i:Nat} {x:JV} (h:xs[i]? = some x):aP (xs.take (i+1))=aP (xs.take i)+aN x/\aP (xs.take i)+aN x<=aP xs:=by
 have e:aP (xs.take (i+1))=aP (xs.take i)+aN x:=by rw [List.take_add_one,h,gZ];show _+aP [x]=_;rw [aP,aP];omega
 refine ⟨e,?_⟩;have:=gZ (xs.take (i+1)) (xs.drop (i+1));rw [List.take_append_drop] at this;omega
def kV:Nat->List UInt8->Bool
 | _,[]=>true
 | 0,_::_=>false
 | f+1,c::r=>if (au (c::r)).2=0 then false else kV f ((c::r).drop (au (c::r)).2)
def cF (l:List UInt8):Bool:=kV l.length l
theorem kW:∀ (f g:Nat) (l:List UInt8),l.length<=f->l.length<=g->kV f l=kV g l
 | f,g,[],_,_=>by cases f<;>cases g<;>rfl
 | 0,_,_::_,h,_=>by simp at h
 | _+1,0,_::_,_,h=>by simp at h
 |f+1,g+1,c::r,h,h'=>by
  unfold kV;split
  ·rfl
  ·rename_i hn
   refine kW f g _ ?_ ?_ <;> · rw [List.length_drop,List.length_cons] at *;omega
theorem kX {l:List UInt8} (h:l≠[]):cF l=(if (au l).2=0 then false else cF (l.drop (au l).2)):=by
 cases l with
 | nil=>exact absurd rfl h
 |cons c r =>
  show kV (r.length+1) (c::r)=_
  unfold kV;split
  ·rfl
  ·rename_i hn
   refine kW _ _ _ ?_ ?_ <;> · rw [List.length_drop,List.length_cons];omega
theorem jt (l:List UInt8):(au l).2<=l.length/\(au l).2<=4:=⟨ju l,j4 l⟩
def cA:List (List UInt8)->Bool
 | []=>true
 | k::r=>cF k && ((match r with | []=>true | k'::_=>ltB k k') && cA r)
def bZ (k n:Int) (s:List UInt8) (nk:Nat) (keys:List (List UInt8)):Bool :=
 if k=1 then n == 0 && s == [] && nk == 0 && keys == []
 else if k=2 then (n == 0 || n == 1) && s == [] && nk == 0 && keys == []
 else if k=3 then s == [] && nk == 0 && keys == []
 else if k=4 then n == 0 && cF s && nk == 0 && keys == []
 else if k=5 then n == 0 && s == [] && keys == []
 else if k=6 then n == 0 && s == [] && nk == keys.length && cA keys
 else false
mutual
/-- right within so many levels -/
def dR:Nat->JV->Bool
 | d,.mk k n s kids keys=>bZ k n s kids.length keys && (decide (5<=k->d≠0) && fP (d-1) kids)
def fP:Nat->List JV->Bool
 | _,[]=>true
 | d,x::r=>dR d x && fP d r
end
theorem jd {d:Nat}:∀ {xs:List JV},fP d xs=true ↔ ∀ x ∈ xs,dR d x=true
 | []=>by simp [fP]
 | x::r=>by simp [fP,jd (xs:=r)]
def dg (v:JV):Bool:=dR 8 v && decide (aN v<=256)
theorem fs {k n:Int} {s:List UInt8} {nk:Nat} {keys:List (List UInt8)} (h:bZ k n s nk keys=true):1<=k/\k<=6:=by
 unfold bZ at h;split at h
 ·omega
 split at h
 ·omega
 split at h
 ·omega
 split at h
 ·omega
 split at h
 ·omega
 split at h
 ·omega
 ·cases h
theorem km {k n:Int} {s:List UInt8} {nk:Nat} {keys:List (List UInt8)} (h:bZ k n s nk keys=true) (hk:k<5):nk=0/\keys=[]:=by
 have:=fs h;unfold bZ at h;split at h
 ·simp only [Bool.and_eq_true,beq_iff_eq] at h;exact ⟨h.1.2,h.2⟩
 split at h
 ·simp only [Bool.and_eq_true,beq_iff_eq] at h;exact ⟨h.1.2,h.2⟩
 split at h
 ·simp only [Bool.and_eq_true,beq_iff_eq] at h;exact ⟨h.1.2,h.2⟩
 split at h
 ·simp only [Bool.and_eq_true,beq_iff_eq] at h;exact ⟨h.1.2,h.2⟩
 ·omega
def TT:Nat->Prop:=λ _=>True
def iw (n:Int):Prop:=-9223372036854775808<=n/\n<=9223372036854775807
mutual
def inJ:JV->Prop | .mk k n s kids keys=>iw k/\iw n/\inL kids
def inL:List JV->Prop | []=>True | x::r=>inJ x/\inL r
end
theorem qk:∀ {xs:List JV},inL xs ↔ ∀ x ∈ xs,inJ x
 | []=>by simp [inL]
 | x::r=>by simp [inL,qk (xs:=r)]
def cI:List (List UInt8)->Nat | []=>0 | k::r=>k.length+1+cI r
mutual
/-- how much a value is -/
def bW:JV->Nat | .mk k n s kids keys=>1+s.length+cI keys+cq kids
def cq:List JV->Nat | []=>0 | x::r=>bW x+cq r
end
theorem qM (v:JV):1<=bW v:=by cases v;unfold bW;omega
theorem lz:∀ ks:List (List UInt8),ks.length<=cI ks
 | []=>Nat.zero_le _
 | k::r=>by have:=lz r;unfold cI;rw [List.length_cons];omega
theorem nj:∀ {ks:List (List UInt8)} {t:List UInt8},t ∈ ks->t.length+1<=cI ks
 |k::r,t,h=>by
  unfold cI;rcases List.mem_cons.1 h with rfl | h
  ·omega
  ·have:=nj h;omega
theorem lA:∀ xs:List JV,xs.length<=cq xs
 | []=>Nat.zero_le _
 | x::r=>by have:=lA r;have:=qM x;unfold cq;rw [List.length_cons];omega
mutual
theorem kE:∀ v:JV,aN v<=bW v
 | .mk k n s kids keys=>by have:=jB kids;unfold aN bW;omega
theorem jB:∀ xs:List JV,aP xs<=cq xs
 | []=>Nat.le_refl _
 | x::r=>by have:=kE x;have:=jB r;unfold aP cq;omega
end
mutual
/-- the lengths of a value's parts -/
def qZ:JV->Prop | .mk k n s kids keys=>s.length<=4194304/\kids.length<=4194304/\keys.length<=4194304/\(∀ t ∈ keys,t.length<=4194304)/\pk kids
def pk:List JV->Prop | []=>True | x::r=>qZ x/\pk r
end
theorem nY:∀ {xs:List JV},pk xs ↔ ∀ x ∈ xs,qZ x
 | []=>by simp [pk]
 | x::r=>by simp [pk,nY (xs:=r)]
mutual
theorem lL:∀ v:JV,bW v<=4194304->qZ v
 | .mk k n s kids keys,h=>by
  unfold bW at h;have:=lz keys;have:=lA kids;unfold qZ;exact ⟨by omega,by omega,by omega,λ t ht=>by have:=nj ht;omega,lM kids (by omega)⟩
theorem lM:∀ xs:List JV,cq xs<=4194304->pk xs
 | [],_=>trivial
 | x::r,h=>by unfold cq at h;unfold pk;exact ⟨lL x (by omega),lM r (by omega)⟩
end
theorem lO:∀ {xs:List JV} {x:JV},x ∈ xs->aN x<=aP xs
 |y::r,x,h=>by
  unfold aP;rcases List.mem_cons.1 h with rfl | h
  ·omega
  ·have:=lO h;omega
structure cN (v:JV):Prop where
 ints:inJ v
 nodes:aN v<=4194304
 lens:qZ v
theorem cN.of {v:JV} (h1:inJ v) (h2:bW v<=4194304):cN v:=⟨h1,Nat.le_trans (kE v) h2,lL v h2⟩
theorem cN.out {k n:Int} {s:List UInt8} {kids:List JV} {keys:List (List UInt8)} (h:cN (.mk k n s kids keys)) :
  iw k/\iw n/\s.length<=4194304/\kids.length<=4194304/\keys.length<=4194304/\(∀ t ∈ keys,t.length<=4194304)/\∀ x ∈ kids,cN x:=by
 obtain ⟨h1,h2,h3⟩:=h;unfold inJ at h1;unfold aN at h2;unfold qZ at h3;refine ⟨h1.1,h1.2.1,h3.1,h3.2.1,h3.2.2.1,h3.2.2.2.1,λ x hx=>⟨qk.1 h1.2.2 x hx,?_,nY.1 h3.2.2.2.2 x hx⟩⟩;have:=lO hx;omega
instance:Inhabited JV:=⟨cJ⟩
end
end Go.Proofs.YtgmnmnnoahdjnaaGreatDoor
