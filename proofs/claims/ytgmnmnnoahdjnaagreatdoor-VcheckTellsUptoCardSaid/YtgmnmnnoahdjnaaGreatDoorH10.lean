import Derived.Test.YtgmnmnnoahdjnaaGreatDoorH09
set_option maxRecDepth 100000
set_option maxHeartbeats 16000000
set_option linter.unusedVariables false
set_option linter.unusedSimpArgs false
namespace Go.Proofs.YtgmnmnnoahdjnaaGreatDoor
section
theorem tr {l:List UInt8} {e:Nat} (h:aR l e=[]) (he:e<l.length):(qsS l e).2.2≠0:=λ h0=>by
 obtain ⟨p,m,h1,h2,_⟩:=ox (c:=(qsS l e).1) (n:=(qsS l e).2.1) (by rw [← h0]) he;have:=ge (l:=l) (a:=e) (p:=p) (m:=m) (by rw [← h1,← h2,← h0]) he;rw [h] at this;cases this
theorem ow {l:List UInt8} {a:Nat} (h:(dt l a).2.2=0):∃ m:Nat,(dt l a).2.1=m/\a<m/\m<=l.length:=by
 unfold dt at h ⊢;split at h
 ·simp at h
 ·rename_i h1
  rw [if_neg h1];split at h
  ·simp at h
  ·rename_i h2
   rw [if_neg h2];rw [Int.toNat_natCast] at h ⊢;split at h
   ·simp at h
   ·rename_i h3
    rw [if_neg h3];have hp:=jn (l:=l) (l.length-(a+1)) (a+1) _ (Nat.le_refl _) (List.prefix_refl _) (by omega);obtain ⟨_,g2,g3,g4⟩:=hp;split at h
    ·rename_i h4
     rw [if_pos h4];have:=(List.getElem?_eq_some_iff.1 h4).1;exact ⟨fj (a+1) (aR l (a+1))+1,rfl,by omega,this⟩
    ·exfalso;have hnil:aR l (fj (a+1) (aR l (a+1)))=[]:=List.self_eq_append_right.1 g4;unfold jD at h;rw [if_neg (by omega)] at h;split at h
     ·simp at h
     ·rename_i h5
      rw [Int.toNat_natCast] at h;exact tr hnil (by omega) h
end
section
open Go.RowKit
theorem oI {s l:List UInt8} {st:NSt}:st.pos<=(cx s l st).pos:=by
 unfold cx;split
 ·exact Nat.le_succ _
 ·exact Nat.le_refl _
theorem mP {gr:Bool} {l:List UInt8} {st:NSt}:st.pos<=(gc gr l st).1.pos:=by
 unfold gc;split
 ·exact Nat.le_refl _
 ·cases gr<;>exact Nat.le_add_right _ _
theorem oF {k:Nat} {l:List UInt8} {st st':NSt} {q:Option Nat} (h:d8 k l st=(st',q)):st.pos<=st'.pos:=by
 have e:(d8 k l st).1=st':=by rw [h]
 rw [← e];rcases k with _ | _ | _ | k
 ·exact oI (s:=[45])
 ·show st.pos<=(ev l st).1.pos
  unfold ev;split
  ·exact Nat.le_succ _
  ·exact mP
 ·show st.pos<=(iu l st).1.pos
  unfold iu;split
  ·exact Nat.le_trans (Nat.le_succ st.pos) (mP (gr:=false) (l:=l) (st:={ st with pos:=st.pos+1,part:=true }))
  ·exact Nat.le_refl _
 ·show st.pos<=(my l st).1.pos
  unfold my;split
  ·exact Nat.le_trans (Nat.le_trans (Nat.le_succ st.pos) (oI (s:=[43,45]) (l:=l) (st:={ st with pos:=st.pos+1,part:=true }))) mP
  ·exact Nat.le_refl _
theorem mS {l:List UInt8}:∀ {ks:List Nat} {st st':NSt} {q:Option Nat},jN l ks st=(st',q)->st.pos<=l.length->st.size<18446744073709551616->st.pos<=st'.pos/\st'.pos<=l.length
 |[],st,st',q,h,hp,_=>by
  simp only [jN,Prod.mk.injEq] at h;rw [← h.1];exact ⟨Nat.le_refl _,hp⟩
 |k::ks,st,st',q,h,hp,hs=>by
  obtain ⟨⟨s1,r⟩,hr⟩:∃ r,d8 k l st=r:=⟨_,rfl⟩
  have hle:=dX hr hp hs;have hge:=oF hr;cases r with
  |none =>
   rw [dc hr] at h;have:=mS h hle.1 hle.2;exact ⟨Nat.le_trans hge this.1,this.2⟩
  |some p =>
   rw [dO hr] at h;simp only [Prod.mk.injEq] at h;rw [← h.1];exact ⟨hge,hle.1⟩
theorem kF {l:List UInt8} {a:Nat} (h:(co l a).2.2=0):∃ m:Nat,(co l a).2.1=m/\a<=m/\m<=l.length:=by
 unfold co at h ⊢;split at h
 ·simp at h
 ·rename_i h1
  rw [if_neg h1];rw [Int.toNat_natCast] at h ⊢;obtain ⟨⟨st,q⟩,hq⟩:∃ r,dM l (bT a)=r:=⟨_,rfl⟩
  have hin:=mS hq (by show a<=_;omega) (by show 0 < _;omega);rw [hq] at h ⊢;cases q with
  | some p=>simp at h
  |none =>
   simp only at h ⊢;unfold bF at h ⊢;split at h
   ·simp at h
   ·rename_i h2
    rw [if_neg h2];exact ⟨st.pos,rfl,hin.1,hin.2⟩
theorem oP {l:List UInt8} {st st':NSt} (h:ev l st=(st',none)):st.pos<st'.pos:=by
 unfold ev at h;split at h
 ·simp only [Prod.mk.injEq] at h;rw [← h.1];exact Nat.lt_succ_self _
 ·unfold gc at h;split at h
  ·simp at h
  ·rename_i hd
   simp only [Prod.mk.injEq] at h;rw [← h.1];have:0<(dZ l st.pos).length:=List.length_pos_iff.2 hd;show st.pos<st.pos+_
   omega
theorem mJ {l:List UInt8} {a:Nat} (h:(co l a).2.2=0):∃ m:Nat,(co l a).2.1=m/\a<m/\m<=l.length:=by
 obtain ⟨m,h1,_,h3⟩:=kF h;refine ⟨m,h1,?_,h3⟩;unfold co at h h1;split at h
 ·simp at h
 ·rename_i hin
  rw [if_neg hin] at h1;rw [Int.toNat_natCast] at h h1;obtain ⟨⟨st,q⟩,hq⟩:∃ r,dM l (bT a)=r:=⟨_,rfl⟩
  rw [hq] at h h1;cases q with
  | some p=>simp at h
  |none =>
   simp only at h h1;unfold bF at h h1;split at h
   ·simp at h
   ·rename_i h2
    rw [if_neg h2] at h1;have hm:st.pos=m:=by simp at h1;omega
    rw [← hm];unfold dM at hq;have ha:a<=l.length:=by omega
    obtain ⟨⟨s1,r1⟩,e1⟩:∃ r,d8 0 l (bT a)=r:=⟨_,rfl⟩
    have b1:=oF e1;have c1:=dX e1 ha (by show 0 < _;omega);have hr1:r1=none:=by
     have:(d8 0 l (bT a)).2=none:=rfl;rw [e1] at this;exact this
    subst hr1;rw [dc e1] at hq;obtain ⟨⟨s2,r2⟩,e2⟩:∃ r,d8 1 l s1=r:=⟨_,rfl⟩
    cases r2 with
    | some x=>rw [dO e2] at hq;simp at hq
    |none =>
     have b2:=oP (l:=l) (st:=s1) (st':=s2) e2;have c2:=dX e2 c1.1 c1.2;rw [dc e2] at hq;have b3:=mS hq c2.1 c2.2;have:(bT a).pos=a:=rfl;omega
end
section
section
variable {l:List UInt8}
end
def later (p:Nat):rW->Prop
 | .go _ p' _ _=>p<p'
 | _=>True
section
variable {l:List UInt8}
end
end
section
open Go.RowKit
section Cut
variable {l:List UInt8}
end Cut
section Cut
variable {l:List UInt8}
end Cut
section CutN
variable {l:List UInt8}
end CutN
section CutS
variable {l:List UInt8}
def far (n:Nat):rW->Prop
 | .fail _ _=>True
 | .go _ p' _ _=>n<p'
 | .done q _=>n<q
end CutS
end
end Go.Proofs.YtgmnmnnoahdjnaaGreatDoor
