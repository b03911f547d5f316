import Derived.Test.YtgmnmnnoahdjnaaGreatDoorC07
set_option maxRecDepth 100000
set_option maxHeartbeats 16000000
set_option linter.unusedVariables false
set_option linter.unusedSimpArgs false
namespace Go.Proofs.YtgmnmnnoahdjnaaGreatDoor
section
theorem wQ {l:List UInt8} {e:Nat} (h:aR l e=[]) (he:e<l.length):(qsS l e).2.2≠0:=λ h0=>by
 obtain ⟨p,m,h1,h2,_⟩:=qV (c:=(qsS l e).1) (n:=(qsS l e).2.1) (by rw [← h0]) he;have:=fT (l:=l) (a:=e) (p:=p) (m:=m) (by rw [← h1,← h2,← h0]) he;rw [h] at this;cases this
theorem qU {l:List UInt8} {a:Nat} (h:(dE l a).2.2=0):∃ m:Nat,(dE l a).2.1=m/\a<m/\m<=l.length:=by
 unfold dE at h ⊢;split at h
 ·simp at h
 ·rename_i h1
  rw [if_neg h1];split at h
  ·simp at h
  ·rename_i h2
   rw [if_neg h2];rw [Int.toNat_natCast] at h ⊢;split at h
   ·simp at h
   ·rename_i h3
    rw [if_neg h3];have hp:=kK (l:=l) (l.length-(a+1)) (a+1) _ (Nat.le_refl _) (List.prefix_refl _) (by omega);obtain ⟨_,g2,g3,g4⟩:=hp;split at h
    ·rename_i h4
     rw [if_pos h4];have:=(List.getElem?_eq_some_iff.1 h4).1;exact ⟨et (a+1) (aR l (a+1))+1,rfl,by omega,this⟩
    ·exfalso;have hnil:aR l (et (a+1) (aR l (a+1)))=[]:=List.self_eq_append_right.1 g4;unfold j0 at h;rw [if_neg (by omega)] at h;split at h
     ·simp at h
     ·rename_i h5
      rw [Int.toNat_natCast] at h;exact wQ hnil (by omega) h
theorem wP {l:List UInt8} {a:Nat} (h:a<l.length):dE l (a:Int)=if l[a]? ≠ some 34 then ([],(a:Int),7)
 else if l[et (a+1) (aR l (a+1))]? = some 34 then (bG (aR l (a+1)),(et (a+1) (aR l (a+1)):Int)+1,0)
 else ([],(et (a+1) (aR l (a+1)):Int),(j0 l (et (a+1) (aR l (a+1)):Nat)).2.2):=by
 unfold dE;rw [if_neg (by omega),if_neg (by omega),Int.toNat_natCast]
theorem uw (a:Nat) (x:Int × Int) (xs:List (Int × Int)):et a (x::xs)=et x.2.toNat xs:=by
 unfold et;cases xs with
 | nil=>rfl
 | cons y ys=>rw [List.getLast?_cons_cons];rw [List.getLast?_eq_some_getLast (by simp)]
end
section
open Go.RowKit
theorem rg {s l:List UInt8} {st:NSt}:st.pos<=(cS s l st).pos:=by
 unfold cS;split
 ·exact Nat.le_succ _
 ·exact Nat.le_refl _
theorem pt {gr:Bool} {l:List UInt8} {st:NSt}:st.pos<=(ii gr l st).1.pos:=by
 unfold ii;split
 ·exact Nat.le_refl _
 ·cases gr<;>exact Nat.le_add_right _ _
theorem q9 {k:Nat} {l:List UInt8} {st st':NSt} {q:Option Nat} (h:dV k l st=(st',q)):st.pos<=st'.pos:=by
 have e:(dV k l st).1=st':=by rw [h]
 rw [← e];rcases k with _ | _ | _ | k
 ·exact rg (s:=[45])
 ·show st.pos<=(ei l st).1.pos
  unfold ei;split
  ·exact Nat.le_succ _
  ·exact pt
 ·show st.pos<=(ix l st).1.pos
  unfold ix;split
  ·exact Nat.le_trans (Nat.le_succ st.pos) (pt (gr:=false) (l:=l) (st:={ st with pos:=st.pos+1,part:=true }))
  ·exact Nat.le_refl _
 ·show st.pos<=(mc l st).1.pos
  unfold mc;split
  ·exact Nat.le_trans (Nat.le_trans (Nat.le_succ st.pos) (rg (s:=[43,45]) (l:=l) (st:={ st with pos:=st.pos+1,part:=true }))) pt
  ·exact Nat.le_refl _
theorem pw {l:List UInt8}:∀ {ks:List Nat} {st st':NSt} {q:Option Nat},lz l ks st=(st',q)->st.pos<=l.length->st.size<18446744073709551616->st.pos<=st'.pos/\st'.pos<=l.length
 |[],st,st',q,h,hp,_=>by
  simp only [lz,Prod.mk.injEq] at h;rw [← h.1];exact ⟨Nat.le_refl _,hp⟩
 |k::ks,st,st',q,h,hp,hs=>by
  obtain ⟨⟨s1,r⟩,hr⟩:∃ r,dV k l st=r:=⟨_,rfl⟩
  have hle:=eZ hr hp hs;have hge:=q9 hr;cases r with
  |none =>
   rw [cH hr] at h;have:=pw h hle.1 hle.2;exact ⟨Nat.le_trans hge this.1,this.2⟩
  |some p =>
   rw [eF hr] at h;simp only [Prod.mk.injEq] at h;rw [← h.1];exact ⟨hge,hle.1⟩
theorem mH {l:List UInt8} {a:Nat} (h:(cD l a).2.2=0):∃ m:Nat,(cD l a).2.1=m/\a<=m/\m<=l.length:=by
 unfold cD at h ⊢;split at h
 ·simp at h
 ·rename_i h1
  rw [if_neg h1];rw [Int.toNat_natCast] at h ⊢;obtain ⟨⟨st,q⟩,hq⟩:∃ r,ef l (bP a)=r:=⟨_,rfl⟩
  have hin:=pw hq (by show a<=_;omega) (by show 0 < _;omega);rw [hq] at h ⊢;cases q with
  | some p=>simp at h
  |none =>
   simp only at h ⊢;unfold bV at h ⊢;split at h
   ·simp at h
   ·rename_i h2
    rw [if_neg h2];exact ⟨st.pos,rfl,hin.1,hin.2⟩
theorem rq {l:List UInt8} {st st':NSt} (h:ei l st=(st',none)):st.pos<st'.pos:=by
 unfold ei at h;split at h
 ·simp only [Prod.mk.injEq] at h;rw [← h.1];exact Nat.lt_succ_self _
 ·unfold ii at h;split at h
  ·simp at h
  ·rename_i hd
   simp only [Prod.mk.injEq] at h;rw [← h.1];have:0<(eu l st.pos).length:=List.length_pos_iff.2 hd;show st.pos<st.pos+_
   omega
theorem pi {l:List UInt8} {a:Nat} (h:(cD l a).2.2=0):∃ m:Nat,(cD l a).2.1=m/\a<m/\m<=l.length:=by
 obtain ⟨m,h1,_,h3⟩:=mH h;refine ⟨m,h1,?_,h3⟩;unfold cD at h h1;split at h
 ·simp at h
 ·rename_i hin
  rw [if_neg hin] at h1;rw [Int.toNat_natCast] at h h1;obtain ⟨⟨st,q⟩,hq⟩:∃ r,ef l (bP a)=r:=⟨_,rfl⟩
  rw [hq] at h h1;cases q with
  | some p=>simp at h
  |none =>
   simp only at h h1;unfold bV at h h1;split at h
   ·simp at h
   ·rename_i h2
    rw [if_neg h2] at h1;have hm:st.pos=m:=by simp at h1;omega
    rw [← hm];unfold ef at hq;have ha:a<=l.length:=by omega
    obtain ⟨⟨s1,r1⟩,e1⟩:∃ r,dV 0 l (bP a)=r:=⟨_,rfl⟩
    have b1:=q9 e1;have c1:=eZ e1 ha (by show 0 < _;omega);have hr1:r1=none:=by
     have:(dV 0 l (bP a)).2=none:=rfl;rw [e1] at this;exact this
    subst hr1;rw [cH e1] at hq;obtain ⟨⟨s2,r2⟩,e2⟩:∃ r,dV 1 l s1=r:=⟨_,rfl⟩
    cases r2 with
    | some x=>rw [eF e2] at hq;simp at hq
    |none =>
     have b2:=rq (l:=l) (st:=s1) (st':=s2) e2;have c2:=eZ e2 c1.1 c1.2;rw [cH e2] at hq;have b3:=pw hq c2.1 c2.2;have:(bP a).pos=a:=rfl;omega
end
section
section
variable {l:List UInt8}
end
def later (p:Nat):va->Prop
 | .go _ p' _ _=>p<p'
 | _=>True
section
variable {l:List UInt8}
end
end
section
open Go.RowKit
section Cut
variable {l:List UInt8}
end Cut
section Cut
variable {l:List UInt8}
end Cut
section CutN
variable {l:List UInt8}
def sgn (l:List UInt8) (a:Nat):NSt:={ cS [45] l (bP a) with minus:=bL l a [45] }
theorem wt {a:Nat} (ha:a<=l.length) {s2:NSt} (h2:ei l (sgn l a)=(s2,none)) (hf:bL l s2.pos [46]=false) (he:bL l s2.pos [101,69]=false):cD l a=bV s2 a:=by
 unfold cD;rw [if_neg (by omega),Int.toNat_natCast];unfold ef;have e1:dV 0 l (bP a)=(sgn l a,none):=rfl;have e3:dV 2 l s2=(s2,none):=by show ix _ _=_;unfold ix;rw [hf];rfl
 have e4:dV 3 l s2=(s2,none):=by show mc _ _=_;unfold mc;rw [he];rfl
 rw [cH e1,cH (show dV 1 l (sgn l a)=(s2,none) from h2),cH e3,cH e4];rfl
end CutN
section CutS
variable {l:List UInt8}
def far (n:Nat):va->Prop
 | .fail _ _=>True
 | .go _ p' _ _=>n<p'
 | .done q _=>n<q
end CutS
end
section
section Less
end Less
mutual
def bU:JV->Nat | .mk _ _ _ kids _=>1+bN kids
def bN:List JV->Nat | []=>0 | x::r=>bU x+bN r
end
theorem jE:∀ (xs ys:List JV),bN (xs++ys)=bN xs+bN ys
 | [],ys=>by simp [bN]
 | x::r,ys=>by rw [List.cons_append,bN,bN,jE r ys];omega
section RightR
variable {l:List UInt8}
end RightR
end
end Go.Proofs.YtgmnmnnoahdjnaaGreatDoor
