import Derived.Test.YtgmnmnnoahdjnaaGreatDoorC08
import Derived.Test.YtgmnmnnoahdjnaaGreatDoorC09
open Go.Value renaming int → Zi, slice → Zs, string → Zt, pointer → Zp
open Go.IntKind renaming i64 → Zq
set_option maxRecDepth 100000
set_option maxHeartbeats 16000000
set_option linter.unusedVariables false
set_option linter.unusedSimpArgs false
namespace Go.Proofs.YtgmnmnnoahdjnaaGreatDoor
section
open Go.RowKit
theorem oN8 (n:Nat) (h:n<256):(UInt8.ofNat n).toNat=n:=by
 have:(UInt8.ofNat n).toNat=n % 256:=by simp
 rw [this];omega
theorem eM (c:Nat) (r:List UInt8) (h:jw (c:Int)=true):ar (ag c++r)=(c,(ag c).length)/\1<=(ag c).length/\(ag c).length<=4:=by
 have hc:=(fB c).1 h;by_cases h1:c<128
 ·obtain ⟨c0,e0,h0⟩:∃ c0:UInt8,UInt8.ofNat c=c0/\c0.toNat=c:=⟨_,rfl,oN8 _ (by omega)⟩
  have e:ag c=[c0]:=by unfold ag;rw [if_pos h1,e0]
  rw [e,List.cons_append,List.nil_append,lD ((ok1 c0 r).2 (by omega))];refine ⟨?_,by simp,by simp⟩;have:bv (c0::r) 1=c0.toNat:=by simp [bv]
  rw [this,h0];rfl
 by_cases h2:c<2048
 ·obtain ⟨c0,e0,h0⟩:∃ c0:UInt8,UInt8.ofNat (192+c / 64)=c0/\c0.toNat=192+c / 64:=⟨_,rfl,oN8 _ (by omega)⟩
  obtain ⟨c1,e1,k1⟩:∃ c1:UInt8,UInt8.ofNat (128+c % 64)=c1/\c1.toNat=128+c % 64:=⟨_,rfl,oN8 _ (by omega)⟩
  have e:ag c=[c0,c1]:=by unfold ag;rw [if_neg h1,if_pos h2,e0,e1]
  have n1:cj (c0::c1::r) 1=false:=by rw [Bool.eq_false_iff,Ne,ok1];omega
  rw [e];show ar (c0::c1::r)=_/\_
  rw [oP n1 ((ok2 c0 c1 r).2 (by omega))];refine ⟨?_,by simp,by simp⟩;have:bv (c0::c1::r) 2=c0.toNat % 32*64+c1.toNat % 64:=by simp [bv]
  rw [this,h0,k1];show (_,2)=(_,2)
  congr 1;omega
 by_cases h3:c<65536
 ·obtain ⟨c0,e0,h0⟩:∃ c0:UInt8,UInt8.ofNat (224+c / 4096)=c0/\c0.toNat=224+c / 4096:=⟨_,rfl,oN8 _ (by omega)⟩
  obtain ⟨c1,e1,k1⟩:∃ c1:UInt8,UInt8.ofNat (128+c / 64 % 64)=c1/\c1.toNat=128+c / 64 % 64:=⟨_,rfl,oN8 _ (by omega)⟩
  obtain ⟨c2,e2,k2⟩:∃ c2:UInt8,UInt8.ofNat (128+c % 64)=c2/\c2.toNat=128+c % 64:=⟨_,rfl,oN8 _ (by omega)⟩
  have e:ag c=[c0,c1,c2]:=by unfold ag;rw [if_neg h1,if_neg h2,if_pos h3,e0,e1,e2]
  have n1:cj (c0::c1::c2::r) 1=false:=by rw [Bool.eq_false_iff,Ne,ok1];omega
  have n2:cj (c0::c1::c2::r) 2=false:=no2 _ _ (by omega);rw [e];show ar (c0::c1::c2::r)=_/\_
  rw [oQ n1 n2 ((ok3 c0 c1 c2 r).2 (by omega))];refine ⟨?_,by simp,by simp⟩;have:bv (c0::c1::c2::r) 3=(c0.toNat % 16*64+c1.toNat % 64)*64+c2.toNat % 64:=by simp [bv]
  rw [this,h0,k1,k2];show (_,3)=(_,3)
  congr 1;omega
 ·obtain ⟨c0,e0,h0⟩:∃ c0:UInt8,UInt8.ofNat (240+c / 262144)=c0/\c0.toNat=240+c / 262144:=⟨_,rfl,oN8 _ (by omega)⟩
  obtain ⟨c1,e1,k1⟩:∃ c1:UInt8,UInt8.ofNat (128+c / 4096 % 64)=c1/\c1.toNat=128+c / 4096 % 64:=⟨_,rfl,oN8 _ (by omega)⟩
  obtain ⟨c2,e2,k2⟩:∃ c2:UInt8,UInt8.ofNat (128+c / 64 % 64)=c2/\c2.toNat=128+c / 64 % 64:=⟨_,rfl,oN8 _ (by omega)⟩
  obtain ⟨c3,e3,k3⟩:∃ c3:UInt8,UInt8.ofNat (128+c % 64)=c3/\c3.toNat=128+c % 64:=⟨_,rfl,oN8 _ (by omega)⟩
  have e:ag c=[c0,c1,c2,c3]:=by unfold ag;rw [if_neg h1,if_neg h2,if_neg h3,e0,e1,e2,e3]
  have n1:cj (c0::c1::c2::c3::r) 1=false:=by rw [Bool.eq_false_iff,Ne,ok1];omega
  have n2:cj (c0::c1::c2::c3::r) 2=false:=no2 _ _ (by omega);have n3:cj (c0::c1::c2::c3::r) 3=false:=no3 _ _ (by omega);rw [e];show ar (c0::c1::c2::c3::r)=_/\_
  rw [oR n1 n2 n3 ((ok4 c0 c1 c2 c3 r).2 (by omega))];refine ⟨?_,by simp,by simp⟩;have:bv (c0::c1::c2::c3::r) 4=((c0.toNat % 8*64+c1.toNat % 64)*64+c2.toNat % 64)*64+c3.toNat % 64:=by simp [bv]
  rw [this,h0,k1,k2,k3];show (_,4)=(_,4)
  congr 1;omega
theorem xV {cs:List Nat} (h:∀ c ∈ cs,jw (c:Int)=true):cs.length<=(cs.flatMap ag).length/\(cs.flatMap ag).length<=4*cs.length:=by
 induction cs with
 | nil=>simp
 |cons c r ih =>
  have h1:=eM c [] (h c List.mem_cons_self);have h2:=ih (λ x hx=>h x (List.mem_cons_of_mem _ hx));rw [List.flatMap_cons,List.length_append,List.length_cons];omega
theorem ov {W:World} {b o:Nat} {ks:List (List UInt8)} {n:Nat} (h:RdF W (λ _=>True) (some ⟨b,o,none⟩) (bY ks)) {i:Nat} {t:List UInt8} (hx:ks[i]? = some t):W.cell? ⟨b,o+i,none⟩=some (Zt ⟨t.toArray⟩):=by
 have hkl:=List.getElem?_eq_some_iff.1 hx;obtain ⟨b',o',e,_,_,hc⟩:=h (by intro e;have h:=di ks;rw [e] at h;have:=hkl.1;simp at h;omega);injection e with e;injection e with e1 e2
 subst e1;subst e2;rw [hc i (by rw [di];exact hkl.1)];simp [bY,hkl.2]
theorem uE {W:World} {F:Nat->Prop} {A:Option Addr} {ks:List (List UInt8)} (h:RdF W F A (bY ks)) (hx:0<ks.length):∃ b o,A=some ⟨b,o,none⟩/\b<W.heap.size:=by
 obtain ⟨b,o,e,hb,_⟩:=h (by intro e;have h:=di ks;rw [e] at h;simp at h;omega);exact ⟨b,o,e,hb⟩
theorem jD (v:JV):1<=bU v:=by cases v;unfold bU;omega
theorem mF:∀ xs:List JV,xs.length<=bN xs
 | []=>Nat.zero_le _
 | x::r=>by have:=mF r;have:=jD x;rw [bN,List.length_cons];omega
theorem nX {xs:List JV} {i:Nat} {x:JV} (h:xs[i]? = some x):bN (xs.take (i+1))=bN (xs.take i)+bU x/\bN (xs.take i)+bU x<=bN xs:=by
 have e:bN (xs.take (i+1))=bN (xs.take i)+bU x:=by rw [List.take_add_one,h,jE];show _+bN [x]=_;rw [bN,bN];omega
 refine ⟨e,?_⟩;have:=jE (xs.take (i+1)) (xs.drop (i+1));rw [List.take_append_drop] at this;omega
def m6:Nat->List UInt8->Bool
 | _,[]=>true
 | 0,_::_=>false
 | f+1,c::r=>if (ar (c::r)).2=0 then false else m6 f ((c::r).drop (ar (c::r)).2)
def dL (l:List UInt8):Bool:=m6 l.length l
theorem m7:∀ (f g:Nat) (l:List UInt8),l.length<=f->l.length<=g->m6 f l=m6 g l
 | f,g,[],_,_=>by cases f<;>cases g<;>rfl
 | 0,_,_::_,h,_=>by simp at h
 | _+1,0,_::_,_,h=>by simp at h
 |f+1,g+1,c::r,h,h'=>by
  unfold m6;split
  ·rfl
  ·rename_i hn
   refine m7 f g _ ?_ ?_ <;> · rw [List.length_drop,List.length_cons] at *;omega
theorem m8 {l:List UInt8} (h:l≠[]):dL l=(if (ar l).2=0 then false else dL (l.drop (ar l).2)):=by
 cases l with
 | nil=>exact absurd rfl h
 |cons c r =>
  show m6 (r.length+1) (c::r)=_
  unfold m6;split
  ·rfl
  ·rename_i hn
   refine m7 _ _ _ ?_ ?_ <;> · rw [List.length_drop,List.length_cons];omega
theorem pX (l:List UInt8):(ar l).2<=l.length/\(ar l).2<=4:=⟨kT l,lR l⟩
def fc:List (List UInt8)->Bool
 | []=>true
 | k::r=>dL k && ((match r with | []=>true | k'::_=>ltB k k') && fc r)
def dI (k n:Int) (s:List UInt8) (nk:Nat) (keys:List (List UInt8)):Bool :=
 if k=1 then n == 0 && s == [] && nk == 0 && keys == []
 else if k=2 then (n == 0 || n == 1) && s == [] && nk == 0 && keys == []
 else if k=3 then s == [] && nk == 0 && keys == []
 else if k=4 then n == 0 && dL s && nk == 0 && keys == []
 else if k=5 then n == 0 && s == [] && keys == []
 else if k=6 then n == 0 && s == [] && nk == keys.length && fc keys
 else false
mutual
/-- right within so many levels -/
def mm:Nat->JV->Bool
 | d,.mk k n s kids keys=>dI k n s kids.length keys && (decide (5<=k->d≠0) && kY (d-1) kids)
def kY:Nat->List JV->Bool
 | _,[]=>true
 | d,x::r=>mm d x && kY d r
end
def fY (v:JV):Bool:=mm 8 v && decide (bU v<=256)
theorem gR {k n:Int} {s:List UInt8} {nk:Nat} {keys:List (List UInt8)} (h:dI k n s nk keys=true):1<=k/\k<=6:=by
 unfold dI at h;split at h
 ·omega
 split at h
 ·omega
 split at h
 ·omega
 split at h
 ·omega
 split at h
 ·omega
 split at h
 ·omega
 ·cases h
theorem rS {k n:Int} {s:List UInt8} {nk:Nat} {keys:List (List UInt8)} (h:dI k n s nk keys=true) (hk:k<5):nk=0/\keys=[]:=by
 have:=gR h;unfold dI at h;split at h
 ·simp only [Bool.and_eq_true,beq_iff_eq] at h;exact ⟨h.1.2,h.2⟩
 split at h
 ·simp only [Bool.and_eq_true,beq_iff_eq] at h;exact ⟨h.1.2,h.2⟩
 split at h
 ·simp only [Bool.and_eq_true,beq_iff_eq] at h;exact ⟨h.1.2,h.2⟩
 split at h
 ·simp only [Bool.and_eq_true,beq_iff_eq] at h;exact ⟨h.1.2,h.2⟩
 ·omega
def TT:Nat->Prop:=λ _=>True
def iw (n:Int):Prop:=-9223372036854775808<=n/\n<=9223372036854775807
mutual
def inJ:JV->Prop | .mk k n s kids keys=>iw k/\iw n/\inL kids
def inL:List JV->Prop | []=>True | x::r=>inJ x/\inL r
end
theorem ta:∀ {xs:List JV},inL xs ↔ ∀ x ∈ xs,inJ x
 | []=>by simp [inL]
 | x::r=>by simp [inL,ta (xs:=r)]
def dr:List (List UInt8)->Nat | []=>0 | k::r=>k.length+1+dr r
mutual
/-- how much a value is -/
def b8:JV->Nat | .mk k n s kids keys=>1+s.length+dr keys+dh kids
def dh:List JV->Nat | []=>0 | x::r=>b8 x+dh r
end
theorem nz (v:JV):1<=b8 v:=by cases v;unfold b8;omega
theorem nA:∀ ks:List (List UInt8),ks.length<=dr ks
 | []=>Nat.zero_le _
 | k::r=>by have:=nA r;unfold dr;rw [List.length_cons];omega
theorem pS:∀ {ks:List (List UInt8)} {t:List UInt8},t ∈ ks->t.length+1<=dr ks
 |k::r,t,h=>by
  unfold dr;rcases List.mem_cons.1 h with rfl | h
  ·omega
  ·have:=pS h;omega
theorem nB:∀ xs:List JV,xs.length<=dh xs
 | []=>Nat.zero_le _
 | x::r=>by have:=nB r;have:=nz x;unfold dh;rw [List.length_cons];omega
mutual
theorem mG:∀ v:JV,bU v<=b8 v
 | .mk k n s kids keys=>by have:=lg kids;unfold bU b8;omega
theorem lg:∀ xs:List JV,bN xs<=dh xs
 | []=>Nat.le_refl _
 | x::r=>by have:=mG x;have:=lg r;unfold bN dh;omega
end
mutual
/-- the lengths of a value's parts -/
def ue:JV->Prop | .mk k n s kids keys=>s.length<=4194304/\kids.length<=4194304/\keys.length<=4194304/\(∀ t ∈ keys,t.length<=4194304)/\rZ kids
def rZ:List JV->Prop | []=>True | x::r=>ue x/\rZ r
end
theorem qD:∀ {xs:List JV},rZ xs ↔ ∀ x ∈ xs,ue x
 | []=>by simp [rZ]
 | x::r=>by simp [rZ,qD (xs:=r)]
mutual
theorem nO:∀ v:JV,b8 v<=4194304->ue v
 | .mk k n s kids keys,h=>by
  unfold b8 at h;have:=nA keys;have:=nB kids;unfold ue;exact ⟨by omega,by omega,by omega,λ t ht=>by have:=pS ht;omega,nP kids (by omega)⟩
theorem nP:∀ xs:List JV,dh xs<=4194304->rZ xs
 | [],_=>trivial
 | x::r,h=>by unfold dh at h;unfold rZ;exact ⟨nO x (by omega),nP r (by omega)⟩
end
theorem nY:∀ {xs:List JV} {x:JV},x ∈ xs->bU x<=bN xs
 |y::r,x,h=>by
  unfold bN;rcases List.mem_cons.1 h with rfl | h
  ·omega
  ·have:=nY h;omega
structure dq (v:JV):Prop where
 ints:inJ v
 nodes:bU v<=4194304
 lens:ue v
theorem dq.of {v:JV} (h1:inJ v) (h2:b8 v<=4194304):dq v:=⟨h1,Nat.le_trans (mG v) h2,nO v h2⟩
theorem dq.out {k n:Int} {s:List UInt8} {kids:List JV} {keys:List (List UInt8)} (h:dq (.mk k n s kids keys)) :
  iw k/\iw n/\s.length<=4194304/\kids.length<=4194304/\keys.length<=4194304/\(∀ t ∈ keys,t.length<=4194304)/\∀ x ∈ kids,dq x:=by
 obtain ⟨h1,h2,h3⟩:=h;unfold inJ at h1;unfold bU at h2;unfold ue at h3;refine ⟨h1.1,h1.2.1,h3.1,h3.2.1,h3.2.2.1,h3.2.2.2.1,λ x hx=>⟨ta.1 h1.2.2 x hx,?_,qD.1 h3.2.2.2.2 x hx⟩⟩;have:=nY hx;omega
instance:Inhabited JV:=⟨cn⟩
theorem nK {d:Nat} {k n:Int} {s:List UInt8} {kids:List JV} {keys:List (List UInt8)} (h:mm d (.mk k n s kids keys)=true):dI k n s kids.length keys=true/\(5<=k->d≠0)/\kY (d-1) kids=true:=by
 unfold mm at h;simp only [Bool.and_eq_true,decide_eq_true_eq] at h;exact ⟨h.1,h.2.1,h.2.2⟩
end
end Go.Proofs.YtgmnmnnoahdjnaaGreatDoor
