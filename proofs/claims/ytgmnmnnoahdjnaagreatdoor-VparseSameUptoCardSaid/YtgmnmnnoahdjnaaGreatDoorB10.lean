import Derived.Test.YtgmnmnnoahdjnaaGreatDoorB08
set_option maxRecDepth 100000
set_option maxHeartbeats 16000000
set_option linter.unusedVariables false
set_option linter.unusedSimpArgs false
namespace Go.Proofs.YtgmnmnnoahdjnaaGreatDoor
theorem uG {l:List UInt8} {e:Nat} (h:aQ l e=[]) (he:e<l.length):(qsS l e).2.2≠0:=fun h0=>by
 obtain ⟨p,m,h1,h2,_⟩:=pK (c:=(qsS l e).1) (n:=(qsS l e).2.1) (by rw [← h0]) he;have:=fC (l:=l) (a:=e) (p:=p) (m:=m) (by rw [← h1,← h2,← h0]) he;rw [h] at this;cases this
theorem pJ {l:List UInt8} {a:Nat} (h:(cc l a).2.2=0):∃ m:Nat,(cc l a).2.1=m∧a<m∧m≤l.length:=by
 unfold cc at h ⊢;split at h
 ·simp at h
 ·rename_i h1
  rw [if_neg h1];split at h
  ·simp at h
  ·rename_i h2
   rw [if_neg h2];rw [Int.toNat_natCast] at h ⊢;split at h
   ·simp at h
   ·rename_i h3
    rw [if_neg h3];have hp:=j9 (l:=l) (l.length-(a+1)) (a+1) _ (Nat.le_refl _) (List.prefix_refl _) (by omega);obtain ⟨_,g2,g3,g4⟩:=hp;split at h
    ·rename_i h4
     rw [if_pos h4];have:=(List.getElem?_eq_some_iff.1 h4).1;exact ⟨dW (a+1) (aQ l (a+1))+1,rfl,by omega,this⟩
    ·exfalso;have hnil:aQ l (dW (a+1) (aQ l (a+1)))=[]:=List.self_eq_append_right.1 g4;unfold jC at h;rw [if_neg (by omega)] at h;split at h
     ·simp at h
     ·rename_i h5
      rw [Int.toNat_natCast] at h;exact uG hnil (by omega) h
theorem uF {l:List UInt8} {a:Nat} (h:a<l.length):cc l (a:Int)=if l[a]? ≠ some 34 then ([],(a:Int),7)
 else if l[dW (a+1) (aQ l (a+1))]? = some 34 then (bE (aQ l (a+1)),(dW (a+1) (aQ l (a+1)):Int)+1,0)
 else ([],(dW (a+1) (aQ l (a+1)):Int),(jC l (dW (a+1) (aQ l (a+1)):Nat)).2.2):=by
 unfold cc;rw [if_neg (by omega),if_neg (by omega),Int.toNat_natCast]
theorem sK (a:Nat) (x:Int × Int) (xs:List (Int × Int)):dW a (x::xs)=dW x.2.toNat xs:=by
 unfold dW;cases xs with
 | nil=>rfl
 | cons y ys=>rw [List.getLast?_cons_cons];rw [List.getLast?_eq_some_getLast (by simp)]
end Go.Proofs.YtgmnmnnoahdjnaaGreatDoor
namespace Go.Proofs.YtgmnmnnoahdjnaaGreatDoor
open Go.RowKit
theorem pT {s l:List UInt8} {st:NSt}:st.pos≤(cM s l st).pos:=by
 unfold cM;split
 ·exact Nat.le_succ _
 ·exact Nat.le_refl _
theorem ov {gr:Bool} {l:List UInt8} {st:NSt}:st.pos≤(gI gr l st).1.pos:=by
 unfold gI;split
 ·exact Nat.le_refl _
 ·cases gr<;>exact Nat.le_add_right _ _
theorem pO {k:Nat} {l:List UInt8} {st st':NSt} {q:Option Nat} (h:dJ k l st=(st',q)):st.pos≤st'.pos:=by
 have e:(dJ k l st).1=st':=by rw [h]
 rw [← e];rcases k with _ | _ | _ | k
 ·exact pT (s:=[45])
 ·show st.pos≤(dU l st).1.pos
  unfold dU;split
  ·exact Nat.le_succ _
  ·exact ov
 ·show st.pos≤(gS l st).1.pos
  unfold gS;split
  ·exact Nat.le_trans (Nat.le_succ st.pos) (ov (gr:=false) (l:=l) (st:={ st with pos:=st.pos+1,part:=true }))
  ·exact Nat.le_refl _
 ·show st.pos≤(ll l st).1.pos
  unfold ll;split
  ·exact Nat.le_trans (Nat.le_trans (Nat.le_succ st.pos) (pT (s:=[43,45]) (l:=l) (st:={ st with pos:=st.pos+1,part:=true }))) ov
  ·exact Nat.le_refl _
theorem ox {l:List UInt8}:∀ {ks:List Nat} {st st':NSt} {q:Option Nat},kI l ks st=(st',q)→st.pos≤l.length→st.size<18446744073709551616→st.pos≤st'.pos∧st'.pos≤l.length
 |[],st,st',q,h,hp,_=>by
  simp only [kI,Prod.mk.injEq] at h;rw [← h.1];exact ⟨Nat.le_refl _,hp⟩
 |k::ks,st,st',q,h,hp,hs=>by
  obtain ⟨⟨s1,r⟩,hr⟩:∃ r,dJ k l st=r:=⟨_,rfl⟩
  have hle:=ey hr hp hs;have hge:=pO hr;cases r with
  |none =>
   rw [cG hr] at h;have:=ox h hle.1 hle.2;exact ⟨Nat.le_trans hge this.1,this.2⟩
  |some p =>
   rw [ee hr] at h;simp only [Prod.mk.injEq] at h;rw [← h.1];exact ⟨hge,hle.1⟩
theorem lN {l:List UInt8} {a:Nat} (h:(bJ l a).2.2=0):∃ m:Nat,(bJ l a).2.1=m∧a≤m∧m≤l.length:=by
 unfold bJ at h ⊢;split at h
 ·simp at h
 ·rename_i h1
  rw [if_neg h1];rw [Int.toNat_natCast] at h ⊢;obtain ⟨⟨st,q⟩,hq⟩:∃ r,dR l (bP a)=r:=⟨_,rfl⟩
  have hin:=ox hq (by show a≤_;omega) (by show 0 < _;omega);rw [hq] at h ⊢;cases q with
  | some p=>simp at h
  |none =>
   simp only at h ⊢;unfold bV at h ⊢;split at h
   ·simp at h
   ·rename_i h2
    rw [if_neg h2];exact ⟨st.pos,rfl,hin.1,hin.2⟩
theorem qd {l:List UInt8} {st st':NSt} (h:dU l st=(st',none)):st.pos<st'.pos:=by
 unfold dU at h;split at h
 ·simp only [Prod.mk.injEq] at h;rw [← h.1];exact Nat.lt_succ_self _
 ·unfold gI at h;split at h
  ·simp at h
  ·rename_i hd
   simp only [Prod.mk.injEq] at h;rw [← h.1];have:0<(dZ l st.pos).length:=List.length_pos_iff.2 hd;show st.pos<st.pos+_
   omega
theorem og {l:List UInt8} {a:Nat} (h:(bJ l a).2.2=0):∃ m:Nat,(bJ l a).2.1=m∧a<m∧m≤l.length:=by
 obtain ⟨m,h1,_,h3⟩:=lN h;refine ⟨m,h1,?_,h3⟩;unfold bJ at h h1;split at h
 ·simp at h
 ·rename_i hin
  rw [if_neg hin] at h1;rw [Int.toNat_natCast] at h h1;obtain ⟨⟨st,q⟩,hq⟩:∃ r,dR l (bP a)=r:=⟨_,rfl⟩
  rw [hq] at h h1;cases q with
  | some p=>simp at h
  |none =>
   simp only at h h1;unfold bV at h h1;split at h
   ·simp at h
   ·rename_i h2
    rw [if_neg h2] at h1;have hm:st.pos=m:=by simp at h1;omega
    rw [← hm];unfold dR at hq;have ha:a≤l.length:=by omega
    obtain ⟨⟨s1,r1⟩,e1⟩:∃ r,dJ 0 l (bP a)=r:=⟨_,rfl⟩
    have b1:=pO e1;have c1:=ey e1 ha (by show 0 < _;omega);have hr1:r1=none:=by
     have:(dJ 0 l (bP a)).2=none:=rfl;rw [e1] at this;exact this
    subst hr1;rw [cG e1] at hq;obtain ⟨⟨s2,r2⟩,e2⟩:∃ r,dJ 1 l s1=r:=⟨_,rfl⟩
    cases r2 with
    | some x=>rw [ee e2] at hq;simp at hq
    |none =>
     have b2:=qd (l:=l) (st:=s1) (st':=s2) e2;have c2:=ey e2 c1.1 c1.2;rw [cG e2] at hq;have b3:=ox hq c2.1 c2.2;have:(bP a).pos=a:=rfl;omega
end Go.Proofs.YtgmnmnnoahdjnaaGreatDoor
namespace Go.Proofs.YtgmnmnnoahdjnaaGreatDoor
section
variable {l:List UInt8}
theorem pC:∀ (a b:Nat) (r:eW),uw l (a+b) r=uw l b (uw l a r)
 | 0,b,r=>by rw [Nat.zero_add];rfl
 | a+1,b,r=>by rw [show a+1+b=(a+b)+1 from by omega];exact pC a b _
def jm (l:List UInt8) (a b:eW):Prop:=∃ k,uw l k a=b
theorem jm.refl (a:eW):jm l a a:=⟨0,rfl⟩
theorem jm.trans {a b c:eW}:jm l a b→jm l b c→jm l a c
 | ⟨k,h⟩,⟨k',h'⟩=>⟨k+k',by rw [pC,h,h']⟩
theorem jm.step {a c:eW} (h:jm l (wK l a) c):jm l a c:=by obtain ⟨k,h⟩:=h;exact ⟨k+1,h⟩
theorem j3 {α:Type} {l:List α} {i:Nat} {x y:α}:y ∈ fv l i x ↔ y ∈ l∨y=x:=by
 unfold fv;constructor
 ·intro h;rcases List.mem_append.1 h with h | h
  ·exact .inl (List.mem_of_mem_take h)
  ·rcases List.mem_cons.1 h with h | h
   ·exact .inr h
   ·exact .inl (List.mem_of_mem_drop h)
 ·rintro (h | rfl)
  ·rw [← List.take_append_drop i l] at h;rcases List.mem_append.1 h with h | h
   ·exact List.mem_append_left _ h
   ·exact List.mem_append_right _ (List.mem_cons_of_mem _ h)
  ·simp
structure rp (v:JV) (keys:List (List UInt8)):Prop where
 kind:v.kind=6
 len:v.keys.length=v.kids.length
 mem:∀ s,s ∈ v.keys ↔ s ∈ keys
theorem rp.add {v:JV} {keys:List (List UInt8)} (h:rp v keys) (s:List UInt8) (x:JV):rp (jN v s x) (keys++[s]):=by
 obtain ⟨k,n,t,kids,ks⟩:=v;have hk:k=6:=h.kind;have hl:ks.length=kids.length:=h.len;unfold jN;simp only;rw [if_pos hk];refine ⟨hk,?_,fun y=>?_⟩
 ·show (fv ks _ s).length=(fv kids _ x).length
  have:=jZ s ks kids.length;simp [fv];omega
 ·show y ∈ fv ks _ s ↔ _
  rw [j3,List.mem_append,List.mem_singleton];have:y ∈ ks ↔ y ∈ keys:=h.mem y;rw [this]
end
end Go.Proofs.YtgmnmnnoahdjnaaGreatDoor
namespace Go.Proofs.YtgmnmnnoahdjnaaGreatDoor
def later (p:Nat):eW→Prop
 | .go _ p' _ _=>p<p'
 | _=>True
section
variable {l:List UInt8}
end
end Go.Proofs.YtgmnmnnoahdjnaaGreatDoor
namespace Go.Proofs.YtgmnmnnoahdjnaaGreatDoor
open Go.RowKit
section Cut
variable {l:List UInt8}
end Cut
end Go.Proofs.YtgmnmnnoahdjnaaGreatDoor
namespace Go.Proofs.YtgmnmnnoahdjnaaGreatDoor
open Go.RowKit
section Cut
variable {l:List UInt8}
end Cut
end Go.Proofs.YtgmnmnnoahdjnaaGreatDoor
namespace Go.Proofs.YtgmnmnnoahdjnaaGreatDoor
open Go.RowKit
section CutN
variable {l:List UInt8}
def sgn (l:List UInt8) (a:Nat):NSt:={ cM [45] l (bP a) with minus:=bL l a [45] }
theorem uq {a:Nat} (ha:a≤l.length) {s2:NSt} (h2:dU l (sgn l a)=(s2,none)) (hf:bL l s2.pos [46]=false) (he:bL l s2.pos [101,69]=false):bJ l a=bV s2 a:=by
 unfold bJ;rw [if_neg (by omega),Int.toNat_natCast];unfold dR;have e1:dJ 0 l (bP a)=(sgn l a,none):=rfl;have e3:dJ 2 l s2=(s2,none):=by show gS _ _=_;unfold gS;rw [hf];rfl
 have e4:dJ 3 l s2=(s2,none):=by show ll _ _=_;unfold ll;rw [he];rfl
 rw [cG e1,cG (show dJ 1 l (sgn l a)=(s2,none) from h2),cG e3,cG e4];rfl
end CutN
end Go.Proofs.YtgmnmnnoahdjnaaGreatDoor
namespace Go.Proofs.YtgmnmnnoahdjnaaGreatDoor
open Go.RowKit
section CutS
variable {l:List UInt8}
def far (n:Nat):eW→Prop
 | .fail _ _=>True
 | .go _ p' _ _=>n<p'
 | .done q _=>n<q
end CutS
end Go.Proofs.YtgmnmnnoahdjnaaGreatDoor
namespace Go.Proofs.YtgmnmnnoahdjnaaGreatDoor
section Less
theorem lH (a b:UInt8) (x y:List UInt8):ltB (a::x) (b::y)=true ↔ a<b∨(a=b∧ltB x y=true):=by
 unfold ltB;rw [Op.bytesLess];by_cases h1:a<b<;>by_cases h2:a=b<;>simp [h1,h2]
theorem rE (x:List UInt8):ltB x []=false:=by cases x<;>rfl
theorem gv (b:UInt8) (y:List UInt8):ltB [] (b::y)=true:=rfl
theorem iz:∀ {x y z:List UInt8},ltB x y=true→ltB y z=true→ltB x z=true
 | _,[],_,h,_=>by rw [rE] at h;cases h
 | _,_::_,[],_,h=>by rw [rE] at h;cases h
 | [],_::_,c::z,_,_=>gv c z
 |a::x,b::y,c::z,h1,h2=>by
  rw [lH] at h1 h2 ⊢;rcases h1 with h1 | ⟨rfl,h1⟩
  ·rcases h2 with h2 | ⟨rfl,h2⟩
   ·left;have:=UInt8.lt_iff_toNat_lt.1 h1;have:=UInt8.lt_iff_toNat_lt.1 h2;exact UInt8.lt_iff_toNat_lt.2 (by omega)
   ·exact .inl h1
  ·rcases h2 with h2 | ⟨rfl,h2⟩
   ·exact .inl h2
   ·exact .inr ⟨rfl,iz h1 h2⟩
theorem mV:∀ {x y:List UInt8},x≠y→ltB x y=true∨ltB y x=true
 | [],[],h=>absurd rfl h
 | [],b::y,_=>.inl (gv b y)
 | a::x,[],_=>.inr (gv a x)
 |a::x,b::y,h=>by
  rw [lH,lH];by_cases hab:a=b
  ·subst hab;have hxy:x≠y:=fun e=>h (by rw [e])
   rcases mV hxy with h1 | h1
   ·exact .inl (.inr ⟨rfl,h1⟩)
   ·exact .inr (.inr ⟨rfl,h1⟩)
  ·have:a.toNat≠b.toNat:=fun e=>hab (UInt8.toNat_inj.1 e)
   rcases Nat.lt_or_gt_of_ne this with h1 | h1
   ·exact .inl (.inl (UInt8.lt_iff_toNat_lt.2 h1))
   ·exact .inr (.inl (UInt8.lt_iff_toNat_lt.2 h1))
end Less
abbrev UpB (keys:List (List UInt8)):Prop:=keys.Pairwise fun a b=>ltB a b=true
theorem km (key:List UInt8) (keys:List (List UInt8)):∀ n,(∀ j,d8 key keys n≤j→j<n→ltB key (keys.getD j [])=true)∧(0<d8 key keys n→ltB key (keys.getD (d8 key keys n-1) [])=false)
 | 0=>⟨fun j h h'=>absurd h' (Nat.not_lt_zero _),fun h=>absurd h (Nat.lt_irrefl _)⟩
 |n+1=>by
  have ih:=km key keys n;unfold d8;by_cases h:ltB key (keys.getD n [])=true
  ·rw [if_pos h];refine ⟨fun j h1 h2=>?_,ih.2⟩;rcases Nat.lt_or_ge j n with h3 | h3
   ·exact ih.1 j h1 h3
   ·obtain rfl:j=n:=by omega
    exact h
  ·rw [if_neg h];exact ⟨fun j h1 h2=>by omega,fun _=>by simpa using h⟩
theorem wl {key:List UInt8} {keys:List (List UInt8)} (h:UpB keys) (hk:key ∉ keys):UpB (fv keys (d8 key keys keys.length) key):=by
 obtain ⟨h1,h2⟩:=km key keys keys.length;have hle:=jZ key keys keys.length;generalize d8 key keys keys.length=p at h1 h2 hle;have hget:∀ {j},(hj:j<keys.length)→keys.getD j []=keys[j]:=fun {j} hj=>by rw [List.getD_eq_getElem?_getD,List.getElem?_eq_getElem hj];rfl
 have hp:=List.pairwise_iff_getElem.1 h;unfold fv UpB;have hb:∀ x ∈ keys.take p,ltB x key=true:=by
  intro x hx;obtain ⟨j,hj,rfl⟩:=List.getElem_of_mem hx;rw [List.length_take] at hj;rw [List.getElem_take];have hp0:0<p:=by omega
  have h3:=h2 hp0;rw [hget (by omega)] at h3;have hne:keys[p-1]≠key:=fun e=>hk (by rw [← e];exact List.getElem_mem _)
  have h4:ltB keys[p-1] key=true:=by
   rcases mV hne with h5 | h5
   ·exact h5
   ·rw [h5] at h3;cases h3
  rcases Nat.lt_or_ge j (p-1) with h6 | h6
  ·exact iz (hp j (p-1) (by omega) (by omega) h6) h4
  ·obtain rfl:j=p-1:=by omega
   exact h4
 have ha:∀ x ∈ keys.drop p,ltB key x=true:=by
  intro x hx;obtain ⟨j,hj,rfl⟩:=List.getElem_of_mem hx;rw [List.length_drop] at hj;rw [List.getElem_drop];have:=h1 (p+j) (by omega) (by omega);rwa [hget (by omega)] at this
 rw [List.pairwise_append];refine ⟨h.take,List.pairwise_cons.2 ⟨ha,h.drop⟩,fun x hx y hy=>?_⟩;rcases List.mem_cons.1 hy with rfl | hy
 ·exact hb x hx
 ·exact iz (hb x hx) (ha y hy)
def gL (s:List UInt8):Prop:=∃ cs:List Nat,(∀ c ∈ cs,gW (c:Int)=true)∧s=cs.flatMap ag∧cs.length≤262144
theorem gL.nil:gL []:=⟨[],by simp,rfl,by simp⟩
structure qj (k n:Int) (s:List UInt8) (kids:List JV) (keys:List (List UInt8)):Prop where
 texts:∀ t ∈ keys,gL t
 up:UpB keys
 kind:1≤k∧k≤6
 num:k≠3→n=0∨(k=2∧n=1)
 text:if k=4 then gL s else s=[]
 leaf:k<5→kids=[]
 keyed:if k=6 then keys.length=kids.length else keys=[]
mutual
def bI:JV→Nat | .mk _ _ _ kids _=>1+br kids
def br:List JV→Nat | []=>0 | x::r=>bI x+br r
end
mutual
def je:Nat→JV→Prop
 | d,.mk k n s kids keys=>qj k n s kids keys∧(5≤k→d≠0)∧fe (d-1) kids
def fe:Nat→List JV→Prop
 | _,[]=>True
 | d,x::r=>je d x∧fe d r
end
theorem jf {d:Nat}:∀ {xs:List JV},fe d xs ↔ ∀ x ∈ xs,je d x
 | []=>by simp [fe]
 | x::r=>by simp [fe,jf (xs:=r)]
theorem fc:∀ (xs ys:List JV),br (xs++ys)=br xs+br ys
 | [],ys=>by simp [br]
 | x::r,ys=>by rw [List.cons_append,br,br,fc r ys];omega
theorem qL (xs:List JV) (i:Nat) (x:JV):br (fv xs i x)=br xs+bI x:=by
 unfold fv;rw [fc,br];have:=fc (xs.take i) (xs.drop i);rw [List.take_append_drop] at this;omega
structure to (d:Nat) (v:JV) (keys:List (List UInt8)) (N:Nat):Prop where
 num:v.num=0
 text:v.txt=[]
 texts:∀ t ∈ v.keys,gL t
 up:UpB v.keys
 right:fe d v.kids
 nodes:br v.kids=N
 obj:rp v keys
theorem to.nil (d:Nat):to d (.mk 6 0 [] [] []) [] 0:=⟨rfl,rfl,by simp [JV.keys],by simp [JV.keys],trivial,rfl,rfl,rfl,fun s=>Iff.rfl⟩
theorem to.add {d N:Nat} {v x:JV} {keys:List (List UInt8)} {s:List UInt8} (h:to d v keys N) (hs:gL s) (hn:s ∉ keys) (hx:je d x):to d (jN v s x) (keys++[s]) (N+bI x):=by
 have ho:=h.obj.add s x;obtain ⟨k,n,t,kids,ks⟩:=v;have hk:k=6:=h.obj.kind;have hl:ks.length=kids.length:=h.obj.len;have hns:s ∉ ks:=fun e=>hn ((h.obj.mem s).1 e)
 have e:jN (.mk k n t kids ks) s x=.mk k n t (fv kids (d8 s ks kids.length) x) (fv ks (d8 s ks kids.length) s):=by
  unfold jN;simp only;rw [if_pos hk]
 rw [e] at ho ⊢;refine ⟨h.num,h.text,fun y hy=>?_,?_,?_,?_,ho⟩
 ·rcases j3.1 hy with h1 | rfl
  ·exact h.texts y h1
  ·exact hs
 ·have:=wl (key:=s) h.up hns;rw [show (JV.mk k n t kids ks).keys.length=kids.length from hl] at this;exact this
 ·refine jf.2 fun y hy=>?_
  rcases j3.1 hy with h1 | rfl
  ·exact jf.1 h.right y h1
  ·exact hx
 ·rw [JV.kids,qL];have:br kids=N:=h.nodes;omega
section RightR
variable {l:List UInt8}
end RightR
end Go.Proofs.YtgmnmnnoahdjnaaGreatDoor
namespace Go.Proofs.YtgmnmnnoahdjnaaGreatDoor
end Go.Proofs.YtgmnmnnoahdjnaaGreatDoor
