import Derived.Test.YtgmnmnnoahdjnaaGreatDoorQ09
open Go.Value renaming int → Zi, slice → Zs, string → Zt, pointer → Zp
open Go.IntKind renaming i64 → Zq
set_option maxRecDepth 100000
set_option maxHeartbeats 16000000
set_option linter.unusedVariables false
set_option linter.unusedSimpArgs false
namespace Go.Proofs.YtgmnmnnoahdjnaaGreatDoor
theorem we {l:List UInt8} {e:Nat} (h:bw l e=[]) (he:e<l.length):(qsS l e).2.2≠0:=λ h0=>by
 obtain ⟨p,m,h1,h2,_⟩:=qT (c:=(qsS l e).1) (n:=(qsS l e).2.1) (by rw [← h0]) he;have:=iH (l:=l) (a:=e) (p:=p) (m:=m) (by rw [← h1,← h2,← h0]) he;rw [h] at this;cases this
theorem qS {l:List UInt8} {a:Nat} (h:(cI l a).2.2=0):∃ m:Nat,(cI l a).2.1=m/\a<m/\m<=l.length:=by
 unfold cI at h ⊢;split at h
 ·simp at h
 ·rename_i h1
  rw [if_neg h1];split at h
  ·simp at h
  ·rename_i h2
   rw [if_neg h2];rw [Int.toNat_natCast] at h ⊢;split at h
   ·simp at h
   ·rename_i h3
    rw [if_neg h3];have hp:=kO (l:=l) (l.length-(a+1)) (a+1) _ (Nat.le_refl _) (List.prefix_refl _) (by omega);obtain ⟨_,g2,g3,g4⟩:=hp;split at h
    ·rename_i h4
     rw [if_pos h4];have:=(List.getElem?_eq_some_iff.1 h4).1;exact ⟨gG (a+1) (bw l (a+1))+1,rfl,by omega,this⟩
    ·exfalso;have hnil:bw l (gG (a+1) (bw l (a+1)))=[]:=List.self_eq_append_right.1 g4;unfold lu at h;rw [if_neg (by omega)] at h;split at h
     ·simp at h
     ·rename_i h5
      rw [Int.toNat_natCast] at h;exact we hnil (by omega) h
end Go.Proofs.YtgmnmnnoahdjnaaGreatDoor
namespace Go.Proofs.YtgmnmnnoahdjnaaGreatDoor
open Go.RowKit
theorem rf {s l:List UInt8} {st:NSt}:st.pos<=(dg s l st).pos:=by
 unfold dg;split
 ·exact Nat.le_succ _
 ·exact Nat.le_refl _
theorem pN {gr:Bool} {l:List UInt8} {st:NSt}:st.pos<=(iG gr l st).1.pos:=by
 unfold iG;split
 ·exact Nat.le_refl _
 ·cases gr<;>exact Nat.le_add_right _ _
theorem q6 {k:Nat} {l:List UInt8} {st st':NSt} {q:Option Nat} (h:eY k l st=(st',q)):st.pos<=st'.pos:=by
 have e:(eY k l st).1=st':=by rw [h]
 rw [← e];rcases k with _ | _ | _ | k
 ·exact rf (s:=[45])
 ·show st.pos<=(fF l st).1.pos
  unfold fF;split
  ·exact Nat.le_succ _
  ·exact pN
 ·show st.pos<=(jV l st).1.pos
  unfold jV;split
  ·exact Nat.le_trans (Nat.le_succ st.pos) (pN (gr:=false) (l:=l) (st:={ st with pos:=st.pos+1,part:=true }))
  ·exact Nat.le_refl _
 ·show st.pos<=(pp l st).1.pos
  unfold pp;split
  ·exact Nat.le_trans (Nat.le_trans (Nat.le_succ st.pos) (rf (s:=[43,45]) (l:=l) (st:={ st with pos:=st.pos+1,part:=true }))) pN
  ·exact Nat.le_refl _
theorem pP {l:List UInt8}:∀ {ks:List Nat} {st st':NSt} {q:Option Nat},lG l ks st=(st',q)->st.pos<=l.length->st.size<18446744073709551616->st.pos<=st'.pos/\st'.pos<=l.length
 |[],st,st',q,h,hp,_=>by
  simp only [lG,Prod.mk.injEq] at h;rw [← h.1];exact ⟨Nat.le_refl _,hp⟩
 |k::ks,st,st',q,h,hp,hs=>by
  obtain ⟨⟨s1,r⟩,hr⟩:∃ r,eY k l st=r:=⟨_,rfl⟩
  have hle:=eR hr hp hs;have hge:=q6 hr;cases r with
  |none =>
   rw [dY hr] at h;have:=pP h hle.1 hle.2;exact ⟨Nat.le_trans hge this.1,this.2⟩
  |some p =>
   rw [eC hr] at h;simp only [Prod.mk.injEq] at h;rw [← h.1];exact ⟨hge,hle.1⟩
theorem mN {l:List UInt8} {a:Nat} (h:(cg l a).2.2=0):∃ m:Nat,(cg l a).2.1=m/\a<=m/\m<=l.length:=by
 unfold cg at h ⊢;split at h
 ·simp at h
 ·rename_i h1
  rw [if_neg h1];rw [Int.toNat_natCast] at h ⊢;obtain ⟨⟨st,q⟩,hq⟩:∃ r,ey l (cO a)=r:=⟨_,rfl⟩
  have hin:=pP hq (by show a<=_;omega) (by show 0 < _;omega);rw [hq] at h ⊢;cases q with
  | some p=>simp at h
  |none =>
   simp only at h ⊢;unfold cu at h ⊢;split at h
   ·simp at h
   ·rename_i h2
    rw [if_neg h2];exact ⟨st.pos,rfl,hin.1,hin.2⟩
theorem rn {l:List UInt8} {st st':NSt} (h:fF l st=(st',none)):st.pos<st'.pos:=by
 unfold fF at h;split at h
 ·simp only [Prod.mk.injEq] at h;rw [← h.1];exact Nat.lt_succ_self _
 ·unfold iG at h;split at h
  ·simp at h
  ·rename_i hd
   simp only [Prod.mk.injEq] at h;rw [← h.1];have:0<(eU l st.pos).length:=List.length_pos_iff.2 hd;show st.pos<st.pos+_
   omega
theorem pG {l:List UInt8} {a:Nat} (h:(cg l a).2.2=0):∃ m:Nat,(cg l a).2.1=m/\a<m/\m<=l.length:=by
 obtain ⟨m,h1,_,h3⟩:=mN h;refine ⟨m,h1,?_,h3⟩;unfold cg at h h1;split at h
 ·simp at h
 ·rename_i hin
  rw [if_neg hin] at h1;rw [Int.toNat_natCast] at h h1;obtain ⟨⟨st,q⟩,hq⟩:∃ r,ey l (cO a)=r:=⟨_,rfl⟩
  rw [hq] at h h1;cases q with
  | some p=>simp at h
  |none =>
   simp only at h h1;unfold cu at h h1;split at h
   ·simp at h
   ·rename_i h2
    rw [if_neg h2] at h1;have hm:st.pos=m:=by simp at h1;omega
    rw [← hm];unfold ey at hq;have ha:a<=l.length:=by omega
    obtain ⟨⟨s1,r1⟩,e1⟩:∃ r,eY 0 l (cO a)=r:=⟨_,rfl⟩
    have b1:=q6 e1;have c1:=eR e1 ha (by show 0 < _;omega);have hr1:r1=none:=by
     have:(eY 0 l (cO a)).2=none:=rfl;rw [e1] at this;exact this
    subst hr1;rw [dY e1] at hq;obtain ⟨⟨s2,r2⟩,e2⟩:∃ r,eY 1 l s1=r:=⟨_,rfl⟩
    cases r2 with
    | some x=>rw [eC e2] at hq;simp at hq
    |none =>
     have b2:=rn (l:=l) (st:=s1) (st':=s2) e2;have c2:=eR e2 c1.1 c1.2;rw [dY e2] at hq;have b3:=pP hq c2.1 c2.2;have:(cO a).pos=a:=rfl;omega
end Go.Proofs.YtgmnmnnoahdjnaaGreatDoor
namespace Go.Proofs.YtgmnmnnoahdjnaaGreatDoor
section
variable {l:List UInt8}
theorem qN:∀ (a b:Nat) (r:fp),vV l (a+b) r=vV l b (vV l a r)
 | 0,b,r=>by rw [Nat.zero_add];rfl
 | a+1,b,r=>by rw [show a+1+b=(a+b)+1 from by omega];exact qN a b _
def jM (l:List UInt8) (a b:fp):Prop:=∃ k,vV l k a=b
theorem jM.refl (a:fp):jM l a a:=⟨0,rfl⟩
theorem jM.trans {a b c:fp}:jM l a b->jM l b c->jM l a c
 | ⟨k,h⟩,⟨k',h'⟩=>⟨k+k',by rw [qN,h,h']⟩
theorem jM.step {a c:fp} (h:jM l (yF l a) c):jM l a c:=by obtain ⟨k,h⟩:=h;exact ⟨k+1,h⟩
theorem kI {α:Type} {l:List α} {i:Nat} {x y:α}:y ∈ fS l i x ↔ y ∈ l∨y=x:=by
 unfold fS;constructor
 ·intro h;rcases List.mem_append.1 h with h | h
  ·exact .inl (List.mem_of_mem_take h)
  ·rcases List.mem_cons.1 h with h | h
   ·exact .inr h
   ·exact .inl (List.mem_of_mem_drop h)
 ·rintro (h | rfl)
  ·rw [← List.take_append_drop i l] at h;rcases List.mem_append.1 h with h | h
   ·exact List.mem_append_left _ h
   ·exact List.mem_append_right _ (List.mem_cons_of_mem _ h)
  ·simp
structure sN (v:JV) (keys:List (List UInt8)):Prop where
 kind:v.kind=6
 len:v.keys.length=v.kids.length
 mem:∀ s,s ∈ v.keys ↔ s ∈ keys
theorem sN.add {v:JV} {keys:List (List UInt8)} (h:sN v keys) (s:List UInt8) (x:JV):sN (km v s x) (keys++[s]):=by
 obtain ⟨k,n,t,kids,ks⟩:=v;have hk:k=6:=h.kind;have hl:ks.length=kids.length:=h.len;unfold km;simp only;rw [if_pos hk];refine ⟨hk,?_,λ y=>?_⟩
 ·show (fS ks _ s).length=(fS kids _ x).length
  have:=kC s ks kids.length;simp [fS];omega
 ·show y ∈ fS ks _ s ↔ _
  rw [kI,List.mem_append,List.mem_singleton];have:y ∈ ks ↔ y ∈ keys:=h.mem y;rw [this]
end
end Go.Proofs.YtgmnmnnoahdjnaaGreatDoor
namespace Go.Proofs.YtgmnmnnoahdjnaaGreatDoor
def later (p:Nat):fp->Prop
 | .go _ p' _ _=>p<p'
 | _=>True
section
variable {l:List UInt8}
end
end Go.Proofs.YtgmnmnnoahdjnaaGreatDoor
namespace Go.Proofs.YtgmnmnnoahdjnaaGreatDoor
open Go.RowKit
section Cut
variable {l:List UInt8}
end Cut
end Go.Proofs.YtgmnmnnoahdjnaaGreatDoor
namespace Go.Proofs.YtgmnmnnoahdjnaaGreatDoor
open Go.RowKit
section Cut
variable {l:List UInt8}
end Cut
end Go.Proofs.YtgmnmnnoahdjnaaGreatDoor
namespace Go.Proofs.YtgmnmnnoahdjnaaGreatDoor
open Go.RowKit
section CutN
variable {l:List UInt8}
end CutN
end Go.Proofs.YtgmnmnnoahdjnaaGreatDoor
namespace Go.Proofs.YtgmnmnnoahdjnaaGreatDoor
open Go.RowKit
section CutS
variable {l:List UInt8}
def far (n:Nat):fp->Prop
 | .fail _ _=>True
 | .go _ p' _ _=>n<p'
 | .done q _=>n<q
end CutS
end Go.Proofs.YtgmnmnnoahdjnaaGreatDoor
namespace Go.Proofs.YtgmnmnnoahdjnaaGreatDoor
section Less
theorem mI (a b:UInt8) (x y:List UInt8):ltB (a::x) (b::y)=true ↔ a<b∨(a=b/\ltB x y=true):=by
 unfold ltB;rw [Op.bytesLess];by_cases h1:a<b<;>by_cases h2:a=b<;>simp [h1,h2]
theorem td (x:List UInt8):ltB x []=false:=by cases x<;>rfl
theorem gR (b:UInt8) (y:List UInt8):ltB [] (b::y)=true:=rfl
theorem iU:∀ {x y z:List UInt8},ltB x y=true->ltB y z=true->ltB x z=true
 | _,[],_,h,_=>by rw [td] at h;cases h
 | _,_::_,[],_,h=>by rw [td] at h;cases h
 | [],_::_,c::z,_,_=>gR c z
 |a::x,b::y,c::z,h1,h2=>by
  rw [mI] at h1 h2 ⊢;rcases h1 with h1 | ⟨rfl,h1⟩
  ·rcases h2 with h2 | ⟨rfl,h2⟩
   ·left;have:=UInt8.lt_iff_toNat_lt.1 h1;have:=UInt8.lt_iff_toNat_lt.1 h2;exact UInt8.lt_iff_toNat_lt.2 (by omega)
   ·exact .inl h1
  ·rcases h2 with h2 | ⟨rfl,h2⟩
   ·exact .inl h2
   ·exact .inr ⟨rfl,iU h1 h2⟩
theorem ow:∀ {x y:List UInt8},x≠y->ltB x y=true∨ltB y x=true
 | [],[],h=>absurd rfl h
 | [],b::y,_=>.inl (gR b y)
 | a::x,[],_=>.inr (gR a x)
 |a::x,b::y,h=>by
  rw [mI,mI];by_cases hab:a=b
  ·subst hab;have hxy:x≠y:=λ e=>h (by rw [e])
   rcases ow hxy with h1 | h1
   ·exact .inl (.inr ⟨rfl,h1⟩)
   ·exact .inr (.inr ⟨rfl,h1⟩)
  ·have:a.toNat≠b.toNat:=λ e=>hab (UInt8.toNat_inj.1 e)
   rcases Nat.lt_or_gt_of_ne this with h1 | h1
   ·exact .inl (.inl (UInt8.lt_iff_toNat_lt.2 h1))
   ·exact .inr (.inl (UInt8.lt_iff_toNat_lt.2 h1))
end Less
abbrev UpB (keys:List (List UInt8)):Prop:=keys.Pairwise λ a b=>ltB a b=true
theorem lf (key:List UInt8) (keys:List (List UInt8)):∀ n,(∀ j,et key keys n<=j->j<n->ltB key (keys.getD j [])=true)/\(0<et key keys n->ltB key (keys.getD (et key keys n-1) [])=false)
 | 0=>⟨λ j h h'=>absurd h' (Nat.not_lt_zero _),λ h=>absurd h (Nat.lt_irrefl _)⟩
 |n+1=>by
  have ih:=lf key keys n;unfold et;by_cases h:ltB key (keys.getD n [])=true
  ·rw [if_pos h];refine ⟨λ j h1 h2=>?_,ih.2⟩;rcases Nat.lt_or_ge j n with h3 | h3
   ·exact ih.1 j h1 h3
   ·obtain rfl:j=n:=by omega
    exact h
  ·rw [if_neg h];exact ⟨λ j h1 h2=>by omega,λ _=>by simpa using h⟩
theorem yg {key:List UInt8} {keys:List (List UInt8)} (h:UpB keys) (hk:key ∉ keys):UpB (fS keys (et key keys keys.length) key):=by
 obtain ⟨h1,h2⟩:=lf key keys keys.length;have hle:=kC key keys keys.length;generalize et key keys keys.length=p at h1 h2 hle;have hget:∀ {j},(hj:j<keys.length)->keys.getD j []=keys[j]:=λ {j} hj=>by rw [List.getD_eq_getElem?_getD,List.getElem?_eq_getElem hj];rfl
 have hp:=List.pairwise_iff_getElem.1 h;unfold fS UpB;have hb:∀ x ∈ keys.take p,ltB x key=true:=by
  intro x hx;obtain ⟨j,hj,rfl⟩:=List.getElem_of_mem hx;rw [List.length_take] at hj;rw [List.getElem_take];have hp0:0<p:=by omega
  have h3:=h2 hp0;rw [hget (by omega)] at h3;have hne:keys[p-1]≠key:=λ e=>hk (by rw [← e];exact List.getElem_mem _)
  have h4:ltB keys[p-1] key=true:=by
   rcases ow hne with h5 | h5
   ·exact h5
   ·rw [h5] at h3;cases h3
  rcases Nat.lt_or_ge j (p-1) with h6 | h6
  ·exact iU (hp j (p-1) (by omega) (by omega) h6) h4
  ·obtain rfl:j=p-1:=by omega
   exact h4
 have ha:∀ x ∈ keys.drop p,ltB key x=true:=by
  intro x hx;obtain ⟨j,hj,rfl⟩:=List.getElem_of_mem hx;rw [List.length_drop] at hj;rw [List.getElem_drop];have:=h1 (p+j) (by omega) (by omega);rwa [hget (by omega)] at this
 rw [List.pairwise_append];refine ⟨h.take,List.pairwise_cons.2 ⟨ha,h.drop⟩,λ x hx y hy=>?_⟩;rcases List.mem_cons.1 hy with rfl | hy
 ·exact hb x hx
 ·exact iU (hb x hx) (ha y hy)
def ij (s:List UInt8):Prop:=∃ cs:List Nat,(∀ c ∈ cs,fZ (c:Int)=true)/\s=cs.flatMap af/\cs.length<=262144
theorem ij.nil:ij []:=⟨[],by simp,rfl,by simp⟩
structure rx (k n:Int) (s:List UInt8) (kids:List JV) (keys:List (List UInt8)):Prop where
 texts:∀ t ∈ keys,ij t
 up:UpB keys
 kind:1<=k/\k<=6
 num:k≠3->n=0∨(k=2/\n=1)
 text:if k=4 then ij s else s=[]
 leaf:k<5->kids=[]
 keyed:if k=6 then keys.length=kids.length else keys=[]
mutual
def bf:JV->Nat | .mk _ _ _ kids _=>1+bg kids
def bg:List JV->Nat | []=>0 | x::r=>bf x+bg r
end
mutual
def jC:Nat->JV->Prop
 | d,.mk k n s kids keys=>rx k n s kids keys/\(5<=k->d≠0)/\fC (d-1) kids
def fC:Nat->List JV->Prop
 | _,[]=>True
 | d,x::r=>jC d x/\fC d r
end
theorem jD {d:Nat}:∀ {xs:List JV},fC d xs ↔ ∀ x ∈ xs,jC d x
 | []=>by simp [fC]
 | x::r=>by simp [fC,jD (xs:=r)]
theorem fx:∀ (xs ys:List JV),bg (xs++ys)=bg xs+bg ys
 | [],ys=>by simp [bg]
 | x::r,ys=>by rw [List.cons_append,bg,bg,fx r ys];omega
theorem r4 (xs:List JV) (i:Nat) (x:JV):bg (fS xs i x)=bg xs+bf x:=by
 unfold fS;rw [fx,bg];have:=fx (xs.take i) (xs.drop i);rw [List.take_append_drop] at this;omega
structure uK (d:Nat) (v:JV) (keys:List (List UInt8)) (N:Nat):Prop where
 num:v.num=0
 text:v.txt=[]
 texts:∀ t ∈ v.keys,ij t
 up:UpB v.keys
 right:fC d v.kids
 nodes:bg v.kids=N
 obj:sN v keys
theorem uK.nil (d:Nat):uK d (.mk 6 0 [] [] []) [] 0:=⟨rfl,rfl,by simp [JV.keys],by simp [JV.keys],trivial,rfl,rfl,rfl,λ s=>Iff.rfl⟩
theorem uK.add {d N:Nat} {v x:JV} {keys:List (List UInt8)} {s:List UInt8} (h:uK d v keys N) (hs:ij s) (hn:s ∉ keys) (hx:jC d x):uK d (km v s x) (keys++[s]) (N+bf x):=by
 have ho:=h.obj.add s x;obtain ⟨k,n,t,kids,ks⟩:=v;have hk:k=6:=h.obj.kind;have hl:ks.length=kids.length:=h.obj.len;have hns:s ∉ ks:=λ e=>hn ((h.obj.mem s).1 e)
 have e:km (.mk k n t kids ks) s x=.mk k n t (fS kids (et s ks kids.length) x) (fS ks (et s ks kids.length) s):=by
  unfold km;simp only;rw [if_pos hk]
 rw [e] at ho ⊢;refine ⟨h.num,h.text,λ y hy=>?_,?_,?_,?_,ho⟩
 ·rcases kI.1 hy with h1 | rfl
  ·exact h.texts y h1
  ·exact hs
 ·have:=yg (key:=s) h.up hns;rw [show (JV.mk k n t kids ks).keys.length=kids.length from hl] at this;exact this
 ·refine jD.2 λ y hy=>?_
  rcases kI.1 hy with h1 | rfl
  ·exact jD.1 h.right y h1
  ·exact hx
 ·rw [JV.kids,r4];have:bg kids=N:=h.nodes;omega
section RightR
variable {l:List UInt8}
end RightR
end Go.Proofs.YtgmnmnnoahdjnaaGreatDoor
namespace Go.Proofs.YtgmnmnnoahdjnaaGreatDoor
end Go.Proofs.YtgmnmnnoahdjnaaGreatDoor
namespace Go.Proofs.YtgmnmnnoahdjnaaGreatDoor
section
open Go.RowKit
theorem oN8 (n:Nat) (h:n<256):(UInt8.ofNat n).toNat=n:=by
 have:(UInt8.ofNat n).toNat=n % 256:=by simp
 rw [this];omega
theorem di (c:Nat) (r:List UInt8) (h:fZ (c:Int)=true):ar (af c++r)=(c,(af c).length)/\1<=(af c).length/\(af c).length<=4:=by
 have hc:=(fv c).1 h;by_cases h1:c<128
 ·obtain ⟨c0,e0,h0⟩:∃ c0:UInt8,UInt8.ofNat c=c0/\c0.toNat=c:=⟨_,rfl,oN8 _ (by omega)⟩
  have e:af c=[c0]:=by unfold af;rw [if_pos h1,e0]
  rw [e,List.cons_append,List.nil_append,jR ((ok1 c0 r).2 (by omega))];refine ⟨?_,by simp,by simp⟩;have:bu (c0::r) 1=c0.toNat:=by simp [bu]
  rw [this,h0];rfl
 by_cases h2:c<2048
 ·obtain ⟨c0,e0,h0⟩:∃ c0:UInt8,UInt8.ofNat (192+c / 64)=c0/\c0.toNat=192+c / 64:=⟨_,rfl,oN8 _ (by omega)⟩
  obtain ⟨c1,e1,k1⟩:∃ c1:UInt8,UInt8.ofNat (128+c % 64)=c1/\c1.toNat=128+c % 64:=⟨_,rfl,oN8 _ (by omega)⟩
  have e:af c=[c0,c1]:=by unfold af;rw [if_neg h1,if_pos h2,e0,e1]
  have n1:bN (c0::c1::r) 1=false:=by rw [Bool.eq_false_iff,Ne,ok1];omega
  rw [e];show ar (c0::c1::r)=_/\_
  rw [lK n1 ((ok2 c0 c1 r).2 (by omega))];refine ⟨?_,by simp,by simp⟩;have:bu (c0::c1::r) 2=c0.toNat % 32*64+c1.toNat % 64:=by simp [bu]
  rw [this,h0,k1];show (_,2)=(_,2)
  congr 1;omega
 by_cases h3:c<65536
 ·obtain ⟨c0,e0,h0⟩:∃ c0:UInt8,UInt8.ofNat (224+c / 4096)=c0/\c0.toNat=224+c / 4096:=⟨_,rfl,oN8 _ (by omega)⟩
  obtain ⟨c1,e1,k1⟩:∃ c1:UInt8,UInt8.ofNat (128+c / 64 % 64)=c1/\c1.toNat=128+c / 64 % 64:=⟨_,rfl,oN8 _ (by omega)⟩
  obtain ⟨c2,e2,k2⟩:∃ c2:UInt8,UInt8.ofNat (128+c % 64)=c2/\c2.toNat=128+c % 64:=⟨_,rfl,oN8 _ (by omega)⟩
  have e:af c=[c0,c1,c2]:=by unfold af;rw [if_neg h1,if_neg h2,if_pos h3,e0,e1,e2]
  have n1:bN (c0::c1::c2::r) 1=false:=by rw [Bool.eq_false_iff,Ne,ok1];omega
  have n2:bN (c0::c1::c2::r) 2=false:=no2 _ _ (by omega);rw [e];show ar (c0::c1::c2::r)=_/\_
  rw [lL n1 n2 ((ok3 c0 c1 c2 r).2 (by omega))];refine ⟨?_,by simp,by simp⟩;have:bu (c0::c1::c2::r) 3=(c0.toNat % 16*64+c1.toNat % 64)*64+c2.toNat % 64:=by simp [bu]
  rw [this,h0,k1,k2];show (_,3)=(_,3)
  congr 1;omega
 ·obtain ⟨c0,e0,h0⟩:∃ c0:UInt8,UInt8.ofNat (240+c / 262144)=c0/\c0.toNat=240+c / 262144:=⟨_,rfl,oN8 _ (by omega)⟩
  obtain ⟨c1,e1,k1⟩:∃ c1:UInt8,UInt8.ofNat (128+c / 4096 % 64)=c1/\c1.toNat=128+c / 4096 % 64:=⟨_,rfl,oN8 _ (by omega)⟩
  obtain ⟨c2,e2,k2⟩:∃ c2:UInt8,UInt8.ofNat (128+c / 64 % 64)=c2/\c2.toNat=128+c / 64 % 64:=⟨_,rfl,oN8 _ (by omega)⟩
  obtain ⟨c3,e3,k3⟩:∃ c3:UInt8,UInt8.ofNat (128+c % 64)=c3/\c3.toNat=128+c % 64:=⟨_,rfl,oN8 _ (by omega)⟩
  have e:af c=[c0,c1,c2,c3]:=by unfold af;rw [if_neg h1,if_neg h2,if_neg h3,e0,e1,e2,e3]
  have n1:bN (c0::c1::c2::c3::r) 1=false:=by rw [Bool.eq_false_iff,Ne,ok1];omega
  have n2:bN (c0::c1::c2::c3::r) 2=false:=no2 _ _ (by omega);have n3:bN (c0::c1::c2::c3::r) 3=false:=no3 _ _ (by omega);rw [e];show ar (c0::c1::c2::c3::r)=_/\_
  rw [lM n1 n2 n3 ((ok4 c0 c1 c2 c3 r).2 (by omega))];refine ⟨?_,by simp,by simp⟩;have:bu (c0::c1::c2::c3::r) 4=((c0.toNat % 8*64+c1.toNat % 64)*64+c2.toNat % 64)*64+c3.toNat % 64:=by simp [bu]
  rw [this,h0,k1,k2,k3];show (_,4)=(_,4)
  congr 1;omega
theorem sQ {cs:List Nat} (h:∀ c ∈ cs,fZ (c:Int)=true):cs.length<=(cs.flatMap af).length/\(cs.flatMap af).length<=4*cs.length:=by
 induction cs with
 | nil=>simp
 |cons c r ih =>
  have h1:=di c [] (h c List.mem_cons_self);have h2:=ih (λ x hx=>h x (List.mem_cons_of_mem _ hx));rw [List.flatMap_cons,List.length_append,List.length_cons];omega
theorem jd {W:World} {b o:Nat} {ks:List (List UInt8)} {n:Nat} (h:RdF W (λ _=>True) (some ⟨b,o,none⟩) (jF ks)) {i:Nat} {t:List UInt8} (hx:ks[i]? = some t):W.cell? ⟨b,o+i,none⟩=some (Zt ⟨t.toArray⟩):=by
 have hkl:=List.getElem?_eq_some_iff.1 hx;obtain ⟨b',o',e,_,_,hc⟩:=h (by intro e;have h:=j9 ks;rw [e] at h;have:=hkl.1;simp at h;omega);injection e with e;injection e with e1 e2
 subst e1;subst e2;rw [hc i (by rw [j9];exact hkl.1)];simp [jF,hkl.2]
theorem oM {W:World} {F:Nat->Prop} {A:Option Addr} {ks:List (List UInt8)} (h:RdF W F A (jF ks)) (hx:0<ks.length):∃ b o,A=some ⟨b,o,none⟩/\b<W.heap.size:=by
 obtain ⟨b,o,e,hb,_⟩:=h (by intro e;have h:=j9 ks;rw [e] at h;simp at h;omega);exact ⟨b,o,e,hb⟩
theorem dS (v:JV):1<=bf v:=by cases v;unfold bf;omega
theorem mL:∀ xs:List JV,xs.length<=bg xs
 | []=>Nat.zero_le _
 | x::r=>by have:=mL r;have:=dS x;rw [bg,List.length_cons];omega
theorem iY {xs:List JV} {i:Nat} {x:JV} (h:xs[i]? = some x):bg (xs.take (i+1))=bg (xs.take i)+bf x/\bg (xs.take i)+bf x<=bg xs:=by
 have e:bg (xs.take (i+1))=bg (xs.take i)+bf x:=by rw [List.take_add_one,h,fx];show _+bg [x]=_;rw [bg,bg];omega
 refine ⟨e,?_⟩;have:=fx (xs.take (i+1)) (xs.drop (i+1));rw [List.take_append_drop] at this;omega
def nA:Nat->List UInt8->Bool
 | _,[]=>true
 | 0,_::_=>false
 | f+1,c::r=>if (ar (c::r)).2=0 then false else nA f ((c::r).drop (ar (c::r)).2)
def cc (l:List UInt8):Bool:=nA l.length l
theorem nB:∀ (f g:Nat) (l:List UInt8),l.length<=f->l.length<=g->nA f l=nA g l
 | f,g,[],_,_=>by cases f<;>cases g<;>rfl
 | 0,_,_::_,h,_=>by simp at h
 | _+1,0,_::_,_,h=>by simp at h
 |f+1,g+1,c::r,h,h'=>by
  unfold nA;split
  ·rfl
  ·rename_i hn
   refine nB f g _ ?_ ?_ <;> · rw [List.length_drop,List.length_cons] at *;omega
theorem gU {l:List UInt8} (h:l≠[]):cc l=(if (ar l).2=0 then false else cc (l.drop (ar l).2)):=by
 cases l with
 | nil=>exact absurd rfl h
 |cons c r =>
  show nA (r.length+1) (c::r)=_
  unfold nA;split
  ·rfl
  ·rename_i hn
   refine nB _ _ _ ?_ ?_ <;> · rw [List.length_drop,List.length_cons];omega
theorem oW:∀ {cs:List Nat},(∀ c ∈ cs,fZ (c:Int)=true)->cc (cs.flatMap af)=true
 | [],_=>rfl
 |c::r,h=>by
  obtain ⟨h1,h2,h3⟩:=di c (r.flatMap af) (h c List.mem_cons_self);rw [List.flatMap_cons,gU (by intro e;have h:=congrArg List.length e;rw [List.length_append] at h;simp only [List.length_nil] at h;omega),h1,if_neg (by show ¬ (af c).length=0;omega)];show cc ((af c++_).drop (af c).length)=_
  rw [List.drop_left];exact oW (λ x hx=>h x (List.mem_cons_of_mem _ hx))
theorem ij.ok {s:List UInt8} (h:ij s):cc s=true:=by
 obtain ⟨cs,h1,rfl,_⟩:=h;exact oW h1
theorem kV (l:List UInt8):(ar l).2<=l.length/\(ar l).2<=4:=⟨kW l,ma l⟩
def cK:List (List UInt8)->Bool
 | []=>true
 | k::r=>cc k && ((match r with | []=>true | k'::_=>ltB k k') && cK r)
theorem mC:∀ {keys:List (List UInt8)},cK keys=true ↔ (∀ t ∈ keys,cc t=true)/\UpB keys
 | []=>by simp [cK]
 | [k]=>by simp [cK]
 |k::k'::r=>by
  have ih:=mC (keys:=k'::r);unfold cK;rw [Bool.and_eq_true,Bool.and_eq_true,ih];show cc k=true/\ltB k k'=true/\_ ↔ _
  constructor
  ·rintro ⟨h1,h2,h3,h4⟩;refine ⟨λ t ht=>?_,List.pairwise_cons.2 ⟨λ y hy=>?_,h4⟩⟩
   ·rcases List.mem_cons.1 ht with rfl | ht
    ·exact h1
    ·exact h3 t ht
   ·rcases List.mem_cons.1 hy with rfl | hy
    ·exact h2
    ·exact iU h2 ((List.pairwise_cons.1 h4).1 y hy)
  ·rintro ⟨h1,h2⟩;have h2:=List.pairwise_cons.1 h2;exact ⟨h1 k List.mem_cons_self,h2.1 k' List.mem_cons_self,λ t ht=>h1 t (List.mem_cons_of_mem _ ht),h2.2⟩
def bO (k n:Int) (s:List UInt8) (nk:Nat) (keys:List (List UInt8)):Bool :=
 if k=1 then n == 0 && s == [] && nk == 0 && keys == []
 else if k=2 then (n == 0 || n == 1) && s == [] && nk == 0 && keys == []
 else if k=3 then s == [] && nk == 0 && keys == []
 else if k=4 then n == 0 && cc s && nk == 0 && keys == []
 else if k=5 then n == 0 && s == [] && keys == []
 else if k=6 then n == 0 && s == [] && nk == keys.length && cK keys
 else false
mutual
/-- right within so many levels -/
def ef:Nat->JV->Bool
 | d,.mk k n s kids keys=>bO k n s kids.length keys && (decide (5<=k->d≠0) && fR (d-1) kids)
def fR:Nat->List JV->Bool
 | _,[]=>true
 | d,x::r=>ef d x && fR d r
end
theorem kA {d:Nat}:∀ {xs:List JV},fR d xs=true ↔ ∀ x ∈ xs,ef d x=true
 | []=>by simp [fR]
 | x::r=>by simp [fR,kA (xs:=r)]
def good (v:JV):Bool:=ef 8 v && decide (bf v<=256)
theorem fu {k n:Int} {s:List UInt8} {nk:Nat} {keys:List (List UInt8)} (h:bO k n s nk keys=true):1<=k/\k<=6:=by
 unfold bO at h;split at h
 ·omega
 split at h
 ·omega
 split at h
 ·omega
 split at h
 ·omega
 split at h
 ·omega
 split at h
 ·omega
 ·cases h
theorem jv {k n:Int} {s:List UInt8} {nk:Nat} {keys:List (List UInt8)} (h:bO k n s nk keys=true) (hk:k<5):nk=0/\keys=[]:=by
 have:=fu h;unfold bO at h;split at h
 ·simp only [Bool.and_eq_true,beq_iff_eq] at h;exact ⟨h.1.2,h.2⟩
 split at h
 ·simp only [Bool.and_eq_true,beq_iff_eq] at h;exact ⟨h.1.2,h.2⟩
 split at h
 ·simp only [Bool.and_eq_true,beq_iff_eq] at h;exact ⟨h.1.2,h.2⟩
 split at h
 ·simp only [Bool.and_eq_true,beq_iff_eq] at h;exact ⟨h.1.2,h.2⟩
 ·omega
theorem rO {n:Int} {s:List UInt8} {nk:Nat} {keys:List (List UInt8)} (h:bO 5 n s nk keys=true):n=0/\s=[]/\keys=[]:=by
 unfold bO at h;simp at h;exact ⟨h.1.1,h.1.2,h.2⟩
theorem tX {n:Int} {s:List UInt8} {nk:Nat} {keys:List (List UInt8)} (h:bO 6 n s nk keys=true):n=0/\s=[]/\nk=keys.length/\cK keys=true:=by
 unfold bO at h;simp at h;exact ⟨h.1.1.1,h.1.1.2,h.1.2,h.2⟩
theorem rx.good {k n:Int} {s:List UInt8} {kids:List JV} {keys:List (List UInt8)} (h:rx k n s kids keys):bO k n s kids.length keys=true:=by
 have hk:=h.kind;have hky:=h.keyed;have ht:=h.text;have hl:=h.leaf;have hn:=h.num;have hk7:k=1∨k=2∨k=3∨k=4∨k=5∨k=6:=by omega
 rcases hk7 with rfl | rfl | rfl | rfl | rfl | rfl
 ·have h1:=hl (by decide);have h2:=hn (by decide);simp at ht hky h2;subst h1 ht hky h2;rfl
 ·have h1:=hl (by decide);have h2:=hn (by decide);simp at ht hky h2;subst h1 ht hky;rcases h2 with rfl | rfl<;>rfl
 ·have h1:=hl (by decide);simp at ht hky;subst h1 ht hky;rfl
 ·have h1:=hl (by decide);have h2:=hn (by decide);simp at ht hky h2;subst h1 hky h2;have:=ht.ok;simp [bO,this]
 ·have h2:=hn (by decide);simp at ht hky h2;subst ht hky h2;simp [bO]
 ·have h2:=hn (by decide);simp at ht hky h2;subst ht h2;have:=mC.2 ⟨λ t htt=>(h.texts t htt).ok,h.up⟩;simp [bO,this,hky]
mutual
theorem jC.good:∀ {d:Nat} {v:JV},jC d v->ef d v=true
 |d,.mk k n s kids keys,h=>by
  unfold jC at h;unfold ef;rw [h.1.good,fC.good h.2.2];rw [decide_eq_true h.2.1];rfl
theorem fC.good:∀ {d:Nat} {xs:List JV},fC d xs->fR d xs=true
 | _,[],_=>by simp [fR]
 |d,x::r,h=>by
  unfold fC at h;unfold fR;rw [jC.good h.1,fC.good h.2];rfl
end
def TT:Nat->Prop:=λ _=>True
def iw (n:Int):Prop:=-9223372036854775808<=n/\n<=9223372036854775807
mutual
def inJ:JV->Prop | .mk k n s kids keys=>iw k/\iw n/\inL kids
def inL:List JV->Prop | []=>True | x::r=>inJ x/\inL r
end
theorem sU:∀ {xs:List JV},inL xs ↔ ∀ x ∈ xs,inJ x
 | []=>by simp [inL]
 | x::r=>by simp [inL,sU (xs:=r)]
def fL:List (List UInt8)->Nat | []=>0 | k::r=>k.length+1+fL r
mutual
/-- how much a value is -/
def dj:JV->Nat | .mk k n s kids keys=>1+s.length+fL keys+eV kids
def eV:List JV->Nat | []=>0 | x::r=>dj x+eV r
end
theorem nS (v:JV):1<=dj v:=by cases v;unfold dj;omega
theorem nU:∀ ks:List (List UInt8),ks.length<=fL ks
 | []=>Nat.zero_le _
 | k::r=>by have:=nU r;unfold fL;rw [List.length_cons];omega
theorem qg:∀ {ks:List (List UInt8)} {t:List UInt8},t ∈ ks->t.length+1<=fL ks
 |k::r,t,h=>by
  unfold fL;rcases List.mem_cons.1 h with rfl | h
  ·omega
  ·have:=qg h;omega
theorem nV:∀ xs:List JV,xs.length<=eV xs
 | []=>Nat.zero_le _
 | x::r=>by have:=nV r;have:=nS x;unfold eV;rw [List.length_cons];omega
mutual
theorem mM:∀ v:JV,bf v<=dj v
 | .mk k n s kids keys=>by have:=lm kids;unfold bf dj;omega
theorem lm:∀ xs:List JV,bg xs<=eV xs
 | []=>Nat.le_refl _
 | x::r=>by have:=mM x;have:=lm r;unfold bg eV;omega
end
mutual
/-- the lengths of a value's parts -/
def t7:JV->Prop | .mk k n s kids keys=>s.length<=4194304/\kids.length<=4194304/\keys.length<=4194304/\(∀ t ∈ keys,t.length<=4194304)/\rV kids
def rV:List JV->Prop | []=>True | x::r=>t7 x/\rV r
end
theorem qD:∀ {xs:List JV},rV xs ↔ ∀ x ∈ xs,t7 x
 | []=>by simp [rV]
 | x::r=>by simp [rV,qD (xs:=r)]
mutual
theorem om:∀ v:JV,dj v<=4194304->t7 v
 | .mk k n s kids keys,h=>by
  unfold dj at h;have:=nU keys;have:=nV kids;unfold t7;exact ⟨by omega,by omega,by omega,λ t ht=>by have:=qg ht;omega,oq kids (by omega)⟩
theorem oq:∀ xs:List JV,eV xs<=4194304->rV xs
 | [],_=>trivial
 | x::r,h=>by unfold eV at h;unfold rV;exact ⟨om x (by omega),oq r (by omega)⟩
end
theorem oy:∀ {xs:List JV} {x:JV},x ∈ xs->bf x<=bg xs
 |y::r,x,h=>by
  unfold bg;rcases List.mem_cons.1 h with rfl | h
  ·omega
  ·have:=oy h;omega
structure cW (v:JV):Prop where
 ints:inJ v
 nodes:bf v<=4194304
 lens:t7 v
theorem cW.of {v:JV} (h1:inJ v) (h2:dj v<=4194304):cW v:=⟨h1,Nat.le_trans (mM v) h2,om v h2⟩
theorem cW.out {k n:Int} {s:List UInt8} {kids:List JV} {keys:List (List UInt8)} (h:cW (.mk k n s kids keys)) :
  iw k/\iw n/\s.length<=4194304/\kids.length<=4194304/\keys.length<=4194304/\(∀ t ∈ keys,t.length<=4194304)/\∀ x ∈ kids,cW x:=by
 obtain ⟨h1,h2,h3⟩:=h;unfold inJ at h1;unfold bf at h2;unfold t7 at h3;refine ⟨h1.1,h1.2.1,h3.1,h3.2.1,h3.2.2.1,h3.2.2.2.1,λ x hx=>⟨sU.1 h1.2.2 x hx,?_,qD.1 h3.2.2.2.2 x hx⟩⟩;have:=oy hx;omega
instance:Inhabited JV:=⟨dX⟩
theorem fm {d:Nat} {k n:Int} {s:List UInt8} {kids:List JV} {keys:List (List UInt8)} (h:ef d (.mk k n s kids keys)=true):bO k n s kids.length keys=true/\(5<=k->d≠0)/\fR (d-1) kids=true:=by
 unfold ef at h;simp only [Bool.and_eq_true,decide_eq_true_eq] at h;exact ⟨h.1,h.2.1,h.2.2⟩
theorem keyed {k n:Int} {s:List UInt8} {nk:Nat} {keys:List (List UInt8)} (h:bO k n s nk keys=true):(k=6->keys.length=nk)/\(k≠6->keys=[]):=by
 have h1:=fu h;refine ⟨λ e=>?_,λ e=>?_⟩
 ·subst e;exact (tX h).2.2.1.symm
 ·rcases Int.lt_or_le k 5 with h2 | h2
  ·exact (jv h h2).2
  ·obtain rfl:k=5:=by omega
   exact (rO h).2.2
def gd (v:JV):Prop:=good v=true
theorem gd.j {v:JV} (h:gd v):ef 8 v=true:=by unfold gd good at h;rw [Bool.and_eq_true] at h;exact h.1
end
end Go.Proofs.YtgmnmnnoahdjnaaGreatDoor
