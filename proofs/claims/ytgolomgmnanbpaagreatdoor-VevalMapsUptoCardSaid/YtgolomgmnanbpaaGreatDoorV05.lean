import Derived.Test.YtgolomgmnanbpaaGreatDoorV04
import Derived.Test.YtgolomgmnanbpaaGreatDoorChecked
import Derived.Lib.FrozenHead2
import Derived.Lib.MakeNoZero
import Derived.Deep.RegionLawGrows
open Go.Value renaming int → Zi, slice → Zs, string → Zt, pointer → Zp
open Go.IntKind renaming i64 → Zq
set_option maxRecDepth 100000
set_option maxHeartbeats 16000000
set_option linter.unusedVariables false
set_option linter.unusedSimpArgs false
namespace Go.Proofs.YtgolomgmnanbpaaGreatDoor
section Less
theorem dr (a b:UInt8) (x y:List UInt8):ltB (a::x) (b::y)=true ↔ a<b∨(a=b/\ltB x y=true):=by
 unfold ltB;rw [Op.bytesLess];by_cases h1:a<b<;>by_cases h2:a=b<;>simp [h1,h2]
theorem fM (x:List UInt8):ltB x []=false:=by cases x<;>rfl
theorem dm (b:UInt8) (y:List UInt8):ltB [] (b::y)=true:=rfl
theorem cw:∀ x:List UInt8,¬ ltB x x=true
 | [],h=>by rw [fM] at h;cases h
 |a::x,h=>by
  rcases (dr a a x x).1 h with h | h
  ·have:=UInt8.lt_iff_toNat_lt.1 h;omega
  ·exact cw x h.2
theorem dv:∀ {x y z:List UInt8},ltB x y=true->ltB y z=true->ltB x z=true
 | _,[],_,h,_=>by rw [fM] at h;cases h
 | _,_::_,[],_,h=>by rw [fM] at h;cases h
 | [],_::_,c::z,_,_=>dm c z
 |a::x,b::y,c::z,h1,h2=>by
  rw [dr] at h1 h2 ⊢;rcases h1 with h1 | ⟨rfl,h1⟩
  ·rcases h2 with h2 | ⟨rfl,h2⟩
   ·left;have:=UInt8.lt_iff_toNat_lt.1 h1;have:=UInt8.lt_iff_toNat_lt.1 h2;exact UInt8.lt_iff_toNat_lt.2 (by omega)
   ·exact .inl h1
  ·rcases h2 with h2 | ⟨rfl,h2⟩
   ·exact .inl h2
   ·exact .inr ⟨rfl,dv h1 h2⟩
theorem iC:∀ {x y:List UInt8},x≠y->ltB x y=true∨ltB y x=true
 | [],[],h=>absurd rfl h
 | [],b::y,_=>.inl (dm b y)
 | a::x,[],_=>.inr (dm a x)
 |a::x,b::y,h=>by
  rw [dr,dr];by_cases hab:a=b
  ·subst hab;have hxy:x≠y:=λ e=>h (by rw [e])
   rcases iC hxy with h1 | h1
   ·exact .inl (.inr ⟨rfl,h1⟩)
   ·exact .inr (.inr ⟨rfl,h1⟩)
  ·have:a.toNat≠b.toNat:=λ e=>hab (UInt8.toNat_inj.1 e)
   rcases Nat.lt_or_gt_of_ne this with h1 | h1
   ·exact .inl (.inl (UInt8.lt_iff_toNat_lt.2 h1))
   ·exact .inr (.inl (UInt8.lt_iff_toNat_lt.2 h1))
end Less
abbrev UpB (keys:List (List UInt8)):Prop:=keys.Pairwise λ a b=>ltB a b=true
theorem iQ (key:List UInt8) (keys:List (List UInt8)):∀ n,(∀ j,dD key keys n<=j->j<n->ltB key (keys.getD j [])=true)/\(0<dD key keys n->ltB key (keys.getD (dD key keys n-1) [])=false)
 | 0=>⟨λ j h h'=>absurd h' (Nat.not_lt_zero _),λ h=>absurd h (Nat.lt_irrefl _)⟩
 |n+1=>by
  have ih:=iQ key keys n;unfold dD;by_cases h:ltB key (keys.getD n [])=true
  ·rw [if_pos h];refine ⟨λ j h1 h2=>?_,ih.2⟩;rcases Nat.lt_or_ge j n with h3 | h3
   ·exact ih.1 j h1 h3
   ·obtain rfl:j=n:=by omega
    exact h
  ·rw [if_neg h];exact ⟨λ j h1 h2=>by omega,λ _=>by simpa using h⟩
theorem sN {key:List UInt8} {keys:List (List UInt8)} (h:UpB keys) (hk:key ∉ keys):UpB (ez keys (dD key keys keys.length) key):=by
 obtain ⟨h1,h2⟩:=iQ key keys keys.length;have hle:=ia key keys keys.length;generalize dD key keys keys.length=p at h1 h2 hle;have hget:∀ {j},(hj:j<keys.length)->keys.getD j []=keys[j]:=λ {j} hj=>by rw [List.getD_eq_getElem?_getD,List.getElem?_eq_getElem hj];rfl
 have hp:=List.pairwise_iff_getElem.1 h;unfold ez UpB;have hb:∀ x ∈ keys.take p,ltB x key=true:=by
  intro x hx;obtain ⟨j,hj,rfl⟩:=List.getElem_of_mem hx;rw [List.length_take] at hj;rw [List.getElem_take];have hp0:0<p:=by omega
  have h3:=h2 hp0;rw [hget (by omega)] at h3;have hne:keys[p-1]≠key:=λ e=>hk (by rw [← e];exact List.getElem_mem _)
  have h4:ltB keys[p-1] key=true:=by
   rcases iC hne with h5 | h5
   ·exact h5
   ·rw [h5] at h3;cases h3
  rcases Nat.lt_or_ge j (p-1) with h6 | h6
  ·exact dv (hp j (p-1) (by omega) (by omega) h6) h4
  ·obtain rfl:j=p-1:=by omega
   exact h4
 have ha:∀ x ∈ keys.drop p,ltB key x=true:=by
  intro x hx;obtain ⟨j,hj,rfl⟩:=List.getElem_of_mem hx;rw [List.length_drop] at hj;rw [List.getElem_drop];have:=h1 (p+j) (by omega) (by omega);rwa [hget (by omega)] at this
 rw [List.pairwise_append];refine ⟨h.take,List.pairwise_cons.2 ⟨ha,h.drop⟩,λ x hx y hy=>?_⟩;rcases List.mem_cons.1 hy with rfl | hy
 ·exact hb x hx
 ·exact dv (hb x hx) (ha y hy)
def fp (s:List UInt8):Prop:=∃ cs:List Nat,(∀ c ∈ cs,eC (c:Int)=true)/\s=cs.flatMap ai/\cs.length<=262144
theorem fp.nil:fp []:=⟨[],by simp,rfl,by simp⟩
structure oL (k n:Int) (s:List UInt8) (kids:List JV) (keys:List (List UInt8)):Prop where
 texts:∀ t ∈ keys,fp t
 up:UpB keys
 kind:1<=k/\k<=6
 num:k≠3->n=0∨(k=2/\n=1)
 text:if k=4 then fp s else s=[]
 leaf:k<5->kids=[]
 keyed:if k=6 then keys.length=kids.length else keys=[]
mutual
def ar:JV->Nat | .mk _ _ _ kids _=>1+ay kids
def ay:List JV->Nat | []=>0 | x::r=>ar x+ay r
end
mutual
def gu:Nat->JV->Prop
 | d,.mk k n s kids keys=>oL k n s kids keys/\(5<=k->d≠0)/\dZ (d-1) kids
def dZ:Nat->List JV->Prop
 | _,[]=>True
 | d,x::r=>gu d x/\dZ d r
end
theorem gc {d:Nat}:∀ {xs:List JV},dZ d xs ↔ ∀ x ∈ xs,gu d x
 | []=>by simp [dZ]
 | x::r=>by simp [dZ,gc (xs:=r)]
theorem dY:∀ (xs ys:List JV),ay (xs++ys)=ay xs+ay ys
 | [],ys=>by simp [ay]
 | x::r,ys=>by rw [List.cons_append,ay,ay,dY r ys];omega
theorem oK (xs:List JV) (i:Nat) (x:JV):ay (ez xs i x)=ay xs+ar x:=by
 unfold ez;rw [dY,ay];have:=dY (xs.take i) (xs.drop i);rw [List.take_append_drop] at this;omega
structure rE (d:Nat) (v:JV) (keys:List (List UInt8)) (N:Nat):Prop where
 num:v.num=0
 text:v.txt=[]
 texts:∀ t ∈ v.keys,fp t
 up:UpB v.keys
 right:dZ d v.kids
 nodes:ay v.kids=N
 obj:pN v keys
theorem rE.nil (d:Nat):rE d (.mk 6 0 [] [] []) [] 0:=⟨rfl,rfl,by simp [JV.keys],by simp [JV.keys],trivial,rfl,rfl,rfl,λ s=>Iff.rfl⟩
theorem rE.add {d N:Nat} {v x:JV} {keys:List (List UInt8)} {s:List UInt8} (h:rE d v keys N) (hs:fp s) (hn:s ∉ keys) (hx:gu d x):rE d (ir v s x) (keys++[s]) (N+ar x):=by
 have ho:=h.obj.add s x;obtain ⟨k,n,t,kids,ks⟩:=v;have hk:k=6:=h.obj.kind;have hl:ks.length=kids.length:=h.obj.len;have hns:s ∉ ks:=λ e=>hn ((h.obj.mem s).1 e)
 have e:ir (.mk k n t kids ks) s x=.mk k n t (ez kids (dD s ks kids.length) x) (ez ks (dD s ks kids.length) s):=by
  unfold ir;simp only;rw [if_pos hk]
 rw [e] at ho ⊢;refine ⟨h.num,h.text,λ y hy=>?_,?_,?_,?_,ho⟩
 ·rcases ig.1 hy with h1 | rfl
  ·exact h.texts y h1
  ·exact hs
 ·have:=sN (key:=s) h.up hns;rw [show (JV.mk k n t kids ks).keys.length=kids.length from hl] at this;exact this
 ·refine gc.2 λ y hy=>?_
  rcases ig.1 hy with h1 | rfl
  ·exact gc.1 h.right y h1
  ·exact hx
 ·rw [JV.kids,oK];have:ay kids=N:=h.nodes;omega
section RightR
variable {l:List UInt8}
end RightR
end Go.Proofs.YtgolomgmnanbpaaGreatDoor
namespace Go.Proofs.YtgolomgmnanbpaaGreatDoor
end Go.Proofs.YtgolomgmnanbpaaGreatDoor
namespace Go.Proofs.YtgolomgmnanbpaaGreatDoor
section
open Go.RowKit
def RdF (W:World) (F:Nat->Prop) (A:Option Addr) (xs:List Value):Prop :=
 xs≠[]->∃ b o,A=some ⟨b,o,none⟩/\b<W.heap.size/\F b/\∀ i (h:i<xs.length),W.cell? ⟨b,o+i,none⟩=some xs[i]
def af (F:Nat->Prop) (W W':World):Prop:=W.heap.size<=W'.heap.size/\∀ b,F b->b<W.heap.size->W'.heap[b]? = W.heap[b]?
section
variable {W W':World} {F F':Nat->Prop} {A:Option Addr} {xs:List Value}
theorem RdF.rd (h:RdF W F A xs):Rd W A xs:=λ hn=>by
 obtain ⟨b,o,e,hb,_,hx⟩:=h hn;exact ⟨b,o,e,hb,hx⟩
theorem RdF.nil:RdF W F A []:=λ h=>(h rfl).elim
theorem RdF.keep (h:RdF W F A xs) (hk:af F W W'):RdF W' F A xs:=λ hn=>by
 obtain ⟨b,o,e,hb,hf,hx⟩:=h hn;refine ⟨b,o,e,Nat.lt_of_lt_of_le hb hk.1,hf,λ i hi=>?_⟩;rw [← hx i hi];exact World.cell?_of_block (hk.2 b hf hb)
theorem RdF.mono (h:RdF W F A xs) (hm:∀ b,b<W.heap.size->F b->F' b):RdF W F' A xs:=λ hn=>by
 obtain ⟨b,o,e,hb,hf,hx⟩:=h hn;exact ⟨b,o,e,hb,hm b hb hf,hx⟩
theorem af.of_below (h:Below W.heap.size W W'):af F W W':=⟨h.size,λ b _ hb=>h.block b hb⟩
theorem af.of_grown {g:Option Nat} (h:W.grownBy W' g) (hg:∀ b,F b->some b≠g):af F W W':=⟨h.size,λ b hf hb=>h.block b hb (hg b hf)⟩
theorem af.refl:af F W W:=⟨Nat.le_refl _,λ _ _ _=>rfl⟩
theorem af.trans {W'':World} (h:af F W W') (h':af F W' W''):af F W W'' :=
 ⟨Nat.le_trans h.1 h'.1,λ b hf hb=>(h'.2 b hf (Nat.lt_of_lt_of_le hb h.1)).trans (h.2 b hf hb)⟩
end
theorem af.set {W W':World} {F:Nat->Prop} (h:af F W W') {k:Nat} (hk:∀ b,F b->b≠k) (i:Nat) (u:Value):af F W (W'.setCell ⟨k,i,none⟩ u) :=
 ⟨by simpa using h.1,λ b hf hb=>(Below.heap_setCell W' ⟨k,i,none⟩ u b (hk b hf)).trans (h.2 b hf hb)⟩
theorem af.bel {W W' W'':World} {F:Nat->Prop} (h:af F W W') (hb:Below W'.heap.size W' W''):af F W W'':=h.trans (af.of_below hb)
theorem af.alloc {W W':World} {F:Nat->Prop} (h:af F W W') (o:Obj):af F W (W'.alloc o):=h.bel ((Below.refl _ _).alloc (Nat.le_refl _) o)
def cQ (ks:List (List UInt8)):List Value:=ks.map λ s=>Zt ⟨s.toArray⟩
theorem cP (ks:List (List UInt8)):(cQ ks).length=ks.length:=by simp [cQ]
inductive VR (W:World) (F:Nat->Prop):List Value->JV->Prop where
 | mk {k n:Int} {s:List UInt8} {kids:List JV} {keys:List (List UInt8)} {A B:Option Addr} {ca cb:Nat} {css:List (List Value)} :
   css.length=kids.length->kids.length<=ca->keys.length<=cb->(A=none->ca=0)->(B=none->cb=0)->RdF W F A css.flatten->RdF W F B (cQ keys) ->
   (∀ (i:Nat) c x,css[i]? = some c->kids[i]? = some x->VR W F c x) ->
   VR W F [Zi Zq k,Zi Zq n,Zt ⟨s.toArray⟩,Zs A kids.length ca,Zs B keys.length cb] (.mk k n s kids keys)
section
variable {W W':World} {F F':Nat->Prop} {cs:List Value} {v:JV}
theorem VR.keep (h:VR W F cs v) (hk:af F W W'):VR W' F cs v:=by
 induction h with
 | mk h1 h2 h3 hA hB h4 h5 _ ih=>exact .mk h1 h2 h3 hA hB (h4.keep hk) (h5.keep hk) ih
theorem VR.mono (h:VR W F cs v) (hm:∀ b,b<W.heap.size->F b->F' b):VR W F' cs v:=by
 induction h with
 | mk h1 h2 h3 hA hB h4 h5 _ ih=>exact .mk h1 h2 h3 hA hB (h4.mono hm) (h5.mono hm) ih
theorem VR.bel (h:VR W F cs v) (hb:Below W.heap.size W W'):VR W' F cs v:=h.keep (af.of_below hb)
theorem VR.form (h:VR W F cs v):∃ (k n:Int) (s:ByteArray) (A:Option Addr) (na ca:Nat) (B:Option Addr) (nb cb:Nat),cs=[Zi Zq k,Zi Zq n,Zt s,Zs A na ca,Zs B nb cb]:=by
 cases h;exact ⟨_,_,_,_,_,_,_,_,_,rfl⟩
theorem VR.len (h:VR W F cs v):cs.length=5:=by cases h;rfl
theorem VR.one (h:VR W F cs v):∀ u ∈ cs,u.oneCell'=true:=by
 cases h
 intro u hu;simp only [List.mem_cons,List.not_mem_nil,or_false] at hu;rcases hu with rfl | rfl | rfl | rfl | rfl<;>rfl
theorem VR.atom (k n:Int) (s:List UInt8):VR W F [Zi Zq k,Zi Zq n,Zt ⟨s.toArray⟩,Zs none 0 0,Zs none 0 0] (.mk k n s [] []) :=
 VR.mk (kids:=[]) (keys:=[]) (css:=[]) (ca:=0) (cb:=0) rfl (Nat.le_refl _) (Nat.le_refl _) (λ _=>rfl) (λ _=>rfl) RdF.nil RdF.nil (λ i c x h=>by simp at h)
theorem VR.zero:VR W F [Zi Zq 0,Zi Zq 0,Zt ⟨#[]⟩,Zs none 0 0,Zs none 0 0] eP:=VR.atom 0 0 []
end
def VRs (W:World) (F:Nat->Prop) (css:List (List Value)) (xs:List JV):Prop:=css.length=xs.length/\∀ (i:Nat) c x,css[i]? = some c->xs[i]? = some x->VR W F c x
section
variable {W W':World} {F F':Nat->Prop} {css:List (List Value)} {xs:List JV}
theorem VRs.keep (h:VRs W F css xs) (hk:af F W W'):VRs W' F css xs:=⟨h.1,λ i c x h1 h2=>(h.2 i c x h1 h2).keep hk⟩
theorem VRs.mono (h:VRs W F css xs) (hm:∀ b,b<W.heap.size->F b->F' b):VRs W F' css xs:=⟨h.1,λ i c x h1 h2=>(h.2 i c x h1 h2).mono hm⟩
theorem VRs.below (h:VRs W F css xs) (hb:Below W.heap.size W W'):VRs W' F css xs:=h.keep (af.of_below hb)
theorem VRs.nil:VRs W F [] []:=⟨rfl,λ i c x h=>by simp at h⟩
theorem eH:∀ {css:List (List Value)},(∀ c ∈ css,c.length=5)->css.flatten.length=css.length*5
 | [],_=>rfl
 |c::r,h=>by
  rw [List.flatten_cons,List.length_append,h c List.mem_cons_self,eH (λ c hc=>h c (List.mem_cons_of_mem _ hc)),List.length_cons];omega
theorem iF:∀ {css:List (List Value)} (_:∀ c ∈ css,c.length=5) {i:Nat} {c:List Value} (_:css[i]? = some c) {j:Nat} (_:j<5),css.flatten[i*5+j]? = c[j]?
 | [],_,i,c,h,_,_=>by simp at h
 |c'::r,h5,0,c,h,j,hj=>by
  have:c'=c:=by simpa using h
  subst this;rw [List.flatten_cons,Nat.zero_mul,Nat.zero_add,List.getElem?_append_left (by rw [h5 c' List.mem_cons_self];exact hj)]
 |c'::r,h5,i+1,c,h,j,hj=>by
  have h':r[i]? = some c:=by simpa using h
  have hl:=h5 c' List.mem_cons_self;rw [List.flatten_cons,List.getElem?_append_right (by omega),← iF (λ c hc=>h5 c (List.mem_cons_of_mem _ hc)) h' hj];congr 1;omega
theorem VRs.five (h:VRs W F css xs):∀ c ∈ css,c.length=5:=λ c hc=>by
 obtain ⟨i,hi,rfl⟩:=List.getElem_of_mem hc;have hx:i<xs.length:=by rw [← h.1];exact hi
 exact (h.2 i _ _ (List.getElem?_eq_getElem hi) (List.getElem?_eq_getElem hx)).len
theorem VRs.flat (h:VRs W F css xs):css.flatten.length=xs.length*5:=by rw [eH h.five,h.1]
theorem VRs.one (h:VRs W F css xs):∀ u ∈ css.flatten,u.oneCell'=true:=λ u hu=>by
 obtain ⟨c,hc,hu⟩:=List.mem_flatten.1 hu;obtain ⟨i,hi,rfl⟩:=List.getElem_of_mem hc;have hx:i<xs.length:=by rw [← h.1];exact hi
 exact (h.2 i _ _ (List.getElem?_eq_getElem hi) (List.getElem?_eq_getElem hx)).one u hu
theorem VRs.snoc {c:List Value} {x:JV} (h:VRs W F css xs) (hx:VR W F c x):VRs W F (css++[c]) (xs++[x]):=by
 refine ⟨by simp [h.1],λ i c' x' h1 h2=>?_⟩;rcases Nat.lt_or_ge i css.length with hi | hi
 ·rw [List.getElem?_append_left hi] at h1;rw [List.getElem?_append_left (by rw [← h.1];exact hi)] at h2;exact h.2 i c' x' h1 h2
 ·rw [List.getElem?_append_right hi] at h1;rw [List.getElem?_append_right (by rw [← h.1];exact hi)] at h2;have:i-css.length=0:=by
   rcases Nat.eq_zero_or_pos (i-css.length) with h0 | h0
   ·exact h0
   ·rw [List.getElem?_eq_none (by simp;omega)] at h1;cases h1
  rw [this] at h1;rw [← h.1,this] at h2;obtain rfl:c=c':=by simpa using h1
  obtain rfl:x=x':=by simpa using h2
  exact hx
theorem VRs.get_ {i:Nat} {x:JV} (h:VRs W F css xs) (hx:xs[i]? = some x):∃ c,css[i]? = some c/\VR W F c x:=by
 have hi:i<css.length:=by rw [h.1];exact (List.getElem?_eq_some_iff.1 hx).1
 exact ⟨_,List.getElem?_eq_getElem hi,h.2 i _ x (List.getElem?_eq_getElem hi) hx⟩
theorem VRs.take (h:VRs W F css xs) (n:Nat):VRs W F (css.take n) (xs.take n):=by
 refine ⟨by simp [h.1],λ i c x h1 h2=>?_⟩;rw [List.getElem?_take] at h1 h2;split at h1
 ·rename_i hi;rw [if_pos hi] at h2;exact h.2 i c x h1 h2
 ·cases h1
theorem VRs.drop (h:VRs W F css xs) (n:Nat):VRs W F (css.drop n) (xs.drop n):=by
 refine ⟨by simp [h.1],λ i c x h1 h2=>?_⟩;rw [List.getElem?_drop] at h1 h2;exact h.2 _ c x h1 h2
theorem VRs.append {css':List (List Value)} {xs':List JV} (h:VRs W F css xs) (h':VRs W F css' xs'):VRs W F (css++css') (xs++xs'):=by
 refine ⟨by simp [h.1,h'.1],λ i c x h1 h2=>?_⟩;rcases Nat.lt_or_ge i css.length with hi | hi
 ·rw [List.getElem?_append_left hi] at h1;rw [List.getElem?_append_left (by rw [← h.1];exact hi)] at h2;exact h.2 i c x h1 h2
 ·rw [List.getElem?_append_right hi] at h1;rw [List.getElem?_append_right (by rw [← h.1];exact hi),← h.1] at h2;exact h'.2 _ c x h1 h2
end
theorem VR.out {W:World} {F:Nat->Prop} {cs:List Value} {k n:Int} {s:List UInt8} {kids:List JV} {keys:List (List UInt8)} (h:VR W F cs (.mk k n s kids keys)) :
  ∃ A B ca cb css,cs=[Zi Zq k,Zi Zq n,Zt ⟨s.toArray⟩,Zs A kids.length ca,Zs B keys.length cb]/\VRs W F css kids/\kids.length<=ca/\keys.length<=cb/\(A=none->ca=0)/\(B=none->cb=0)/\RdF W F A css.flatten/\RdF W F B (cQ keys):=by
 cases h with
 | mk h1 h2 h3 hA hB h4 h5 h6=>exact ⟨_,_,_,_,_,rfl,⟨h1,h6⟩,h2,h3,hA,hB,h4,h5⟩
theorem VR.into {W:World} {F:Nat->Prop} {A B:Option Addr} {ca cb:Nat} {css:List (List Value)} (k n:Int) (s:List UInt8) {kids:List JV} {keys:List (List UInt8)} (h:VRs W F css kids) (h2:kids.length<=ca) (h3:keys.length<=cb) (hA:A=none->ca=0) (hB:B=none->cb=0)
  (h4:RdF W F A css.flatten) (h5:RdF W F B (cQ keys)) {na nb:Nat} (hna:na=kids.length) (hnb:nb=keys.length):VR W F [Zi Zq k,Zi Zq n,Zt ⟨s.toArray⟩,Zs A na ca,Zs B nb cb] (.mk k n s kids keys):=by
 subst hna hnb;exact .mk h.1 h2 h3 hA hB h4 h5 h.2
theorem gC {w w':World} (h:Below w.heap.size w w') (row:Option Nat):w.grownBy w' row:=⟨h.os,h.tape,h.output,h.size,λ k hk _=>h.block k hk⟩
theorem dG {w w':World} {base:Nat} {e:TypeId} {size n:Nat} {v:Value} {xs:List Value} (h:w.ownsRow base e size v n xs) (hb:Below w.heap.size w w'):w'.ownsRow base e size v n xs :=
 h.kept (gC hb none) (by cases v.ownBlock<;>simp)
theorem oN8 (n:Nat) (h:n<256):(UInt8.ofNat n).toNat=n:=by
 have:(UInt8.ofNat n).toNat=n % 256:=by simp
 rw [this];omega
theorem bX (c:Nat) (r:List UInt8) (h:eC (c:Int)=true):am (ai c++r)=(c,(ai c).length)/\1<=(ai c).length/\(ai c).length<=4:=by
 have hc:=(d8 c).1 h;by_cases h1:c<128
 ·obtain ⟨c0,e0,h0⟩:∃ c0:UInt8,UInt8.ofNat c=c0/\c0.toNat=c:=⟨_,rfl,oN8 _ (by omega)⟩
  have e:ai c=[c0]:=by unfold ai;rw [if_pos h1,e0]
  rw [e,List.cons_append,List.nil_append,fB ((ok1 c0 r).2 (by omega))];refine ⟨?_,by simp,by simp⟩;have:aQ (c0::r) 1=c0.toNat:=by simp [aQ]
  rw [this,h0];rfl
 by_cases h2:c<2048
 ·obtain ⟨c0,e0,h0⟩:∃ c0:UInt8,UInt8.ofNat (192+c / 64)=c0/\c0.toNat=192+c / 64:=⟨_,rfl,oN8 _ (by omega)⟩
  obtain ⟨c1,e1,k1⟩:∃ c1:UInt8,UInt8.ofNat (128+c % 64)=c1/\c1.toNat=128+c % 64:=⟨_,rfl,oN8 _ (by omega)⟩
  have e:ai c=[c0,c1]:=by unfold ai;rw [if_neg h1,if_pos h2,e0,e1]
  have n1:bi (c0::c1::r) 1=false:=by rw [Bool.eq_false_iff,Ne,ok1];omega
  rw [e];show am (c0::c1::r)=_/\_
  rw [jn n1 ((ok2 c0 c1 r).2 (by omega))];refine ⟨?_,by simp,by simp⟩;have:aQ (c0::c1::r) 2=c0.toNat % 32*64+c1.toNat % 64:=by simp [aQ]
  rw [this,h0,k1];show (_,2)=(_,2)
  congr 1;omega
 by_cases h3:c<65536
 ·obtain ⟨c0,e0,h0⟩:∃ c0:UInt8,UInt8.ofNat (224+c / 4096)=c0/\c0.toNat=224+c / 4096:=⟨_,rfl,oN8 _ (by omega)⟩
  obtain ⟨c1,e1,k1⟩:∃ c1:UInt8,UInt8.ofNat (128+c / 64 % 64)=c1/\c1.toNat=128+c / 64 % 64:=⟨_,rfl,oN8 _ (by omega)⟩
  obtain ⟨c2,e2,k2⟩:∃ c2:UInt8,UInt8.ofNat (128+c % 64)=c2/\c2.toNat=128+c % 64:=⟨_,rfl,oN8 _ (by omega)⟩
  have e:ai c=[c0,c1,c2]:=by unfold ai;rw [if_neg h1,if_neg h2,if_pos h3,e0,e1,e2]
  have n1:bi (c0::c1::c2::r) 1=false:=by rw [Bool.eq_false_iff,Ne,ok1];omega
  have n2:bi (c0::c1::c2::r) 2=false:=no2 _ _ (by omega);rw [e];show am (c0::c1::c2::r)=_/\_
  rw [jp n1 n2 ((ok3 c0 c1 c2 r).2 (by omega))];refine ⟨?_,by simp,by simp⟩;have:aQ (c0::c1::c2::r) 3=(c0.toNat % 16*64+c1.toNat % 64)*64+c2.toNat % 64:=by simp [aQ]
  rw [this,h0,k1,k2];show (_,3)=(_,3)
  congr 1;omega
 ·obtain ⟨c0,e0,h0⟩:∃ c0:UInt8,UInt8.ofNat (240+c / 262144)=c0/\c0.toNat=240+c / 262144:=⟨_,rfl,oN8 _ (by omega)⟩
  obtain ⟨c1,e1,k1⟩:∃ c1:UInt8,UInt8.ofNat (128+c / 4096 % 64)=c1/\c1.toNat=128+c / 4096 % 64:=⟨_,rfl,oN8 _ (by omega)⟩
  obtain ⟨c2,e2,k2⟩:∃ c2:UInt8,UInt8.ofNat (128+c / 64 % 64)=c2/\c2.toNat=128+c / 64 % 64:=⟨_,rfl,oN8 _ (by omega)⟩
  obtain ⟨c3,e3,k3⟩:∃ c3:UInt8,UInt8.ofNat (128+c % 64)=c3/\c3.toNat=128+c % 64:=⟨_,rfl,oN8 _ (by omega)⟩
  have e:ai c=[c0,c1,c2,c3]:=by unfold ai;rw [if_neg h1,if_neg h2,if_neg h3,e0,e1,e2,e3]
  have n1:bi (c0::c1::c2::c3::r) 1=false:=by rw [Bool.eq_false_iff,Ne,ok1];omega
  have n2:bi (c0::c1::c2::c3::r) 2=false:=no2 _ _ (by omega);have n3:bi (c0::c1::c2::c3::r) 3=false:=no3 _ _ (by omega);rw [e];show am (c0::c1::c2::c3::r)=_/\_
  rw [jd n1 n2 n3 ((ok4 c0 c1 c2 c3 r).2 (by omega))];refine ⟨?_,by simp,by simp⟩;have:aQ (c0::c1::c2::c3::r) 4=((c0.toNat % 8*64+c1.toNat % 64)*64+c2.toNat % 64)*64+c3.toNat % 64:=by simp [aQ]
  rw [this,h0,k1,k2,k3];show (_,4)=(_,4)
  congr 1;omega
theorem pE {cs:List Nat} (h:∀ c ∈ cs,eC (c:Int)=true):cs.length<=(cs.flatMap ai).length/\(cs.flatMap ai).length<=4*cs.length:=by
 induction cs with
 | nil=>simp
 |cons c r ih =>
  have h1:=bX c [] (h c List.mem_cons_self);have h2:=ih (λ x hx=>h x (List.mem_cons_of_mem _ hx));rw [List.flatMap_cons,List.length_append,List.length_cons];omega
theorem bB {W:World} {b o:Nat} {ks:List (List UInt8)} {n:Nat} (h:RdF W (λ _=>True) (some ⟨b,o,none⟩) (cQ ks)) {i:Nat} {t:List UInt8} (hx:ks[i]? = some t):W.cell? ⟨b,o+i,none⟩=some (Zt ⟨t.toArray⟩):=by
 have hkl:=List.getElem?_eq_some_iff.1 hx;obtain ⟨b',o',e,_,_,hc⟩:=h (by intro e;have h:=cP ks;rw [e] at h;have:=hkl.1;simp at h;omega);injection e with e;injection e with e1 e2
 subst e1;subst e2;rw [hc i (by rw [cP];exact hkl.1)];simp [cQ,hkl.2]
theorem bY {W:World} {F:Nat->Prop} {A:Option Addr} {ks:List (List UInt8)} (h:RdF W F A (cQ ks)) (hx:0<ks.length):∃ b o,A=some ⟨b,o,none⟩/\b<W.heap.size:=by
 obtain ⟨b,o,e,hb,_⟩:=h (by intro e;have h:=cP ks;rw [e] at h;simp at h;omega);exact ⟨b,o,e,hb⟩
theorem bj (v:JV):1<=ar v:=by cases v;unfold ar;omega
theorem ke:∀ xs:List JV,xs.length<=ay xs
 | []=>Nat.zero_le _
 | x::r=>by have:=ke r;have:=bj x;rw [ay,List.length_cons];omega
theorem bO {xs:List JV} {i:Nat} {x:JV} (h:xs[i]? = some x):ay (xs.take (i+1))=ay (xs.take i)+ar x/\ay (xs.take i)+ar x<=ay xs:=by
 have e:ay (xs.take (i+1))=ay (xs.take i)+ar x:=by rw [List.take_add_one,h,dY];show _+ay [x]=_;rw [ay,ay];omega
 refine ⟨e,?_⟩;have:=dY (xs.take (i+1)) (xs.drop (i+1));rw [List.take_append_drop] at this;omega
def kB:Nat->List UInt8->Bool
 | _,[]=>true
 | 0,_::_=>false
 | f+1,c::r=>if (am (c::r)).2=0 then false else kB f ((c::r).drop (am (c::r)).2)
def aL (l:List UInt8):Bool:=kB l.length l
theorem jD:∀ (f g:Nat) (l:List UInt8),l.length<=f->l.length<=g->kB f l=kB g l
 | f,g,[],_,_=>by cases f<;>cases g<;>rfl
 | 0,_,_::_,h,_=>by simp at h
 | _+1,0,_::_,_,h=>by simp at h
 |f+1,g+1,c::r,h,h'=>by
  unfold kB;split
  ·rfl
  ·rename_i hn
   refine jD f g _ ?_ ?_ <;> · rw [List.length_drop,List.length_cons] at *;omega
theorem qD:aL []=true:=rfl
theorem cV {l:List UInt8} (h:l≠[]):aL l=(if (am l).2=0 then false else aL (l.drop (am l).2)):=by
 cases l with
 | nil=>exact absurd rfl h
 |cons c r =>
  show kB (r.length+1) (c::r)=_
  unfold kB;split
  ·rfl
  ·rename_i hn
   refine jD _ _ _ ?_ ?_ <;> · rw [List.length_drop,List.length_cons];omega
theorem lu:∀ {cs:List Nat},(∀ c ∈ cs,eC (c:Int)=true)->aL (cs.flatMap ai)=true
 | [],_=>rfl
 |c::r,h=>by
  obtain ⟨h1,h2,h3⟩:=bX c (r.flatMap ai) (h c List.mem_cons_self);rw [List.flatMap_cons,cV (by intro e;have h:=congrArg List.length e;rw [List.length_append] at h;simp only [List.length_nil] at h;omega),h1,if_neg (by show ¬ (ai c).length=0;omega)];show aL ((ai c++_).drop (ai c).length)=_
  rw [List.drop_left];exact lu (λ x hx=>h x (List.mem_cons_of_mem _ hx))
theorem fp.ok {s:List UInt8} (h:fp s):aL s=true:=by
 obtain ⟨cs,h1,rfl,_⟩:=h;exact lu h1
theorem fm (l:List UInt8):(am l).2<=l.length/\(am l).2<=4:=⟨iV l,oU l⟩
def bI:List (List UInt8)->Bool
 | []=>true
 | k::r=>aL k && ((match r with | []=>true | k'::_=>ltB k k') && bI r)
theorem eh:∀ {keys:List (List UInt8)},bI keys=true ↔ (∀ t ∈ keys,aL t=true)/\UpB keys
 | []=>by simp [bI]
 | [k]=>by simp [bI]
 |k::k'::r=>by
  have ih:=eh (keys:=k'::r);unfold bI;rw [Bool.and_eq_true,Bool.and_eq_true,ih];show aL k=true/\ltB k k'=true/\_ ↔ _
  constructor
  ·rintro ⟨h1,h2,h3,h4⟩;refine ⟨λ t ht=>?_,List.pairwise_cons.2 ⟨λ y hy=>?_,h4⟩⟩
   ·rcases List.mem_cons.1 ht with rfl | ht
    ·exact h1
    ·exact h3 t ht
   ·rcases List.mem_cons.1 hy with rfl | hy
    ·exact h2
    ·exact dv h2 ((List.pairwise_cons.1 h4).1 y hy)
  ·rintro ⟨h1,h2⟩;have h2:=List.pairwise_cons.1 h2;exact ⟨h1 k List.mem_cons_self,h2.1 k' List.mem_cons_self,λ t ht=>h1 t (List.mem_cons_of_mem _ ht),h2.2⟩
def aI (k n:Int) (s:List UInt8) (nk:Nat) (keys:List (List UInt8)):Bool :=
 if k=1 then n == 0 && s == [] && nk == 0 && keys == []
 else if k=2 then (n == 0 || n == 1) && s == [] && nk == 0 && keys == []
 else if k=3 then s == [] && nk == 0 && keys == []
 else if k=4 then n == 0 && aL s && nk == 0 && keys == []
 else if k=5 then n == 0 && s == [] && keys == []
 else if k=6 then n == 0 && s == [] && nk == keys.length && bI keys
 else false
mutual
/-- right within so many levels -/
def aN:Nat->JV->Bool
 | d,.mk k n s kids keys=>aI k n s kids.length keys && (decide (5<=k->d≠0) && bz (d-1) kids)
def bz:Nat->List JV->Bool
 | _,[]=>true
 | d,x::r=>aN d x && bz d r
end
theorem bC {d:Nat}:∀ {xs:List JV},bz d xs=true ↔ ∀ x ∈ xs,aN d x=true
 | []=>by simp [bz]
 | x::r=>by simp [bz,bC (xs:=r)]
def good (v:JV):Bool:=aN 8 v && decide (ar v<=256)
theorem aH {k n:Int} {s:List UInt8} {nk:Nat} {keys:List (List UInt8)} (h:aI k n s nk keys=true):1<=k/\k<=6:=by
 unfold aI at h;split at h
 ·omega
 split at h
 ·omega
 split at h
 ·omega
 split at h
 ·omega
 split at h
 ·omega
 split at h
 ·omega
 ·cases h
theorem dz {k n:Int} {s:List UInt8} {nk:Nat} {keys:List (List UInt8)} (h:aI k n s nk keys=true) (hk:k<5):nk=0/\keys=[]:=by
 have:=aH h;unfold aI at h;split at h
 ·simp only [Bool.and_eq_true,beq_iff_eq] at h;exact ⟨h.1.2,h.2⟩
 split at h
 ·simp only [Bool.and_eq_true,beq_iff_eq] at h;exact ⟨h.1.2,h.2⟩
 split at h
 ·simp only [Bool.and_eq_true,beq_iff_eq] at h;exact ⟨h.1.2,h.2⟩
 split at h
 ·simp only [Bool.and_eq_true,beq_iff_eq] at h;exact ⟨h.1.2,h.2⟩
 ·omega
theorem eT {n:Int} {s:List UInt8} {nk:Nat} {keys:List (List UInt8)} (h:aI 5 n s nk keys=true):n=0/\s=[]/\keys=[]:=by
 unfold aI at h;simp at h;exact ⟨h.1.1,h.1.2,h.2⟩
theorem dx {n:Int} {s:List UInt8} {nk:Nat} {keys:List (List UInt8)} (h:aI 6 n s nk keys=true):n=0/\s=[]/\nk=keys.length/\bI keys=true:=by
 unfold aI at h;simp at h;exact ⟨h.1.1.1,h.1.1.2,h.1.2,h.2⟩
theorem oL.good {k n:Int} {s:List UInt8} {kids:List JV} {keys:List (List UInt8)} (h:oL k n s kids keys):aI k n s kids.length keys=true:=by
 have hk:=h.kind;have hky:=h.keyed;have ht:=h.text;have hl:=h.leaf;have hn:=h.num;have hk7:k=1∨k=2∨k=3∨k=4∨k=5∨k=6:=by omega
 rcases hk7 with rfl | rfl | rfl | rfl | rfl | rfl
 ·have h1:=hl (by decide);have h2:=hn (by decide);simp at ht hky h2;subst h1 ht hky h2;rfl
 ·have h1:=hl (by decide);have h2:=hn (by decide);simp at ht hky h2;subst h1 ht hky;rcases h2 with rfl | rfl<;>rfl
 ·have h1:=hl (by decide);simp at ht hky;subst h1 ht hky;rfl
 ·have h1:=hl (by decide);have h2:=hn (by decide);simp at ht hky h2;subst h1 hky h2;have:=ht.ok;simp [aI,this]
 ·have h2:=hn (by decide);simp at ht hky h2;subst ht hky h2;simp [aI]
 ·have h2:=hn (by decide);simp at ht hky h2;subst ht h2;have:=eh.2 ⟨λ t htt=>(h.texts t htt).ok,h.up⟩;simp [aI,this,hky]
mutual
theorem gu.good:∀ {d:Nat} {v:JV},gu d v->aN d v=true
 |d,.mk k n s kids keys,h=>by
  unfold gu at h;unfold aN;rw [h.1.good,dZ.good h.2.2];rw [decide_eq_true h.2.1];rfl
theorem dZ.good:∀ {d:Nat} {xs:List JV},dZ d xs->bz d xs=true
 | _,[],_=>by simp [bz]
 |d,x::r,h=>by
  unfold dZ at h;unfold bz;rw [gu.good h.1,dZ.good h.2];rfl
end
def TT:Nat->Prop:=λ _=>True
def iw (n:Int):Prop:=-9223372036854775808<=n/\n<=9223372036854775807
mutual
def inJ:JV->Prop | .mk k n s kids keys=>iw k/\iw n/\inL kids
def inL:List JV->Prop | []=>True | x::r=>inJ x/\inL r
end
theorem lM:∀ {xs:List JV},inL xs ↔ ∀ x ∈ xs,inJ x
 | []=>by simp [inL]
 | x::r=>by simp [inL,lM (xs:=r)]
def bN:List (List UInt8)->Nat | []=>0 | k::r=>k.length+1+bN r
mutual
/-- how much a value is -/
def cr:JV->Nat | .mk k n s kids keys=>1+s.length+bN keys+cJ kids
def cJ:List JV->Nat | []=>0 | x::r=>cr x+cJ r
end
theorem lH (v:JV):1<=cr v:=by cases v;unfold cr;omega
theorem li:∀ ks:List (List UInt8),ks.length<=bN ks
 | []=>Nat.zero_le _
 | k::r=>by have:=li r;unfold bN;rw [List.length_cons];omega
theorem nd:∀ {ks:List (List UInt8)} {t:List UInt8},t ∈ ks->t.length+1<=bN ks
 |k::r,t,h=>by
  unfold bN;rcases List.mem_cons.1 h with rfl | h
  ·omega
  ·have:=nd h;omega
theorem kV:∀ xs:List JV,xs.length<=cJ xs
 | []=>Nat.zero_le _
 | x::r=>by have:=kV r;have:=lH x;unfold cJ;rw [List.length_cons];omega
mutual
theorem jX:∀ v:JV,ar v<=cr v
 | .mk k n s kids keys=>by have:=iR kids;unfold ar cr;omega
theorem iR:∀ xs:List JV,ay xs<=cJ xs
 | []=>Nat.le_refl _
 | x::r=>by have:=jX x;have:=iR r;unfold ay cJ;omega
end
mutual
/-- the lengths of a value's parts -/
def kH:JV->Prop | .mk k n s kids keys=>s.length<=4194304/\kids.length<=4194304/\keys.length<=4194304/\(∀ t ∈ keys,t.length<=4194304)/\kG kids
def kG:List JV->Prop | []=>True | x::r=>kH x/\kG r
end
theorem jT:∀ {xs:List JV},kG xs ↔ ∀ x ∈ xs,kH x
 | []=>by simp [kG]
 | x::r=>by simp [kG,jT (xs:=r)]
mutual
theorem lJ:∀ v:JV,cr v<=4194304->kH v
 | .mk k n s kids keys,h=>by
  unfold cr at h;have:=li keys;have:=kV kids;unfold kH;exact ⟨by omega,by omega,by omega,λ t ht=>by have:=nd ht;omega,lK kids (by omega)⟩
theorem lK:∀ xs:List JV,cJ xs<=4194304->kG xs
 | [],_=>trivial
 | x::r,h=>by unfold cJ at h;unfold kG;exact ⟨lJ x (by omega),lK r (by omega)⟩
end
theorem eS:∀ {xs:List JV} {x:JV},x ∈ xs->ar x<=ay xs
 |y::r,x,h=>by
  unfold ay;rcases List.mem_cons.1 h with rfl | h
  ·omega
  ·have:=eS h;omega
structure au (v:JV):Prop where
 ints:inJ v
 nodes:ar v<=4194304
 lens:kH v
theorem au.of {v:JV} (h1:inJ v) (h2:cr v<=4194304):au v:=⟨h1,Nat.le_trans (jX v) h2,lJ v h2⟩
theorem au.out {k n:Int} {s:List UInt8} {kids:List JV} {keys:List (List UInt8)} (h:au (.mk k n s kids keys)) :
  iw k/\iw n/\s.length<=4194304/\kids.length<=4194304/\keys.length<=4194304/\(∀ t ∈ keys,t.length<=4194304)/\∀ x ∈ kids,au x:=by
 obtain ⟨h1,h2,h3⟩:=h;unfold inJ at h1;unfold ar at h2;unfold kH at h3;refine ⟨h1.1,h1.2.1,h3.1,h3.2.1,h3.2.2.1,h3.2.2.2.1,λ x hx=>⟨lM.1 h1.2.2 x hx,?_,jT.1 h3.2.2.2.2 x hx⟩⟩;have:=eS hx;omega
instance:Inhabited JV:=⟨eP⟩
end
section
open Go.RowKit
attribute [local go_sem] aa ac ae ab
theorem o5 (q:Nat) (w:World):Calls Tryz.prog 161 #[Zi .u8 q] w λ e w'=>e=.returned (.bool (decide (97<=q/\q<=122)))/\w=w':=by
 go_enter Tryz.func161,Tryz.ntmps161;go_wp2
 all_goals
  go_ret;exact ⟨ap (by rw [Bool.eq_iff_iff];simp;try omega),rfl⟩
theorem qi (q:Nat) (w:World):Calls Tryz.prog 162 #[Zi .u8 q] w λ e w'=>e=.returned (.bool (decide (48<=q/\q<=57)))/\w=w':=by
 go_enter Tryz.func162,Tryz.ntmps162;go_wp2
 all_goals
  go_ret;exact ⟨ap (by rw [Bool.eq_iff_iff];simp;try omega),rfl⟩
theorem qA {a b:ByteArray} (h:(a.toList == b.toList)=true):a=b:=by
 have:a.toList=b.toList:=by simpa using h
 rw [ByteArray.toList_eq,ByteArray.toList_eq] at this;exact fI this
theorem qr {a b:ByteArray} (h:(a.toList == b.toList)=false):a≠b:=by rintro rfl;simp at h
def e8:List (List UInt8):=[[101,109,105,116],[105,102],[101,108,115,101],[102,111,114],[105,110],[111,114],[97,110,100],[110,111,116],[115,105,122,101],[107,105,110,100],[116,114,117,101],[102,97,108,115,101],[110,117,108,108]]
def rM:Value:=.agg (e8.map λ l=>Value.string ⟨l.toArray⟩).toArray
theorem qJ (w:World):Calls Tryz.prog 187 #[] w λ e w'=>e=.returned rM/\Below w.heap.size w w':=by
 go_enter Tryz.func187,Tryz.ntmps187;go_wp2;go_returns;exact ⟨rfl,by go_grown⟩
theorem rX (k:Nat) (h:k<13) (w:World):(Instr.index 210 rM (Zi Zq (k:Int))).run Tryz.prog w=.ok (Zt ⟨(e8.getD k []).toArray⟩) w:=by
 rcases (by omega:k=0∨k=1∨k=2∨k=3∨k=4∨k=5∨k=6∨k=7∨k=8∨k=9∨k=10∨k=11∨k=12) with rfl | rfl | rfl | rfl | rfl | rfl | rfl | rfl | rfl | rfl | rfl | rfl | rfl<;>kernel_rfl
def fe (l:List UInt8):Bool:=decide (l ∈ e8)
theorem ru (s:ByteArray) (w:World):Calls Tryz.prog 163 #[Zt s] w λ e w'=>e=.returned (.bool (fe (sl s)))/\Below w.heap.size w w':=by
 go_enter Tryz.func163,Tryz.ntmps163;go_wp2_with (go_at_call 187;refine (qJ _).mono ?_;rintro e w1 ⟨rfl,hb⟩);go_loopw [4,6] (λ _ i wr => ∃ k:Nat,k<=13/\i=Zi Zq k/\wr=w1/\∀ j,j<k->e8.getD j []≠sl s) (λ _ i _=>13-(intOf i).toNat)
 case atStart=>exact ⟨0,by omega,rfl,rfl,by intro j hj;omega⟩
 case round =>
  obtain ⟨k,hk,rfl,rfl,hno⟩:=hrel;have HN:=aW hno;clear hno;by_cases h13:k<13
  ·have hix:=rX k h13 wr;obtain ⟨x,hx⟩:∃ x:ByteArray,⟨(e8.getD k []).toArray⟩=x:=⟨_,rfl⟩
   rw [hx] at hix;have HX:=aW hx;clear hx;go_wp2
   ·have hq:x=s:=qA ‹(x.toList == s.toList)=true›;go_ret;refine ⟨ap ?_,hb⟩;have:sl s ∈ e8:=by
     rw [← hq,← HX.out,fW,List.getD_eq_getElem?_getD,List.getElem?_eq_getElem (show k<e8.length from h13)];exact List.getElem_mem _
    simp [fe,this]
   ·have hq:x≠s:=qr ‹(x.toList == s.toList)=false›;go_roundw
    case rel =>
     refine ⟨k+1,by omega,by go_num,trivial,?_⟩;intro j hj;by_cases hjk:j=k
     ·rw [hjk];intro e;exact hq (by rw [← HX.out,e])
     ·exact HN.out j (by omega)
    case measure=>simp [intOf];omega
  ·obtain rfl:k=13:=by omega
   go_wp2;go_ret;refine ⟨ap ?_,hb⟩;have:sl s ∉ e8:=λ hm=>by
    obtain ⟨j,hj,e⟩:=List.getElem_of_mem hm;exact HN.out j hj (by rw [List.getD_eq_getElem?_getD,List.getElem?_eq_getElem hj];exact e)
   simp [fe,this]
def dj (c:UInt8):Bool:=decide (97<=c.toNat/\c.toNat<=122)
def aR:Nat->List UInt8->Bool
 | _,[]=>true
 | i,c::r=>(dj c || (decide (0<i) && gB c)) && aR (i+1) r
def bF (s:ByteArray):Bool:=aR 0 (sl s) && (decide (1<=s.size/\s.size<=12) && !fe (sl s))
theorem eK (w:World) (s:ByteArray) (p:Nat):Below w.heap.size w (w.iter s p):=(Below.refl _ w).alloc (Nat.le_refl _) _
theorem jB (s:ByteArray) (w:World):Calls Tryz.prog 120 #[Zt s] w λ e w'=>e=.returned (.bool (bF s))/\Below w.heap.size w w':=by
 go_enter Tryz.func120,Tryz.ntmps120;go_wp2;go_loopw [3] (λ _ wr => ∃ pos:Nat,wr=w.iter s pos/\pos<=s.size/\aR 0 (sl s)=aR pos ((sl s).drop pos)) (λ _ wr=>s.size-wr.iterPos w.heap.size)
 case atStart=>exact ⟨0,rfl,by omega,by simp⟩
 case round =>
  obtain ⟨pos,rfl,hp,hn⟩:=hrel;by_cases hlt:pos<s.size
  ·have hnext:=λ ty=>run_next_any (P:=Tryz.prog) w s pos ty hlt
   have hd:(sl s).drop pos=s[pos]::(sl s).drop (pos+1):=List.drop_eq_getElem_cons (by rw [bR];exact hlt);rw [hd] at hn;obtain ⟨c,hc⟩:∃ c,s[pos]=c:=⟨_,rfl⟩
   by_cases hhi:128<=c.toNat
   ·have h1:=(decode_high s pos hlt (by rw [hc];exact hhi)).1;obtain ⟨⟨r,k⟩,hr⟩:∃ r,Utf8.decode s pos=r:=⟨_,rfl⟩
    rw [hr] at hnext h1;have HF:=aW (show aR 0 (sl s)=false by
     rw [hn,hc,aR];have e1:dj c=false:=by simp [dj];omega
     have e2:gB c=false:=by simp [gB];omega
     rw [e1,e2];simp)
    clear hn hd hc hr;obtain ⟨x,hx⟩:∃ x:Int,(r:Int)=x:=⟨_,rfl⟩
    rw [hx] at hnext;have h2:128<=x:=by omega
    clear hx;go_wp2;go_ret;exact ⟨ap (by rw [bF,HF.out];rfl),eK w s _⟩
   ·have h1:=decode_ascii s pos hlt (by rw [hc];omega);rw [hc] at h1;rw [h1] at hnext;obtain ⟨b1,hb1⟩:∃ b,dj c=b:=⟨_,rfl⟩
    obtain ⟨b2,hb2⟩:∃ b,gB c=b:=⟨_,rfl⟩
    have hl:=λ w=>o5 c.toNat w
    have hg:=λ w=>qi c.toNat w
    rw [show decide (97<=c.toNat/\c.toNat<=122)=b1 from hb1] at hl;rw [show decide (48<=c.toNat/\c.toNat<=57)=b2 from hb2] at hg;have HL:=aW hl;have HG:=aW hg;have hnf:aR 0 (sl s)=((b1 || (decide (0<pos) && b2)) && aR (pos+1) ((sl s).drop (pos+1))):=by rw [hn,hc,aR,hb1,hb2]
    have HF:=aW hnf;clear hn hd hc h1 hl hg hnf hb1 hb2;have hc128:c.toNat<128:=by omega
    clear hhi;obtain ⟨q,hq⟩:∃ q,c.toNat=q:=⟨_,rfl⟩
    rw [hq] at hnext hc128 HL HG;clear hq;cases b1
    ·by_cases h0:pos=0
     ·subst h0;go_wp2_with (first | (go_at_call 161;refine (HL.out _).mono ?_;rintro e w1 ⟨rfl,rfl⟩) | (go_at_call 162;refine (HG.out _).mono ?_;rintro e w1 ⟨rfl,rfl⟩));go_ret;exact ⟨ap (by rw [bF,HF.out];rfl),eK w s _⟩
     ·have hp0:((pos:Int) == 0)=false:=by simp;omega
      cases b2
      ·go_wp2_with (first | (go_at_call 161;refine (HL.out _).mono ?_;rintro e w1 ⟨rfl,rfl⟩) | (go_at_call 162;refine (HG.out _).mono ?_;rintro e w1 ⟨rfl,rfl⟩));go_ret;exact ⟨ap (by rw [bF,HF.out];simp),eK w s _⟩
      ·go_wp2_with (first | (go_at_call 161;refine (HL.out _).mono ?_;rintro e w1 ⟨rfl,rfl⟩) | (go_at_call 162;refine (HG.out _).mono ?_;rintro e w1 ⟨rfl,rfl⟩));go_roundw
       case rel=>exact ⟨pos+1,rfl,hlt,by rw [HF.out];simp;omega⟩
       case measure=>simp;omega
    ·go_wp2_with (first | (go_at_call 161;refine (HL.out _).mono ?_;rintro e w1 ⟨rfl,rfl⟩) | (go_at_call 162;refine (HG.out _).mono ?_;rintro e w1 ⟨rfl,rfl⟩));go_roundw
     case rel=>exact ⟨pos+1,rfl,hlt,by rw [HF.out];simp⟩
     case measure=>simp;omega
  ·obtain rfl:pos=s.size:=by omega
   have hnext:=λ ty=>run_next_end (P:=Tryz.prog) w s s.size ty hlt
   have hnf:aR 0 (sl s)=true:=by rw [hn,List.drop_eq_nil_of_le (by rw [bR];exact Nat.le_refl _),aR]
   have HF:=aW hnf;clear hn hnf;obtain ⟨b,hb⟩:∃ b,fe (sl s)=b:=⟨_,rfl⟩
   have hw:=λ w=>ru s w
   rw [hb] at hw;have HW:=aW hw;have HB:=aW hb;clear hw hb;go_wp2_with (go_at_call 163;refine (HW.out _).mono ?_;rintro e w1 ⟨rfl,hb1⟩)
   ·go_ret;refine ⟨ap ?_,(eK w s _).trans (hb1.mono (by simp [World.iter]))⟩;have h1:1<=(s.size:Int):=by assumption
    have h2:(s.size:Int)<=12:=by assumption
    rw [bF,HF.out,HB.out,decide_eq_true (show 1<=s.size/\s.size<=12 by omega)];rfl
   ·go_ret;have h2:12<(s.size:Int):=by assumption
    exact ⟨ap (by rw [bF,HF.out,decide_eq_false (show ¬ (1<=s.size/\s.size<=12) by omega)];rfl),eK w s _⟩
   ·go_ret;have h2:(s.size:Int)<1:=by assumption
    exact ⟨ap (by rw [bF,HF.out,decide_eq_false (show ¬ (1<=s.size/\s.size<=12) by omega)];rfl),eK w s _⟩
theorem VRs.cell {W:World} {F:Nat->Prop} {css:List (List Value)} {xs:List JV} {A:Option Addr} (h:VRs W F css xs) (hr:RdF W F A css.flatten) {i:Nat} {x:JV} (hx:xs[i]? = some x) :
  ∃ b o c,A=some ⟨b,o,none⟩/\b<W.heap.size/\F b/\VR W F c x/\∀ (j:Nat) (u:Value),j<5->c[j]? = some u->W.cell? ⟨b,o+(i*5+j),none⟩=some u:=by
 obtain ⟨c,hc,hv⟩:=h.get_ hx;have hl:css.flatten≠[]:=by
  have h3:=eH h.five;have h4:=(List.getElem?_eq_some_iff.1 hc).1;intro e;rw [e] at h3;simp at h3;omega
 obtain ⟨b,o,rfl,hb,hf,hx⟩:=hr hl;refine ⟨b,o,c,rfl,hb,hf,hv,λ j u hj hu=>?_⟩;have h1:=iF h.five hc hj;rw [hu] at h1;obtain ⟨hlt,e⟩:=List.getElem?_eq_some_iff.1 h1;rw [hx _ hlt,e]
end
end Go.Proofs.YtgolomgmnanbpaaGreatDoor
namespace Go.Proofs.YtgolomgmnanbpaaGreatDoor
open Go.RowKit
attribute [local go_sem] aa ac ae ab
end Go.Proofs.YtgolomgmnanbpaaGreatDoor
namespace Go.Proofs.YtgolomgmnanbpaaGreatDoor
open Go.RowKit
attribute [local go_sem] aa ac ae ab
def bV:List UInt8:=[34,92,47,98,102,110,114,116]
def lV:List Nat:=[34,92,47,8,12,10,13,9]
theorem pf {k:Nat} (hk:k<8) {c:UInt8} (h:c=bV.getD k 0):bt c.toNat=some (lV.getD k 0):=by
 subst h;rcases (by omega:k=0∨k=1∨k=2∨k=3∨k=4∨k=5∨k=6∨k=7) with rfl | rfl | rfl | rfl | rfl | rfl | rfl | rfl<;>rfl
theorem oS {c:UInt8} (h:∀ k,k<8->c≠bV.getD k 0):bt c.toNat=none:=by
 have key:∀ n:Nat,∀ u:UInt8,u.toNat=n->c.toNat=n->c=u:=λ n u h1 h2=>UInt8.toNat_inj.1 (by omega)
 have g:∀ k,k<8->∀ n,(bV.getD k 0).toNat=n->c.toNat≠n:=λ k hk n hn e=>h k hk (key n _ hn e)
 unfold bt;rw [if_neg (g 0 (by omega) 34 rfl),if_neg (g 1 (by omega) 92 rfl),if_neg (g 2 (by omega) 47 rfl),if_neg (g 3 (by omega) 98 rfl),if_neg (g 4 (by omega) 102 rfl),if_neg (g 5 (by omega) 110 rfl),if_neg (g 6 (by omega) 114 rfl),if_neg (g 7 (by omega) 116 rfl)]
theorem gJ (c:UInt8) (w:World):Calls Tryz.prog 193 #[Zi .u8 c.toNat] w λ e w'=>e=.returned (Zi Zq (sT (bt c.toNat)))/\Below w.heap.size w w':=by
 obtain ⟨r,hr⟩:∃ r,sT (bt c.toNat)=r:=⟨_,rfl⟩
 rw [hr];have HR:=aW hr;clear hr;go_enter Tryz.func193,Tryz.ntmps193;go_wp2;go_loopg [5] 8 (λ gk i wx => ∃ k:Nat,k<=8/\gk=8-k/\i=Zi Zq k/\Hid (∀ j,j<k->c≠bV.getD j 0)/\wx=w.alloc (.cells #[Zi Zq 34,Zi Zq 92,Zi Zq 47,Zi Zq 8,Zi Zq 12,Zi Zq 10,Zi Zq 13,Zi Zq 9] 3))
 case atStart=>exact ⟨0,by omega,rfl,rfl,aW (by intro j hj;omega),rfl⟩
 case round =>
  obtain ⟨k,hk,hgk,rfl,HN,rfl⟩:=hrel;have HG:=aW hgk;clear hgk;by_cases h8:k=8
  ·subst h8;have HF:=aW (show r = -1 by rw [← HR.out,oS (HN.out)];rfl);go_wp2;go_ret;exact ⟨mi HF.out.symm,(Below.refl _ w).alloc (Nat.le_refl _) _⟩
  ·have hk8:k<8:=by omega
   by_cases hc:c=bV.getD k 0
   ·have HF:=aW (show r=(lV.getD k 0:Nat) by rw [← HR.out,pf hk8 hc];rfl);rcases (by omega:k=0∨k=1∨k=2∨k=3∨k=4∨k=5∨k=6∨k=7) with rfl | rfl | rfl | rfl | rfl | rfl | rfl | rfl
    all_goals
     subst hc;simp only [bV,lV,List.getD_cons_zero,List.getD_cons_succ] at HF ⊢;go_wp2;go_ret;exact ⟨mi HF.out.symm,(Below.refl _ w).alloc (Nat.le_refl _) _⟩
   ·have HN2:=aW (show ∀ j,j<k+1->c≠bV.getD j 0 from λ j hj=>by
     by_cases e:j=k
     ·rw [e];exact hc
     ·exact HN.out j (by omega))
    have hq:=c.toNat_lt;rcases (by omega:k=0∨k=1∨k=2∨k=3∨k=4∨k=5∨k=6∨k=7) with rfl | rfl | rfl | rfl | rfl | rfl | rfl | rfl
    ·have HNE:=aW (show (bV.getD 0 0).toNat≠c.toNat from λ e=>hc (UInt8.toNat_inj.1 e.symm));clear hc;go_wp2
     all_goals first
      | (exfalso;have h:=‹((_:Int) == (c.toNat:Int))=true›;exact absurd (Int.natCast_inj.1 (beq_iff_eq.1 h)) HNE.out)
      | (go_roundg (8-1))
     case measure=>rw [HG.out];omega
     case rel=>exact ⟨1,by omega,rfl,by go_num,HN2,rfl⟩
    ·have HNE:=aW (show (bV.getD 1 0).toNat≠c.toNat from λ e=>hc (UInt8.toNat_inj.1 e.symm));clear hc;go_wp2
     all_goals first
      | (exfalso;have h:=‹((_:Int) == (c.toNat:Int))=true›;exact absurd (Int.natCast_inj.1 (beq_iff_eq.1 h)) HNE.out)
      | (go_roundg (8-2))
     case measure=>rw [HG.out];omega
     case rel=>exact ⟨2,by omega,rfl,by go_num,HN2,rfl⟩
    ·have HNE:=aW (show (bV.getD 2 0).toNat≠c.toNat from λ e=>hc (UInt8.toNat_inj.1 e.symm));clear hc;go_wp2
     all_goals first
      | (exfalso;have h:=‹((_:Int) == (c.toNat:Int))=true›;exact absurd (Int.natCast_inj.1 (beq_iff_eq.1 h)) HNE.out)
      | (go_roundg (8-3))
     case measure=>rw [HG.out];omega
     case rel=>exact ⟨3,by omega,rfl,by go_num,HN2,rfl⟩
    ·have HNE:=aW (show (bV.getD 3 0).toNat≠c.toNat from λ e=>hc (UInt8.toNat_inj.1 e.symm));clear hc;go_wp2
     all_goals first
      | (exfalso;have h:=‹((_:Int) == (c.toNat:Int))=true›;exact absurd (Int.natCast_inj.1 (beq_iff_eq.1 h)) HNE.out)
      | (go_roundg (8-4))
     case measure=>rw [HG.out];omega
     case rel=>exact ⟨4,by omega,rfl,by go_num,HN2,rfl⟩
    ·have HNE:=aW (show (bV.getD 4 0).toNat≠c.toNat from λ e=>hc (UInt8.toNat_inj.1 e.symm));clear hc;go_wp2
     all_goals first
      | (exfalso;have h:=‹((_:Int) == (c.toNat:Int))=true›;exact absurd (Int.natCast_inj.1 (beq_iff_eq.1 h)) HNE.out)
      | (go_roundg (8-5))
     case measure=>rw [HG.out];omega
     case rel=>exact ⟨5,by omega,rfl,by go_num,HN2,rfl⟩
    ·have HNE:=aW (show (bV.getD 5 0).toNat≠c.toNat from λ e=>hc (UInt8.toNat_inj.1 e.symm));clear hc;go_wp2
     all_goals first
      | (exfalso;have h:=‹((_:Int) == (c.toNat:Int))=true›;exact absurd (Int.natCast_inj.1 (beq_iff_eq.1 h)) HNE.out)
      | (go_roundg (8-6))
     case measure=>rw [HG.out];omega
     case rel=>exact ⟨6,by omega,rfl,by go_num,HN2,rfl⟩
    ·have HNE:=aW (show (bV.getD 6 0).toNat≠c.toNat from λ e=>hc (UInt8.toNat_inj.1 e.symm));clear hc;go_wp2
     all_goals first
      | (exfalso;have h:=‹((_:Int) == (c.toNat:Int))=true›;exact absurd (Int.natCast_inj.1 (beq_iff_eq.1 h)) HNE.out)
      | (go_roundg (8-7))
     case measure=>rw [HG.out];omega
     case rel=>exact ⟨7,by omega,rfl,by go_num,HN2,rfl⟩
    ·have HNE:=aW (show (bV.getD 7 0).toNat≠c.toNat from λ e=>hc (UInt8.toNat_inj.1 e.symm));clear hc;go_wp2
     all_goals first
      | (exfalso;have h:=‹((_:Int) == (c.toNat:Int))=true›;exact absurd (Int.natCast_inj.1 (beq_iff_eq.1 h)) HNE.out)
      | (go_roundg (8-8))
     case measure=>rw [HG.out];omega
     case rel=>exact ⟨8,by omega,rfl,by go_num,HN2,rfl⟩
end Go.Proofs.YtgolomgmnanbpaaGreatDoor
namespace Go.Proofs.YtgolomgmnanbpaaGreatDoor
open Go.RowKit
attribute [local go_sem] aa ac ae ab
theorem BS.dropN {w:World} {b o n cap:Nat} {l:List UInt8} (h:Rd w (some ⟨b,o,none⟩) (al l)) (hcap:l.length<=cap) (k:Nat) (hk:k<=l.length):BS w (Zs (some ⟨b,o+k,none⟩) (l.length-k) (cap-k)) (l.drop k):=by
 refine ⟨_,_,by rw [List.length_drop],by rw [List.length_drop];omega,?_⟩;have h1:=h.drop k;have e:((some (⟨b,o,none⟩:Addr)).map λ a=>a.add k)=some ⟨b,o+k,none⟩:=by
  simp only [Option.map_some,Option.some.injEq];unfold Addr.add;split<;>simp_all
 rw [e] at h1;simpa [al,List.map_drop] using h1
end Go.Proofs.YtgolomgmnanbpaaGreatDoor
namespace Go.Proofs.YtgolomgmnanbpaaGreatDoor
open Go.RowKit
theorem kN {c:UInt8} {r:List UInt8} (h:c.toNat<128):am (c::r)=(c.toNat,1):=by
 rw [fB ((ok1 c r).2 h)];simp [aQ]
end Go.Proofs.YtgolomgmnanbpaaGreatDoor
namespace Go.Proofs.YtgolomgmnanbpaaGreatDoor
open Go.RowKit
attribute [local go_sem] aa ac ae ab
theorem pI:(Tryz.prog.info? 3).map (λ i=>(i.zero,i.size,i.bytes))=some (some (Zi Zq 0),1,8):=by kernel_rfl
def qh (l:List Int):List Value:=l.map (Value.int .i64)
def IS (w:World) (v:Value) (l:List Int):Prop:=∃ A cap,v=Zs A l.length cap/\l.length<=cap/\Rd w A (qh l)
theorem IS.of_own {w:World} {base:Nat} {e:TypeId} {v:Value} {l:List Int} {n:Nat} (hn:n=l.length) (h:w.ownsRow base e 1 v n (qh l)):IS w v l:=by
 subst hn;obtain ⟨A,cap,rfl,hc,hr⟩:=Rd.of_own h;exact ⟨A,cap,rfl,hc,hr⟩
theorem oz {w w':World} (h:Below w.heap.size w w'):w.grownBy w' none:=⟨h.os,h.tape,h.output,h.size,λ k hk _=>h.block k hk⟩
theorem il {w w':World} {base:Nat} {e:TypeId} {size n:Nat} {v:Value} {xs:List Value} (h:w.ownsRow base e size v n xs) (hb:Below w.heap.size w w'):w'.ownsRow base e size v n xs :=
 h.kept (oz hb) (by cases v.ownBlock<;>simp)
end Go.Proofs.YtgolomgmnanbpaaGreatDoor
namespace Go.Proofs.YtgolomgmnanbpaaGreatDoor
section
open Go.RowKit
attribute [local go_sem] aa ac ae ab
theorem nZ (n p:Int) (w:World) (h0:0<=n) (h1:n<=4194304):Calls Tryz.prog 196 #[Zi Zq n,Zi Zq p] w λ e w'=>e=.returned (Zi Zq (n+1))/\w=w':=by
 go_enter Tryz.func196,Tryz.ntmps196;go_wp2;go_ret;exact ⟨rfl,rfl⟩
def dR (s:List UInt8):Int:=if aL s=true then 0 else 110
theorem mx (s:List UInt8) (w:World) (hG:GOK w) (hl:s.length<=4194304) :
  Calls Tryz.prog 195 #[Zt ⟨s.toArray⟩,Zi Zq 0,.func (.func 196) #[] #[]] w λ e w'=>(∃ n p:Int,e=.returned (.tuple #[Zi Zq n,Zi Zq p,Zi Zq (dR s)]))/\Below w.heap.size w w':=by
 obtain ⟨ba,hba⟩:∃ ba:ByteArray,(⟨s.toArray⟩:ByteArray)=ba:=⟨_,rfl⟩
 have hsl:sl ba=s:=by rw [← hba,fW]
 rw [hba];obtain ⟨cap,W1,hcv,hcap,hb1,hs1,hr1⟩:=dI (P:=Tryz.prog) w 9 76 5 ba Tryz.underlying9 Tryz.underlying76 Tryz.underlying5;rw [hsl] at hr1;have hsz:ba.size=s.length:=by rw [← hsl,bR]
 rw [hsz] at hcv hcap;have HR:=aW hr1;have HB1:=aW hb1;have hlt1:w.heap.size<W1.heap.size:=by omega
 clear hr1 hb1 hsl hba hsz hs1;have HGK:=aW hG;clear hG;have HCN:=aW (λ n p w h0 h1=>nZ n p w h0 h1);obtain ⟨er,her⟩:∃ er,dR s=er:=⟨_,rfl⟩
 rw [her];have HER:=aW her;clear her;go_enter Tryz.func195,Tryz.ntmps195;go_wp2;go_loopg [1,10] s.length (λ gk s1 s10 wr => ∃ (p n:Nat),p<=s.length/\n<=p/\gk=s.length-p/\s1=Zi Zq n/\s10=Zi Zq p/\Hid (dR s=dR (s.drop p))/\Hid (Below W1.heap.size W1 wr))
 case atStart=>exact ⟨0,0,Nat.zero_le _,Nat.le_refl _,rfl,by go_num,by go_num,aW (by rw [List.drop_zero]),aW (Below.refl _ _)⟩
 case round =>
  obtain ⟨p,n,hp,hnp,hgk,rfl,rfl,HQ,HW⟩:=hrel;have HG:=aW hgk;clear hgk;by_cases hlt:p<s.length
  ·obtain ⟨c,m,hcm⟩:∃ c m,am (s.drop p)=(c,m):=⟨_,_,rfl⟩
   have hne:s.drop p≠[]:=by intro e;have h:=congrArg List.length e;rw [List.length_drop] at h;simp at h;omega
   have hle:=fm (s.drop p);have hst:=cV hne;rw [hcm] at hle hst;rw [List.length_drop] at hle;have hpn:p+m<=s.length:=by have:=hle.1;simp only at this;omega
   have hm4:m<=4:=hle.2;rw [List.drop_drop] at hst;have HST:=aW hst;have hW:=HB1.out.trans (HW.out.mono HB1.out.size);have hcell:∀ i x,(s.drop p)[i]? = some x->wr.cell? ⟨w.heap.size,p+i,none⟩=some (Zi .u8 x.toNat):=λ i x hx=>by
    rw [List.getElem?_drop] at hx;have h:=BS.at_ (n:=0) (cap:=0) (HR.out.below HW.out) hx;rwa [Nat.zero_add] at h
   have hNX:=nQ w.heap.size p (cap-p) (s.drop p) wr hne (HGK.out.keep hW) (by have:=HW.out.size;omega) hcell (by rw [List.length_drop];omega) (by rw [List.length_drop];omega);rw [hcm,List.length_drop] at hNX;have HNX:=aW hNX;have hcapp:¬ cap=p:=by omega
   clear hNX hcell hW hcm hne hle hst;by_cases hm0:m=0
   ·subst hm0;have hu:er=110:=by
     rw [← HER.out,HQ.out];unfold dR;rw [HST.out,if_pos rfl];rfl
    subst hu;go_wp2_with fail;refine HNX.out.mono ?_;rintro e w1 ⟨rfl,hb2⟩;have HW2:=aW (HW.out.trans (hb2.mono HW.out.size));clear hb2;go_wp2;go_ret3;exact ⟨⟨_,_,rfl⟩,HB1.out.trans (HW2.out.mono HB1.out.size)⟩
   ·have hm1:((m:Int) == 0)=false:=by simp;omega
    have HQ2:=aW (show dR s=dR (s.drop (p+m)) by rw [HQ.out];unfold dR;rw [HST.out,if_neg hm0]);go_wp2_with fail;refine HNX.out.mono ?_;rintro e w1 ⟨rfl,hb2⟩;have HW2:=aW (HW.out.trans (hb2.mono HW.out.size));clear hb2;go_wp2_with fail;refine (HCN.out n c _ (by omega) (by omega)).mono ?_;rintro e w2 ⟨rfl,rfl⟩;go_wp2;go_roundg (s.length-(p+m))
    case measure=>rw [HG.out];omega
    case rel=>exact ⟨p+m,n+1,hpn,by omega,rfl,by go_num,by go_num,HQ2,HW2⟩
  ·obtain rfl:p=s.length:=by omega
   have hu:er=0:=by
    rw [← HER.out,HQ.out,List.drop_length];rfl
   subst hu;go_wp2;go_ret3;exact ⟨⟨_,_,rfl⟩,HB1.out.trans (HW.out.mono HB1.out.size)⟩
theorem fX (s:List UInt8) (w:World) (hG:GOK w) (hl:s.length<=4194304):Calls Tryz.prog 182 #[Zt ⟨s.toArray⟩] w λ e w'=>(∃ p:Int,e=.returned (.tuple #[Zi Zq p,Zi Zq (dR s)]))/\Below w.heap.size w w':=by
 have HT:=aW (mx s w hG hl);clear hl hG;obtain ⟨er,her⟩:∃ er,dR s=er:=⟨_,rfl⟩
 rw [her] at HT ⊢;clear her;go_enter Tryz.func182,Tryz.ntmps182;go_wp2_with fail;refine HT.out.mono ?_;rintro e w1 ⟨⟨n,p,rfl⟩,hb⟩;have HB:=aW hb;clear hb;go_wp2;go_ret2;exact ⟨⟨_,rfl⟩,HB.out⟩
theorem mW (v:Value) (l:List UInt8) (w:World) (hv:BS w v l) (hl:l.length<=4194304) :
  Calls Tryz.prog 50 #[v] w λ e w'=>(∃ u p,e=.returned (.tuple #[u,p,.bool (aL l)]))/\Below w.heap.size w w':=by
 obtain ⟨i0,hi,hz0,hz1,hz2⟩:=info_parts pI;obtain ⟨A,cap,rfl,hcap,hr⟩:=hv;obtain ⟨er,her⟩:∃ er,aL l=er:=⟨_,rfl⟩
 rw [her];have HER:=aW her;have HR:=aW hr;have HI:=aW hi;clear hr hi her;go_enter Tryz.func50,Tryz.ntmps50;go_wp2;go_loopg [5,6] l.length (λ gk s5 s6 wr => ∃ (p:Nat) (pre:List Nat),p<=l.length/\pre.length<=p/\gk=l.length-p/\s6=Zi Zq p/\Hid (aL l=aL (l.drop p)) /\
  wr.ownsRow w.heap.size 3 1 s5 pre.length (qh (pre.map λ n:Nat=>(n:Int)))/\Below w.heap.size w wr)
 case atStart=>exact ⟨0,[],Nat.zero_le _,Nat.le_refl _,rfl,by go_num,aW (by rw [List.drop_zero]),World.ownsRow_nil _ _ _ _,Below.refl _ _⟩
 case round =>
  obtain ⟨p,pre,hp,hpp,hgk,rfl,HQ,hown,hbw⟩:=hrel;have HG:=aW hgk;clear hgk;by_cases hlt:p<l.length
  ·obtain ⟨b,o,rfl,hb⟩:=HR.out.some_ (show 0<l.length by omega);obtain ⟨c,n,hcm⟩:∃ c m,am (l.drop p)=(c,m):=⟨_,_,rfl⟩
   have hne:l.drop p≠[]:=by intro e;have h:=congrArg List.length e;rw [List.length_drop] at h;simp at h;omega
   have hle:=fm (l.drop p);have hst:=cV hne;rw [hcm] at hle hst;rw [List.length_drop] at hle;have hpn:p+n<=l.length:=by have:=hle.1;simp only at this;omega
   rw [List.drop_drop] at hst;have HST:=aW hst;have hB:=jH (Zs (some ⟨b,o+p,none⟩) (l.length-p) (cap-p)) (l.drop p) wr (BS.dropN (n:=0) (HR.out.below hbw) hcap p hp) (by rw [List.length_drop];omega);rw [hcm] at hB;have HB:=aW hB;have hcapp:¬ cap=p:=by omega
   clear hB hcm hne hle hst;by_cases hn0:n=0
   ·subst hn0;have hu:er=false:=by rw [← HER.out,HQ.out,HST.out,if_pos rfl]
    subst hu;go_wp2_with fail;refine HB.out.mono ?_;rintro e w1 ⟨rfl,hb1⟩;go_wp2;go_ret3;exact ⟨⟨_,_,rfl⟩,hbw.trans (hb1.mono hbw.size)⟩
   ·have hn1:((n:Int) == 0)=false:=by simp;omega
    have HQ2:=aW (show aL l=aL (l.drop (p+n)) by rw [HQ.out,HST.out,if_neg hn0]);go_wp2_with fail;refine HB.out.mono ?_;rintro e w1 ⟨rfl,hb1⟩;have hown1:=il hown hb1;go_wp2_with (at_builtin;refine wpList_append_own _ rfl _ _ 96 rfl w.heap.size 3 i0 (Zi Zq 0) 1 8 Tryz.underlying96 HI.out hz0 hz1 hz2 rfl (by decide) _ _ _ rfl (hown1.alloc _) ⟨w1.heap.size,0,none⟩ 1 1 [Zi Zq c] rfl rfl (cell_one_new _ _ _) (by simp [Value.oneCell']) (by unfold maxLen;omega) (by omega) (by have:=hbw.size;have:=hb1.size;simp;omega) ?_;intro v' w2 hown2 hgr2 _);go_roundg (l.length-(p+n))
    case measure=>rw [HG.out];omega
    case rel =>
     have s1:=hbw.size;have s2:=hb1.size;refine ⟨p+n,pre++[c],hpn,by rw [List.length_append,List.length_singleton];omega,rfl,by go_num,HQ2,?_,?_⟩
     ·rw [List.length_append,List.length_singleton];have e:qh ((pre++[c]).map λ n:Nat=>(n:Int))=qh (pre.map λ n:Nat=>(n:Int))++[Zi Zq c]:=by simp [qh]
      rw [e];exact hown2
     ·refine ((hbw.trans (hb1.mono s1)).alloc (by omega) _).grown hgr2 (by simp;omega) (λ k e=>?_);exact (hown1.lt k e).1
  ·obtain rfl:p=l.length:=by omega
   have hu:er=true:=by rw [← HER.out,HQ.out,List.drop_length];rfl
   subst hu;go_wp2;go_ret3;exact ⟨⟨_,_,rfl⟩,hbw⟩
theorem j5 (s:List UInt8) (w:World) (hl:s.length<=4194304):Calls Tryz.prog 136 #[Zt ⟨s.toArray⟩] w λ e w'=>e=.returned (.bool (aL s))/\Below w.heap.size w w':=by
 obtain ⟨ba,hba⟩:∃ ba:ByteArray,(⟨s.toArray⟩:ByteArray)=ba:=⟨_,rfl⟩
 have hsl:sl ba=s:=by rw [← hba,fW]
 rw [hba];obtain ⟨cap,W1,hcv,hcap,hb1,hs1,hr1⟩:=dI (P:=Tryz.prog) w 9 76 5 ba Tryz.underlying9 Tryz.underlying76 Tryz.underlying5;have hP:=mW (Zs (some ⟨w.heap.size,0,none⟩) ba.size cap) s W1 (by rw [← hsl];exact ⟨_,_,by rw [bR],by rw [bR];exact hcap,hr1⟩) hl;have HP:=aW hP;have HB1:=aW hb1;clear hP hr1 hsl hba hcap hb1 hl;obtain ⟨er,her⟩:∃ er,aL s=er:=⟨_,rfl⟩
 rw [her] at HP ⊢;clear her;go_enter Tryz.func136,Tryz.ntmps136;go_wp2_with fail;refine HP.out.mono ?_;rintro e w2 ⟨⟨u,p,rfl⟩,hb2⟩;have HB2:=aW (HB1.out.trans (hb2.mono HB1.out.size));clear hb2;go_wp2;go_ret;exact ⟨rfl,HB2.out⟩
end
section
open Go.RowKit
theorem r9 (a b n:Int) (ha:-9223372036854775808<=a/\a<=9223372036854775807) (hb:-9223372036854775808<=b/\b<=9223372036854775807) (hn:n=IntKind.i64.wrap (a*b)) :
  (a=0∨(IntKind.i64.wrap (n.tdiv a)=b/\¬ (a = -1/\b = -9223372036854775808))) ↔ (-9223372036854775808<=a*b/\a*b<=9223372036854775807):=by
 rw [IntKind.wrap_i64] at hn;generalize hp:a*b=p at *;by_cases h0:a=0
 ·subst h0;have:p=0:=by rw [← hp];simp
  omega
 have hdm:=Int.mul_tdiv_add_tmod n a;have hlt:(n.tmod a).natAbs<a.natAbs:=by
  rw [Int.natAbs_tmod];exact Nat.mod_lt _ (by omega)
 generalize hq:n.tdiv a=q at *;generalize hr:n.tmod a=r at *;rw [IntKind.wrap_i64];constructor
 ·rintro (h | ⟨h1,h2⟩)
  ·exact absurd h h0
  ·by_cases hqi:-9223372036854775808<=q/\q<=9223372036854775807
   ·have:q=b:=by omega
    subst this;rw [hp] at hdm;omega
   ·exfalso;have hqn:q.natAbs<=n.natAbs / a.natAbs:=by
     rw [← hq,Int.natAbs_tdiv];exact Nat.le_refl _
    have ha1:a.natAbs=1:=by
     rcases Nat.lt_or_ge a.natAbs 2 with h | h
     ·omega
     ·exfalso;have:n.natAbs / a.natAbs<=n.natAbs / 2:=Nat.div_le_div_left h (by decide);omega
    have:a=1∨a = -1:=by omega
    rcases this with rfl | rfl
    ·omega
    ·have hb':b = -9223372036854775808:=by omega
     exact h2 ⟨rfl,hb'⟩
 ·intro h;right;have hnp:n=p:=by omega
  subst hnp;have:q=b:=by
   rw [← hq,← hp];exact Int.mul_tdiv_cancel_left b h0
  subst this;refine ⟨by omega,?_⟩;rintro ⟨rfl,rfl⟩;omega
end
section
theorem Blk.set8C {w:World} {g:Nat} {t:TypeId} {c0 c1 c2 c3 c4 c5 c6 c7:Value} (h:Blk w g t #[c0,c1,c2,c3,c4,c5,c6,c7]) (x0 x1 x2 x3 x4 x5 x6 x7:Value):Blk (w.setCells g 0 [x0,x1,x2,x3,x4,x5,x6,x7]) g t #[x0,x1,x2,x3,x4,x5,x6,x7] :=
 (((((((h.set_ 0 x0).set_ 1 x1).set_ 2 x2).set_ 3 x3).set_ 4 x4).set_ 5 x5).set_ 6 x6).set_ 7 x7
end
section
open Go.RowKit
abbrev WAt (B g:Nat) (p:Value) (l:List UInt8) (w:World):Prop:=Lib.BuilderAt 119 5 B g p (Lib.byteCells l) w
abbrev WIs (B g:Nat) (l:List UInt8) (w:World):Prop:=Lib.IsBuilder 119 5 B g (Lib.byteCells l) w
abbrev mG (g:Nat) (w w':World):Prop:=Lib.OthersKept 5 (some g) w w'
def nA (B g:Nat) (l:List UInt8) (r:Ending) (w:World) (e:Ending) (w':World):Prop:=e=r/\WIs B g l w'/\Below B w w'/\mG g w w'
theorem WIs.some_ {B g:Nat} {l:List UInt8} {w:World} (h:WIs B g l w):∃ p,WAt B g p l w:=by
 rcases h with h | h<;>exact ⟨_,h⟩
end
end Go.Proofs.YtgolomgmnanbpaaGreatDoor
namespace Go.Proofs.YtgolomgmnanbpaaGreatDoor
open Go.RowKit
attribute [local go_sem] aa ac ae ab
end Go.Proofs.YtgolomgmnanbpaaGreatDoor
namespace Go.Proofs.YtgolomgmnanbpaaGreatDoor
open Go.RowKit
attribute [local go_sem] aa ac ae ab
end Go.Proofs.YtgolomgmnanbpaaGreatDoor
namespace Go.Proofs.YtgolomgmnanbpaaGreatDoor
open Go.RowKit
attribute [local go_sem] aa ac ae ab
end Go.Proofs.YtgolomgmnanbpaaGreatDoor
namespace Go.Proofs.YtgolomgmnanbpaaGreatDoor
open Go.RowKit
attribute [local go_sem] aa ac ae ab
section
variable {w W W':World} {g cap:Nat} {A:Option Addr} {l:List UInt8} {p many why:Int} {ov t0 t1 t2 t3 t4:Value}
end
end Go.Proofs.YtgolomgmnanbpaaGreatDoor
namespace Go.Proofs.YtgolomgmnanbpaaGreatDoor
open Go.RowKit
attribute [local go_sem] aa ac ae ab
section
variable {W W':World} {F:Nat->Prop} {A:Option Addr} {xs:List Value}
theorem RdF.take (h:RdF W F A xs) (k:Nat):RdF W F A (xs.take k):=λ hn=>by
 have hne:xs≠[]:=λ e=>hn (by simp [e])
 obtain ⟨b,o,rfl,hb,hf,hx⟩:=h hne;exact ⟨b,o,rfl,hb,hf,λ i hi=>by simp at hi;have:=hx i (by omega);rw [this];simp⟩
theorem RdF.cells {a:Addr} (h:RdF W F (some a) xs):∀ (j:Nat) (u:Value),xs[j]? = some u->W.cell? (a.add j)=some u:=λ j u hu=>by
 obtain ⟨ad,e,hc⟩:=h.rd.at_ (by intro e;rw [e] at hu;simp at hu);obtain rfl:a=ad:=by simpa using e
 exact hc j u hu
theorem RdF.of_own {B:Nat} {e:TypeId} {size n:Nat} {v:Value} (h:W.ownsRow B e size v n xs) (hF:∀ b,B<=b->F b):∃ A cap,v=Zs A n cap/\n<=cap/\(A=none->cap=0)/\RdF W F A xs:=by
 rcases h.2 with ⟨rfl,h0⟩ | ⟨g,cap,cur,rfl,hB,hg,hnc,_,_,_⟩
 ·subst h0;have:xs=[]:=List.eq_nil_of_length_eq_zero (by simpa using h.1);subst this;exact ⟨none,0,rfl,Nat.le_refl _,λ _=>rfl,RdF.nil⟩
 ·refine ⟨_,cap,rfl,hnc,(λ h=>by cases h),λ _=>⟨g,0,rfl,(Array.getElem?_eq_some_iff.1 hg).1,hF g hB,λ i hi=>?_⟩⟩;have:=h.cells (g:=g) rfl i xs[i] (List.getElem?_eq_getElem hi);rw [Nat.zero_add,← this];unfold Addr.add;split
  ·rename_i h0;subst h0;rfl
  ·simp
end
end Go.Proofs.YtgolomgmnanbpaaGreatDoor
