import Derived.Test.YtgmnmnnoahdjnaaGreatDoorC07
open Go.Value renaming int → Zi, slice → Zs, string → Zt, pointer → Zp
open Go.IntKind renaming i64 → Zq
set_option maxRecDepth 100000
set_option maxHeartbeats 16000000
set_option linter.unusedVariables false
set_option linter.unusedSimpArgs false
namespace Go.Proofs.YtgmnmnnoahdjnaaGreatDoor
section
open Go.RowKit
def RdF (W:World) (F:Nat->Prop) (A:Option Addr) (xs:List Value):Prop :=
 xs≠[]->∃ b o,A=some ⟨b,o,none⟩/\b<W.heap.size/\F b/\∀ i (h:i<xs.length),W.cell? ⟨b,o+i,none⟩=some xs[i]
def ah (F:Nat->Prop) (W W':World):Prop:=W.heap.size<=W'.heap.size/\∀ b,F b->b<W.heap.size->W'.heap[b]? = W.heap[b]?
section
variable {W W':World} {F F':Nat->Prop} {A:Option Addr} {xs:List Value}
theorem RdF.rd (h:RdF W F A xs):Rd W A xs:=λ hn=>by
 obtain ⟨b,o,e,hb,_,hx⟩:=h hn;exact ⟨b,o,e,hb,hx⟩
theorem RdF.nil:RdF W F A []:=λ h=>(h rfl).elim
theorem RdF.keep (h:RdF W F A xs) (hk:ah F W W'):RdF W' F A xs:=λ hn=>by
 obtain ⟨b,o,e,hb,hf,hx⟩:=h hn;refine ⟨b,o,e,Nat.lt_of_lt_of_le hb hk.1,hf,λ i hi=>?_⟩;rw [← hx i hi];exact World.cell?_of_block (hk.2 b hf hb)
theorem RdF.mono (h:RdF W F A xs) (hm:∀ b,b<W.heap.size->F b->F' b):RdF W F' A xs:=λ hn=>by
 obtain ⟨b,o,e,hb,hf,hx⟩:=h hn;exact ⟨b,o,e,hb,hm b hb hf,hx⟩
theorem ah.of_below (h:Below W.heap.size W W'):ah F W W':=⟨h.size,λ b _ hb=>h.block b hb⟩
theorem ah.of_grown {g:Option Nat} (h:W.grownBy W' g) (hg:∀ b,F b->some b≠g):ah F W W':=⟨h.size,λ b hf hb=>h.block b hb (hg b hf)⟩
theorem ah.refl:ah F W W:=⟨Nat.le_refl _,λ _ _ _=>rfl⟩
theorem ah.trans {W'':World} (h:ah F W W') (h':ah F W' W''):ah F W W'' :=
 ⟨Nat.le_trans h.1 h'.1,λ b hf hb=>(h'.2 b hf (Nat.lt_of_lt_of_le hb h.1)).trans (h.2 b hf hb)⟩
end
theorem ah.set {W W':World} {F:Nat->Prop} (h:ah F W W') {k:Nat} (hk:∀ b,F b->b≠k) (i:Nat) (u:Value):ah F W (W'.setCell ⟨k,i,none⟩ u) :=
 ⟨by simpa using h.1,λ b hf hb=>(Below.heap_setCell W' ⟨k,i,none⟩ u b (hk b hf)).trans (h.2 b hf hb)⟩
theorem ah.bel {W W' W'':World} {F:Nat->Prop} (h:ah F W W') (hb:Below W'.heap.size W' W''):ah F W W'':=h.trans (ah.of_below hb)
theorem ah.alloc {W W':World} {F:Nat->Prop} (h:ah F W W') (o:Obj):ah F W (W'.alloc o):=h.bel ((Below.refl _ _).alloc (Nat.le_refl _) o)
def bY (ks:List (List UInt8)):List Value:=ks.map λ s=>Zt ⟨s.toArray⟩
theorem di (ks:List (List UInt8)):(bY ks).length=ks.length:=by simp [bY]
inductive VR (W:World) (F:Nat->Prop):List Value->JV->Prop where
 | mk {k n:Int} {s:List UInt8} {kids:List JV} {keys:List (List UInt8)} {A B:Option Addr} {ca cb:Nat} {css:List (List Value)} :
   css.length=kids.length->kids.length<=ca->keys.length<=cb->(A=none->ca=0)->(B=none->cb=0)->RdF W F A css.flatten->RdF W F B (bY keys) ->
   (∀ (i:Nat) c x,css[i]? = some c->kids[i]? = some x->VR W F c x) ->
   VR W F [Zi Zq k,Zi Zq n,Zt ⟨s.toArray⟩,Zs A kids.length ca,Zs B keys.length cb] (.mk k n s kids keys)
section
variable {W W':World} {F F':Nat->Prop} {cs:List Value} {v:JV}
theorem VR.keep (h:VR W F cs v) (hk:ah F W W'):VR W' F cs v:=by
 induction h with
 | mk h1 h2 h3 hA hB h4 h5 _ ih=>exact .mk h1 h2 h3 hA hB (h4.keep hk) (h5.keep hk) ih
theorem VR.mono (h:VR W F cs v) (hm:∀ b,b<W.heap.size->F b->F' b):VR W F' cs v:=by
 induction h with
 | mk h1 h2 h3 hA hB h4 h5 _ ih=>exact .mk h1 h2 h3 hA hB (h4.mono hm) (h5.mono hm) ih
theorem VR.bel (h:VR W F cs v) (hb:Below W.heap.size W W'):VR W' F cs v:=h.keep (ah.of_below hb)
theorem VR.form (h:VR W F cs v):∃ (k n:Int) (s:ByteArray) (A:Option Addr) (na ca:Nat) (B:Option Addr) (nb cb:Nat),cs=[Zi Zq k,Zi Zq n,Zt s,Zs A na ca,Zs B nb cb]:=by
 cases h;exact ⟨_,_,_,_,_,_,_,_,_,rfl⟩
theorem VR.len (h:VR W F cs v):cs.length=5:=by cases h;rfl
theorem VR.one (h:VR W F cs v):∀ u ∈ cs,u.oneCell'=true:=by
 cases h
 intro u hu;simp only [List.mem_cons,List.not_mem_nil,or_false] at hu;rcases hu with rfl | rfl | rfl | rfl | rfl<;>rfl
theorem VR.atom (k n:Int) (s:List UInt8):VR W F [Zi Zq k,Zi Zq n,Zt ⟨s.toArray⟩,Zs none 0 0,Zs none 0 0] (.mk k n s [] []) :=
 VR.mk (kids:=[]) (keys:=[]) (css:=[]) (ca:=0) (cb:=0) rfl (Nat.le_refl _) (Nat.le_refl _) (λ _=>rfl) (λ _=>rfl) RdF.nil RdF.nil (λ i c x h=>by simp at h)
theorem VR.zero:VR W F [Zi Zq 0,Zi Zq 0,Zt ⟨#[]⟩,Zs none 0 0,Zs none 0 0] cn:=VR.atom 0 0 []
end
def VRs (W:World) (F:Nat->Prop) (css:List (List Value)) (xs:List JV):Prop:=css.length=xs.length/\∀ (i:Nat) c x,css[i]? = some c->xs[i]? = some x->VR W F c x
section
variable {W W':World} {F F':Nat->Prop} {css:List (List Value)} {xs:List JV}
theorem VRs.keep (h:VRs W F css xs) (hk:ah F W W'):VRs W' F css xs:=⟨h.1,λ i c x h1 h2=>(h.2 i c x h1 h2).keep hk⟩
theorem VRs.mono (h:VRs W F css xs) (hm:∀ b,b<W.heap.size->F b->F' b):VRs W F' css xs:=⟨h.1,λ i c x h1 h2=>(h.2 i c x h1 h2).mono hm⟩
theorem VRs.below (h:VRs W F css xs) (hb:Below W.heap.size W W'):VRs W' F css xs:=h.keep (ah.of_below hb)
theorem VRs.nil:VRs W F [] []:=⟨rfl,λ i c x h=>by simp at h⟩
theorem iQ:∀ {css:List (List Value)},(∀ c ∈ css,c.length=5)->css.flatten.length=css.length*5
 | [],_=>rfl
 |c::r,h=>by
  rw [List.flatten_cons,List.length_append,h c List.mem_cons_self,iQ (λ c hc=>h c (List.mem_cons_of_mem _ hc)),List.length_cons];omega
theorem kt:∀ {css:List (List Value)} (_:∀ c ∈ css,c.length=5) {i:Nat} {c:List Value} (_:css[i]? = some c) {j:Nat} (_:j<5),css.flatten[i*5+j]? = c[j]?
 | [],_,i,c,h,_,_=>by simp at h
 |c'::r,h5,0,c,h,j,hj=>by
  have:c'=c:=by simpa using h
  subst this;rw [List.flatten_cons,Nat.zero_mul,Nat.zero_add,List.getElem?_append_left (by rw [h5 c' List.mem_cons_self];exact hj)]
 |c'::r,h5,i+1,c,h,j,hj=>by
  have h':r[i]? = some c:=by simpa using h
  have hl:=h5 c' List.mem_cons_self;rw [List.flatten_cons,List.getElem?_append_right (by omega),← kt (λ c hc=>h5 c (List.mem_cons_of_mem _ hc)) h' hj];congr 1;omega
theorem VRs.five (h:VRs W F css xs):∀ c ∈ css,c.length=5:=λ c hc=>by
 obtain ⟨i,hi,rfl⟩:=List.getElem_of_mem hc;have hx:i<xs.length:=by rw [← h.1];exact hi
 exact (h.2 i _ _ (List.getElem?_eq_getElem hi) (List.getElem?_eq_getElem hx)).len
theorem VRs.one (h:VRs W F css xs):∀ u ∈ css.flatten,u.oneCell'=true:=λ u hu=>by
 obtain ⟨c,hc,hu⟩:=List.mem_flatten.1 hu;obtain ⟨i,hi,rfl⟩:=List.getElem_of_mem hc;have hx:i<xs.length:=by rw [← h.1];exact hi
 exact (h.2 i _ _ (List.getElem?_eq_getElem hi) (List.getElem?_eq_getElem hx)).one u hu
theorem VRs.snoc {c:List Value} {x:JV} (h:VRs W F css xs) (hx:VR W F c x):VRs W F (css++[c]) (xs++[x]):=by
 refine ⟨by simp [h.1],λ i c' x' h1 h2=>?_⟩;rcases Nat.lt_or_ge i css.length with hi | hi
 ·rw [List.getElem?_append_left hi] at h1;rw [List.getElem?_append_left (by rw [← h.1];exact hi)] at h2;exact h.2 i c' x' h1 h2
 ·rw [List.getElem?_append_right hi] at h1;rw [List.getElem?_append_right (by rw [← h.1];exact hi)] at h2;have:i-css.length=0:=by
   rcases Nat.eq_zero_or_pos (i-css.length) with h0 | h0
   ·exact h0
   ·rw [List.getElem?_eq_none (by simp;omega)] at h1;cases h1
  rw [this] at h1;rw [← h.1,this] at h2;obtain rfl:c=c':=by simpa using h1
  obtain rfl:x=x':=by simpa using h2
  exact hx
theorem VRs.get_ {i:Nat} {x:JV} (h:VRs W F css xs) (hx:xs[i]? = some x):∃ c,css[i]? = some c/\VR W F c x:=by
 have hi:i<css.length:=by rw [h.1];exact (List.getElem?_eq_some_iff.1 hx).1
 exact ⟨_,List.getElem?_eq_getElem hi,h.2 i _ x (List.getElem?_eq_getElem hi) hx⟩
theorem VRs.take (h:VRs W F css xs) (n:Nat):VRs W F (css.take n) (xs.take n):=by
 refine ⟨by simp [h.1],λ i c x h1 h2=>?_⟩;rw [List.getElem?_take] at h1 h2;split at h1
 ·rename_i hi;rw [if_pos hi] at h2;exact h.2 i c x h1 h2
 ·cases h1
theorem VRs.drop (h:VRs W F css xs) (n:Nat):VRs W F (css.drop n) (xs.drop n):=by
 refine ⟨by simp [h.1],λ i c x h1 h2=>?_⟩;rw [List.getElem?_drop] at h1 h2;exact h.2 _ c x h1 h2
theorem VRs.append {css':List (List Value)} {xs':List JV} (h:VRs W F css xs) (h':VRs W F css' xs'):VRs W F (css++css') (xs++xs'):=by
 refine ⟨by simp [h.1,h'.1],λ i c x h1 h2=>?_⟩;rcases Nat.lt_or_ge i css.length with hi | hi
 ·rw [List.getElem?_append_left hi] at h1;rw [List.getElem?_append_left (by rw [← h.1];exact hi)] at h2;exact h.2 i c x h1 h2
 ·rw [List.getElem?_append_right hi] at h1;rw [List.getElem?_append_right (by rw [← h.1];exact hi),← h.1] at h2;exact h'.2 _ c x h1 h2
end
theorem VR.out {W:World} {F:Nat->Prop} {cs:List Value} {k n:Int} {s:List UInt8} {kids:List JV} {keys:List (List UInt8)} (h:VR W F cs (.mk k n s kids keys)) :
  ∃ A B ca cb css,cs=[Zi Zq k,Zi Zq n,Zt ⟨s.toArray⟩,Zs A kids.length ca,Zs B keys.length cb]/\VRs W F css kids/\kids.length<=ca/\keys.length<=cb/\(A=none->ca=0)/\(B=none->cb=0)/\RdF W F A css.flatten/\RdF W F B (bY keys):=by
 cases h with
 | mk h1 h2 h3 hA hB h4 h5 h6=>exact ⟨_,_,_,_,_,rfl,⟨h1,h6⟩,h2,h3,hA,hB,h4,h5⟩
theorem VR.into {W:World} {F:Nat->Prop} {A B:Option Addr} {ca cb:Nat} {css:List (List Value)} (k n:Int) (s:List UInt8) {kids:List JV} {keys:List (List UInt8)} (h:VRs W F css kids) (h2:kids.length<=ca) (h3:keys.length<=cb) (hA:A=none->ca=0) (hB:B=none->cb=0)
  (h4:RdF W F A css.flatten) (h5:RdF W F B (bY keys)) {na nb:Nat} (hna:na=kids.length) (hnb:nb=keys.length):VR W F [Zi Zq k,Zi Zq n,Zt ⟨s.toArray⟩,Zs A na ca,Zs B nb cb] (.mk k n s kids keys):=by
 subst hna hnb;exact .mk h.1 h2 h3 hA hB h4 h5 h.2
theorem aD {w w':World} (h:Below w.heap.size w w') (row:Option Nat):w.grownBy w' row:=⟨h.os,h.tape,h.output,h.size,λ k hk _=>h.block k hk⟩
theorem wH {w w':World} {base:Nat} {e:TypeId} {size n:Nat} {v:Value} {xs:List Value} (h:w.ownsRow base e size v n xs) (hb:Below w.heap.size w w'):w'.ownsRow base e size v n xs :=
 h.kept (aD hb none) (by cases v.ownBlock<;>simp)
end
end Go.Proofs.YtgmnmnnoahdjnaaGreatDoor
