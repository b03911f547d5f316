import Derived.Test.YtgmnmnnoahdjnaaGreatDoorQ08
import Derived.Test.YtgmnmnnoahdjnaaGreatDoorQ05
open Go.Value renaming int → Zi, slice → Zs, string → Zt, pointer → Zp
open Go.IntKind renaming i64 → Zq
set_option maxRecDepth 100000
set_option maxHeartbeats 16000000
set_option linter.unusedVariables false
set_option linter.unusedSimpArgs false
namespace Go.Proofs.YtgmnmnnoahdjnaaGreatDoor
section
inductive JV where
 | mk:Int->Int->List UInt8->List JV->List (List UInt8)->JV
def JV.kind:JV->Int | .mk k _ _ _ _=>k
def JV.num:JV->Int | .mk _ n _ _ _=>n
def JV.txt:JV->List UInt8 | .mk _ _ s _ _=>s
def JV.kids:JV->List JV | .mk _ _ _ l _=>l
def JV.keys:JV->List (List UInt8) | .mk _ _ _ _ k=>k
def dX:JV:=.mk 0 0 [] [] []
def ltB (a b:List UInt8):Bool:=Op.bytesLess a b
def et (key:List UInt8) (keys:List (List UInt8)):Nat->Nat
 | 0=>0
 | n+1=>if ltB key (keys.getD n []) then et key keys n else n+1
theorem kC (key:List UInt8) (keys:List (List UInt8)):∀ n,et key keys n<=n
 | 0=>Nat.le_refl _
 | n+1=>by unfold et;split;exact Nat.le_succ_of_le (kC key keys n);exact Nat.le_refl _
def fS {α:Type} (l:List α) (i:Nat) (x:α):List α:=l.take i++x::l.drop i
def km (v:JV) (key:List UInt8) (x:JV):JV :=
 match v with
 | .mk k n s kids keys =>
  if k=6 then .mk k n s (fS kids (et key keys kids.length) x) (fS keys (et key keys kids.length) key)
  else .mk k n s (kids++[x]) keys
abbrev o8:=List (JV × List UInt8)
inductive fp where
 | fail:Int->Int->fp
 | done:Nat->JV->fp
 | go:Nat->Nat->Nat->o8->fp
def jU (l:List UInt8) (p e:Int):Int × Int:=(p,if e=7/\(l.length:Int)<=p then 6 else e)
def ti (l:List UInt8) (p e:Int):fp:=.fail (jU l p e).1 (jU l p e).2
def AJ (v:JV) (m many:Nat):o8->fp
 | []=>.done m v
 | (top,key)::r=>.go 5 m many ((km top key v,key)::r)
def xg (c:UInt8):Bool:=decide (c.toNat=34∨c.toNat=91∨c.toNat=123∨c.toNat=45∨c.toNat=110∨c.toNat=116∨c.toNat=102∨(48<=c.toNat/\c.toNat<=57))
def tI (l:List UInt8) (p:Nat):List UInt8->Option Nat
 | []=>none
 | c::r=>if l[p]? = some c then tI l (p+1) r else some p
def wO (l:List UInt8) (p:Nat) (u:List UInt8) (v:JV):Sum (JV × Nat) (Int × Int) :=
 match tI l p u with | none=>.inl (v,p+u.length) | some q=>.inr (jU l q 7)
def AF:List UInt8:=[110,117,108,108]
def AZ:List UInt8:=[116,114,117,101]
def zg:List UInt8:=[102,97,108,115,101]
def AY (l:List UInt8) (p:Nat):Sum (JV × Nat) (Int × Int) :=
 if (cI l p).2.2=0 then .inl (.mk 4 0 (cI l p).1 [] [],(cI l p).2.1.toNat) else .inr (jU l (cI l p).2.1 (cI l p).2.2)
def Br (l:List UInt8) (p:Nat):Sum (JV × Nat) (Int × Int) :=
 if (cg l p).2.2=0 then .inl (.mk 3 (cg l p).1 [] [] [],(cg l p).2.1.toNat) else .inr (jU l (cg l p).2.1 (cg l p).2.2)
def Ap (l:List UInt8) (p:Nat) (c:UInt8):Sum (JV × Nat) (Int × Int) :=
 if c.toNat=34 then AY l p else if c.toNat=110 then wO l p AF (.mk 1 0 [] [] []) else if c.toNat=116 then wO l p AZ (.mk 2 1 [] [] [])
 else if c.toNat=102 then wO l p zg (.mk 2 0 [] [] []) else Br l p
inductive wT where
 | err:Int->Int->wT
 | atom:JV->Nat->wT
 | opens:Nat->Bool->wT
def yV (l:List UInt8) (at_ many deep:Nat):wT :=
 match l[aM l at_]? with
 | none=>.err (jU l (aM l at_) 7).1 (jU l (aM l at_) 7).2
 |some c =>
  if xg c=false then .err (jU l (aM l at_) 7).1 (jU l (aM l at_) 7).2
  else if many=256 then .err (aM l at_) 151
  else if c.toNat=91∨c.toNat=123 then (if deep=8 then .err (aM l at_) 150 else .opens (aM l at_) (decide (c.toNat=123)))
  else match Ap l (aM l at_) c with | .inl (v,m)=>.atom v m | .inr (p,e)=>.err p e
def vW (l:List UInt8) (at_ many:Nat) (stk:o8):fp :=
 match yV l at_ many stk.length with
 | .err p e=>.fail p e
 | .atom v m=>AJ v m (many+1) stk
 | .opens p o=>.go (if o then 2 else 1) (p+1) (many+1) ((.mk (if o then 6 else 5) 0 [] [] [],[])::stk)
def se (l:List UInt8) (q many:Nat):o8->fp
 | []=>.fail q 0
 | (v,_)::r=>AJ v (q+1) many r
def zC (l:List UInt8) (at_ many:Nat) (stk:o8):fp :=
 if l[aM l at_]? = some 93 then se l (aM l at_) many stk else vW l at_ many stk
def AG (l:List UInt8) (at_ many:Nat):o8->fp
 | []=>.fail at_ 0
 |(v,k)::r =>
  if l[aM l at_]? = some 34 then
   if (cI l (aM l at_)).2.2=0 then
    if (cI l (aM l at_)).1 ∈ v.keys then .fail (aM l at_) 141
    else .go 4 (cI l (aM l at_)).2.1.toNat many ((v,(cI l (aM l at_)).1)::r)
   else ti l (cI l (aM l at_)).2.1 (cI l (aM l at_)).2.2
  else ti l (aM l at_) 7
def uh (l:List UInt8) (at_ many:Nat) (stk:o8):fp :=
 if l[aM l at_]? = some 125 then se l (aM l at_) many stk else AG l at_ many stk
def zB (l:List UInt8) (at_ many:Nat) (stk:o8):fp :=
 if l[aM l at_]? = some 58 then .go 0 (aM l at_+1) many stk else ti l (aM l at_) 7
def AI (l:List UInt8) (at_ many:Nat):o8->fp
 | []=>.fail at_ 0
 |(v,k)::r =>
  if l[aM l at_]? = some 44 then .go (if v.kind=6 then 3 else 0) (aM l at_+1) many ((v,k)::r)
  else if l[aM l at_]? = some (if v.kind=6 then 125 else 93) then se l (aM l at_) many ((v,k)::r)
  else ti l (aM l at_) 7
def yF (l:List UInt8):fp->fp
 | .go 0 a m s=>vW l a m s
 | .go 1 a m s=>zC l a m s
 | .go 2 a m s=>uh l a m s
 | .go 3 a m s=>AG l a m s
 | .go 4 a m s=>zB l a m s
 | .go 5 a m s=>AI l a m s
 | r=>r
def vV (l:List UInt8):Nat->fp->fp
 | 0,r=>r
 | k+1,r=>vV l k (yF l r)
end
section
open Go.RowKit
def RdF (W:World) (F:Nat->Prop) (A:Option Addr) (xs:List Value):Prop :=
 xs≠[]->∃ b o,A=some ⟨b,o,none⟩/\b<W.heap.size/\F b/\∀ i (h:i<xs.length),W.cell? ⟨b,o+i,none⟩=some xs[i]
def ah (F:Nat->Prop) (W W':World):Prop:=W.heap.size<=W'.heap.size/\∀ b,F b->b<W.heap.size->W'.heap[b]? = W.heap[b]?
section
variable {W W':World} {F F':Nat->Prop} {A:Option Addr} {xs:List Value}
theorem RdF.rd (h:RdF W F A xs):Rd W A xs:=λ hn=>by
 obtain ⟨b,o,e,hb,_,hx⟩:=h hn;exact ⟨b,o,e,hb,hx⟩
theorem RdF.nil:RdF W F A []:=λ h=>(h rfl).elim
theorem RdF.keep (h:RdF W F A xs) (hk:ah F W W'):RdF W' F A xs:=λ hn=>by
 obtain ⟨b,o,e,hb,hf,hx⟩:=h hn;refine ⟨b,o,e,Nat.lt_of_lt_of_le hb hk.1,hf,λ i hi=>?_⟩;rw [← hx i hi];exact World.cell?_of_block (hk.2 b hf hb)
theorem RdF.mono (h:RdF W F A xs) (hm:∀ b,b<W.heap.size->F b->F' b):RdF W F' A xs:=λ hn=>by
 obtain ⟨b,o,e,hb,hf,hx⟩:=h hn;exact ⟨b,o,e,hb,hm b hb hf,hx⟩
theorem ah.of_below (h:Below W.heap.size W W'):ah F W W':=⟨h.size,λ b _ hb=>h.block b hb⟩
theorem ah.of_grown {g:Option Nat} (h:W.grownBy W' g) (hg:∀ b,F b->some b≠g):ah F W W':=⟨h.size,λ b hf hb=>h.block b hb (hg b hf)⟩
theorem ah.refl:ah F W W:=⟨Nat.le_refl _,λ _ _ _=>rfl⟩
theorem ah.trans {W'':World} (h:ah F W W') (h':ah F W' W''):ah F W W'' :=
 ⟨Nat.le_trans h.1 h'.1,λ b hf hb=>(h'.2 b hf (Nat.lt_of_lt_of_le hb h.1)).trans (h.2 b hf hb)⟩
end
theorem ah.set {W W':World} {F:Nat->Prop} (h:ah F W W') {k:Nat} (hk:∀ b,F b->b≠k) (i:Nat) (u:Value):ah F W (W'.setCell ⟨k,i,none⟩ u) :=
 ⟨by simpa using h.1,λ b hf hb=>(Below.heap_setCell W' ⟨k,i,none⟩ u b (hk b hf)).trans (h.2 b hf hb)⟩
theorem ah.bel {W W' W'':World} {F:Nat->Prop} (h:ah F W W') (hb:Below W'.heap.size W' W''):ah F W W'':=h.trans (ah.of_below hb)
theorem ah.alloc {W W':World} {F:Nat->Prop} (h:ah F W W') (o:Obj):ah F W (W'.alloc o):=h.bel ((Below.refl _ _).alloc (Nat.le_refl _) o)
def jF (ks:List (List UInt8)):List Value:=ks.map λ s=>Zt ⟨s.toArray⟩
theorem j9 (ks:List (List UInt8)):(jF ks).length=ks.length:=by simp [jF]
inductive VR (W:World) (F:Nat->Prop):List Value->JV->Prop where
 | mk {k n:Int} {s:List UInt8} {kids:List JV} {keys:List (List UInt8)} {A B:Option Addr} {ca cb:Nat} {css:List (List Value)} :
   css.length=kids.length->kids.length<=ca->keys.length<=cb->(A=none->ca=0)->(B=none->cb=0)->RdF W F A css.flatten->RdF W F B (jF keys) ->
   (∀ (i:Nat) c x,css[i]? = some c->kids[i]? = some x->VR W F c x) ->
   VR W F [Zi Zq k,Zi Zq n,Zt ⟨s.toArray⟩,Zs A kids.length ca,Zs B keys.length cb] (.mk k n s kids keys)
section
variable {W W':World} {F F':Nat->Prop} {cs:List Value} {v:JV}
theorem VR.keep (h:VR W F cs v) (hk:ah F W W'):VR W' F cs v:=by
 induction h with
 | mk h1 h2 h3 hA hB h4 h5 _ ih=>exact .mk h1 h2 h3 hA hB (h4.keep hk) (h5.keep hk) ih
theorem VR.mono (h:VR W F cs v) (hm:∀ b,b<W.heap.size->F b->F' b):VR W F' cs v:=by
 induction h with
 | mk h1 h2 h3 hA hB h4 h5 _ ih=>exact .mk h1 h2 h3 hA hB (h4.mono hm) (h5.mono hm) ih
theorem VR.bel (h:VR W F cs v) (hb:Below W.heap.size W W'):VR W' F cs v:=h.keep (ah.of_below hb)
theorem VR.form (h:VR W F cs v):∃ (k n:Int) (s:ByteArray) (A:Option Addr) (na ca:Nat) (B:Option Addr) (nb cb:Nat),cs=[Zi Zq k,Zi Zq n,Zt s,Zs A na ca,Zs B nb cb]:=by
 cases h;exact ⟨_,_,_,_,_,_,_,_,_,rfl⟩
theorem VR.len (h:VR W F cs v):cs.length=5:=by cases h;rfl
theorem VR.one (h:VR W F cs v):∀ u ∈ cs,u.oneCell'=true:=by
 cases h
 intro u hu;simp only [List.mem_cons,List.not_mem_nil,or_false] at hu;rcases hu with rfl | rfl | rfl | rfl | rfl<;>rfl
theorem VR.atom (k n:Int) (s:List UInt8):VR W F [Zi Zq k,Zi Zq n,Zt ⟨s.toArray⟩,Zs none 0 0,Zs none 0 0] (.mk k n s [] []) :=
 VR.mk (kids:=[]) (keys:=[]) (css:=[]) (ca:=0) (cb:=0) rfl (Nat.le_refl _) (Nat.le_refl _) (λ _=>rfl) (λ _=>rfl) RdF.nil RdF.nil (λ i c x h=>by simp at h)
theorem VR.zero:VR W F [Zi Zq 0,Zi Zq 0,Zt ⟨#[]⟩,Zs none 0 0,Zs none 0 0] dX:=VR.atom 0 0 []
end
def VRs (W:World) (F:Nat->Prop) (css:List (List Value)) (xs:List JV):Prop:=css.length=xs.length/\∀ (i:Nat) c x,css[i]? = some c->xs[i]? = some x->VR W F c x
section
variable {W W':World} {F F':Nat->Prop} {css:List (List Value)} {xs:List JV}
theorem VRs.keep (h:VRs W F css xs) (hk:ah F W W'):VRs W' F css xs:=⟨h.1,λ i c x h1 h2=>(h.2 i c x h1 h2).keep hk⟩
theorem VRs.mono (h:VRs W F css xs) (hm:∀ b,b<W.heap.size->F b->F' b):VRs W F' css xs:=⟨h.1,λ i c x h1 h2=>(h.2 i c x h1 h2).mono hm⟩
theorem VRs.below (h:VRs W F css xs) (hb:Below W.heap.size W W'):VRs W' F css xs:=h.keep (ah.of_below hb)
theorem VRs.nil:VRs W F [] []:=⟨rfl,λ i c x h=>by simp at h⟩
theorem iQ:∀ {css:List (List Value)},(∀ c ∈ css,c.length=5)->css.flatten.length=css.length*5
 | [],_=>rfl
 |c::r,h=>by
  rw [List.flatten_cons,List.length_append,h c List.mem_cons_self,iQ (λ c hc=>h c (List.mem_cons_of_mem _ hc)),List.length_cons];omega
theorem ku:∀ {css:List (List Value)} (_:∀ c ∈ css,c.length=5) {i:Nat} {c:List Value} (_:css[i]? = some c) {j:Nat} (_:j<5),css.flatten[i*5+j]? = c[j]?
 | [],_,i,c,h,_,_=>by simp at h
 |c'::r,h5,0,c,h,j,hj=>by
  have:c'=c:=by simpa using h
  subst this;rw [List.flatten_cons,Nat.zero_mul,Nat.zero_add,List.getElem?_append_left (by rw [h5 c' List.mem_cons_self];exact hj)]
 |c'::r,h5,i+1,c,h,j,hj=>by
  have h':r[i]? = some c:=by simpa using h
  have hl:=h5 c' List.mem_cons_self;rw [List.flatten_cons,List.getElem?_append_right (by omega),← ku (λ c hc=>h5 c (List.mem_cons_of_mem _ hc)) h' hj];congr 1;omega
theorem VRs.five (h:VRs W F css xs):∀ c ∈ css,c.length=5:=λ c hc=>by
 obtain ⟨i,hi,rfl⟩:=List.getElem_of_mem hc;have hx:i<xs.length:=by rw [← h.1];exact hi
 exact (h.2 i _ _ (List.getElem?_eq_getElem hi) (List.getElem?_eq_getElem hx)).len
theorem VRs.one (h:VRs W F css xs):∀ u ∈ css.flatten,u.oneCell'=true:=λ u hu=>by
 obtain ⟨c,hc,hu⟩:=List.mem_flatten.1 hu;obtain ⟨i,hi,rfl⟩:=List.getElem_of_mem hc;have hx:i<xs.length:=by rw [← h.1];exact hi
 exact (h.2 i _ _ (List.getElem?_eq_getElem hi) (List.getElem?_eq_getElem hx)).one u hu
theorem VRs.snoc {c:List Value} {x:JV} (h:VRs W F css xs) (hx:VR W F c x):VRs W F (css++[c]) (xs++[x]):=by
 refine ⟨by simp [h.1],λ i c' x' h1 h2=>?_⟩;rcases Nat.lt_or_ge i css.length with hi | hi
 ·rw [List.getElem?_append_left hi] at h1;rw [List.getElem?_append_left (by rw [← h.1];exact hi)] at h2;exact h.2 i c' x' h1 h2
 ·rw [List.getElem?_append_right hi] at h1;rw [List.getElem?_append_right (by rw [← h.1];exact hi)] at h2;have:i-css.length=0:=by
   rcases Nat.eq_zero_or_pos (i-css.length) with h0 | h0
   ·exact h0
   ·rw [List.getElem?_eq_none (by simp;omega)] at h1;cases h1
  rw [this] at h1;rw [← h.1,this] at h2;obtain rfl:c=c':=by simpa using h1
  obtain rfl:x=x':=by simpa using h2
  exact hx
theorem VRs.get_ {i:Nat} {x:JV} (h:VRs W F css xs) (hx:xs[i]? = some x):∃ c,css[i]? = some c/\VR W F c x:=by
 have hi:i<css.length:=by rw [h.1];exact (List.getElem?_eq_some_iff.1 hx).1
 exact ⟨_,List.getElem?_eq_getElem hi,h.2 i _ x (List.getElem?_eq_getElem hi) hx⟩
theorem VRs.take (h:VRs W F css xs) (n:Nat):VRs W F (css.take n) (xs.take n):=by
 refine ⟨by simp [h.1],λ i c x h1 h2=>?_⟩;rw [List.getElem?_take] at h1 h2;split at h1
 ·rename_i hi;rw [if_pos hi] at h2;exact h.2 i c x h1 h2
 ·cases h1
theorem VRs.drop (h:VRs W F css xs) (n:Nat):VRs W F (css.drop n) (xs.drop n):=by
 refine ⟨by simp [h.1],λ i c x h1 h2=>?_⟩;rw [List.getElem?_drop] at h1 h2;exact h.2 _ c x h1 h2
theorem VRs.append {css':List (List Value)} {xs':List JV} (h:VRs W F css xs) (h':VRs W F css' xs'):VRs W F (css++css') (xs++xs'):=by
 refine ⟨by simp [h.1,h'.1],λ i c x h1 h2=>?_⟩;rcases Nat.lt_or_ge i css.length with hi | hi
 ·rw [List.getElem?_append_left hi] at h1;rw [List.getElem?_append_left (by rw [← h.1];exact hi)] at h2;exact h.2 i c x h1 h2
 ·rw [List.getElem?_append_right hi] at h1;rw [List.getElem?_append_right (by rw [← h.1];exact hi),← h.1] at h2;exact h'.2 _ c x h1 h2
end
theorem VR.out {W:World} {F:Nat->Prop} {cs:List Value} {k n:Int} {s:List UInt8} {kids:List JV} {keys:List (List UInt8)} (h:VR W F cs (.mk k n s kids keys)) :
  ∃ A B ca cb css,cs=[Zi Zq k,Zi Zq n,Zt ⟨s.toArray⟩,Zs A kids.length ca,Zs B keys.length cb]/\VRs W F css kids/\kids.length<=ca/\keys.length<=cb/\(A=none->ca=0)/\(B=none->cb=0)/\RdF W F A css.flatten/\RdF W F B (jF keys):=by
 cases h with
 | mk h1 h2 h3 hA hB h4 h5 h6=>exact ⟨_,_,_,_,_,rfl,⟨h1,h6⟩,h2,h3,hA,hB,h4,h5⟩
theorem VR.into {W:World} {F:Nat->Prop} {A B:Option Addr} {ca cb:Nat} {css:List (List Value)} (k n:Int) (s:List UInt8) {kids:List JV} {keys:List (List UInt8)} (h:VRs W F css kids) (h2:kids.length<=ca) (h3:keys.length<=cb) (hA:A=none->ca=0) (hB:B=none->cb=0)
  (h4:RdF W F A css.flatten) (h5:RdF W F B (jF keys)) {na nb:Nat} (hna:na=kids.length) (hnb:nb=keys.length):VR W F [Zi Zq k,Zi Zq n,Zt ⟨s.toArray⟩,Zs A na ca,Zs B nb cb] (.mk k n s kids keys):=by
 subst hna hnb;exact .mk h.1 h2 h3 hA hB h4 h5 h.2
theorem aD {w w':World} (h:Below w.heap.size w w') (row:Option Nat):w.grownBy w' row:=⟨h.os,h.tape,h.output,h.size,λ k hk _=>h.block k hk⟩
theorem mQ {w w':World} {base:Nat} {e:TypeId} {size n:Nat} {v:Value} {xs:List Value} (h:w.ownsRow base e size v n xs) (hb:Below w.heap.size w w'):w'.ownsRow base e size v n xs :=
 h.kept (aD hb none) (by cases v.ownBlock<;>simp)
end
end Go.Proofs.YtgmnmnnoahdjnaaGreatDoor
