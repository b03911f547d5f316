import Derived.Test.YtgmnmnnoahdjnaaGreatDoorC14
import Derived.Test.YtgmnmnnoahdjnaaGreatDoorC12
import Derived.Test.YtgmnmnnoahdjnaaGreatDoorC13
import Derived.Test.YtgmnmnnoahdjnaaGreatDoorC15
open Go.Value renaming int → Zi, slice → Zs, string → Zt, pointer → Zp
open Go.IntKind renaming i64 → Zq
set_option maxRecDepth 100000
set_option maxHeartbeats 16000000
set_option linter.unusedVariables false
set_option linter.unusedSimpArgs false
namespace Go.Proofs.YtgmnmnnoahdjnaaGreatDoor
section
open Go.RowKit
theorem Blk.farC {g b:Nat} {t:TypeId} {cs:Array Value} (hb:g≠b):∀ (l:List Value) (o:Nat) {w:World},Blk w g t cs->Blk (w.setCells b o l) g t cs
 | [],_,_,h=>h
 | v::r,o,w,h=>Blk.farC hb r (o+1) (h.far hb v)
theorem ah.setC {F:Nat->Prop} {a:World} {b:Nat} (hb:∀ k,F k->k≠b):∀ (l:List Value) (o:Nat) {w:World},ah F a w->ah F a (w.setCells b o l)
 | [],_,_,h=>h
 | v::r,o,w,h=>ah.setC hb r (o+1) (h.set hb o v)
theorem Blk.there {w:World} {g:Nat} {t:TypeId} {cs:Array Value} (h:Blk w g t cs):World.there w g 0 cs.size :=
 λ j hj=>⟨by rw [Nat.zero_add,h.cell];simp [hj],h.frozen _⟩
def FO (G:Nat->Prop) (row:Value) (b:Nat):Prop:=G b/\some b≠row.ownBlock
theorem aT.grown {L:List (Nat × TypeId × Array Value)} {w0 W W':World} {r:Option Nat} (h:aT L w0 W) (hg:W.grownBy W' r) (hr:∀ k,r=some k->w0.heap.size<=k) (hL:∀ x ∈ L,some x.1≠r):aT L w0 W' :=
 ⟨h.1.grown hg h.1.size hr,λ x hx=>(h.2 x hx).grown hg (hL x hx)⟩
theorem bW {w:World} {base:Nat} {e:TypeId} {size n:Nat} {v:Value} {xs:List Value} (h:w.ownsRow base e size v n xs):∃ A cap,v=Zs A n cap/\n<=cap/\(A=none->cap=0)/\RdF w (λ b=>base<=b) A xs:=by
 obtain ⟨A,cap,e1,h1,h2⟩:=Rd.of_own h;refine ⟨A,cap,e1,h1,?_,λ hne=>?_⟩;rotate_left
 ·obtain ⟨b,o,e2,hb,hc⟩:=h2 hne;exact ⟨b,o,e2,hb,(h.lt b (by rw [e1,e2];rfl)).1,hc⟩
 rintro rfl;rcases h.2 with ⟨e2,_⟩ | ⟨g,cap',cur,e2,_⟩
 ·rw [e1] at e2;injection e2
 ·rw [e1] at e2;injection e2 with e2;cases e2
theorem t0 {w w2:World} {G:Nat->Prop} {row row2:Value} {css:List (List Value)} {kids:List EJ} (h:ERs w (FO G row) css kids) (hg:w.grownBy w2 row.ownBlock) (ho:row2.ownBlock=row.ownBlock∨row2.ownBlock=some w.heap.size) :
  ERs w2 (FO G row2) css kids:=by
 refine RR.imp h λ c x hc=>?_
 have h1:ER w (λ b=>FO G row b/\b<w.heap.size) c x:=hc.mono λ b hb hF=>⟨hF,hb⟩
 have h2:ER w2 (λ b=>FO G row b/\b<w.heap.size) c x:=h1.keep (ah.of_grown hg λ b hb=>hb.1.2);refine h2.mono λ b _ hF=>⟨hF.1.1,λ e=>?_⟩
 rcases ho with ho | ho
 ·exact hF.1.2 (by rw [e,ho])
 ·rw [ho] at e;have:b=w.heap.size:=by injection e
  omega
theorem kL {w w2:World} {G:Nat->Prop} {row row2:Value} {css:List (List Value)} {kids:List SJ} (h:SRs w (FO G row) css kids) (hg:w.grownBy w2 row.ownBlock) (ho:row2.ownBlock=row.ownBlock∨row2.ownBlock=some w.heap.size) :
  SRs w2 (FO G row2) css kids:=by
 refine RR.imp h λ c x hc=>?_
 have h1:SR w (λ b=>FO G row b/\b<w.heap.size) c x:=hc.mono λ b hb hF=>⟨hF,hb⟩
 have h2:SR w2 (λ b=>FO G row b/\b<w.heap.size) c x:=h1.keep (ah.of_grown hg λ b hb=>hb.1.2);refine h2.mono λ b _ hF=>⟨hF.1.1,λ e=>?_⟩
 rcases ho with ho | ho
 ·exact hF.1.2 (by rw [e,ho])
 ·rw [ho] at e;have:b=w.heap.size:=by injection e
  omega
theorem Blk.setSA {w:World} {g:Nat} {t:TypeId} {c0 c1 c2 c3 c4 c5 c6 c7 c8 c9 c10 c11 c12 c13 c14 c15 c16 c17 c18 c19:Value} (h:Blk w g t #[c0,c1,c2,c3,c4,c5,c6,c7,c8,c9,c10,c11,c12,c13,c14,c15,c16,c17,c18,c19]) (x0 x1 x2 x3 x4 x5 x6 x7:Value):Blk (w.setCells g 2 [x0,x1,x2,x3,x4,x5,x6,x7]) g t #[c0,c1,x0,x1,x2,x3,x4,x5,x6,x7,c10,c11,c12,c13,c14,c15,c16,c17,c18,c19]:=by
 replace h:=h.set_ 2 x0;simp only [List.setIfInBounds_toArray,List.set_cons_succ,List.set_cons_zero] at h;replace h:=h.set_ 3 x1;simp only [List.setIfInBounds_toArray,List.set_cons_succ,List.set_cons_zero] at h;replace h:=h.set_ 4 x2;simp only [List.setIfInBounds_toArray,List.set_cons_succ,List.set_cons_zero] at h;replace h:=h.set_ 5 x3;simp only [List.setIfInBounds_toArray,List.set_cons_succ,List.set_cons_zero] at h;replace h:=h.set_ 6 x4;simp only [List.setIfInBounds_toArray,List.set_cons_succ,List.set_cons_zero] at h;replace h:=h.set_ 7 x5;simp only [List.setIfInBounds_toArray,List.set_cons_succ,List.set_cons_zero] at h;replace h:=h.set_ 8 x6;simp only [List.setIfInBounds_toArray,List.set_cons_succ,List.set_cons_zero] at h;replace h:=h.set_ 9 x7;simp only [List.setIfInBounds_toArray,List.set_cons_succ,List.set_cons_zero] at h;exact h
theorem Blk.setSB {w:World} {g:Nat} {t:TypeId} {c0 c1 c2 c3 c4 c5 c6 c7 c8 c9 c10 c11 c12 c13 c14 c15 c16 c17 c18 c19:Value} (h:Blk w g t #[c0,c1,c2,c3,c4,c5,c6,c7,c8,c9,c10,c11,c12,c13,c14,c15,c16,c17,c18,c19]) (x0 x1 x2 x3 x4 x5 x6 x7:Value):Blk (w.setCells g 10 [x0,x1,x2,x3,x4,x5,x6,x7]) g t #[c0,c1,c2,c3,c4,c5,c6,c7,c8,c9,x0,x1,x2,x3,x4,x5,x6,x7,c18,c19]:=by
 replace h:=h.set_ 10 x0;simp only [List.setIfInBounds_toArray,List.set_cons_succ,List.set_cons_zero] at h;replace h:=h.set_ 11 x1;simp only [List.setIfInBounds_toArray,List.set_cons_succ,List.set_cons_zero] at h;replace h:=h.set_ 12 x2;simp only [List.setIfInBounds_toArray,List.set_cons_succ,List.set_cons_zero] at h;replace h:=h.set_ 13 x3;simp only [List.setIfInBounds_toArray,List.set_cons_succ,List.set_cons_zero] at h;replace h:=h.set_ 14 x4;simp only [List.setIfInBounds_toArray,List.set_cons_succ,List.set_cons_zero] at h;replace h:=h.set_ 15 x5;simp only [List.setIfInBounds_toArray,List.set_cons_succ,List.set_cons_zero] at h;replace h:=h.set_ 16 x6;simp only [List.setIfInBounds_toArray,List.set_cons_succ,List.set_cons_zero] at h;replace h:=h.set_ 17 x7;simp only [List.setIfInBounds_toArray,List.set_cons_succ,List.set_cons_zero] at h;exact h
def PbM (mb:Nat) (em:Value) (w:World) (b:Nat):Prop:=b<w.heap.size/\b≠mb/\some b≠em.ownBlock
structure MG (mb:Nat) (a:Value) (w:World) (b:Value) (w':World):Prop where
 os:w'.os=w.os
 tape:w'.tape=w.tape
 output:w'.output=w.output
 size:w.heap.size<=w'.heap.size
 block:∀ k,k<w.heap.size->k≠mb->some k≠a.ownBlock->w'.heap[k]? = w.heap[k]?
 own:b.ownBlock=a.ownBlock∨∃ k,b.ownBlock=some k/\w.heap.size<=k
theorem gm {P:Program} {md:Region.Mode} {ops:Array Oper} {Q:Exit->Act->World->Prop} {S:World->Prop} {fuel:Nat} {listed:Array Bool} {a:Act} {w:World} (h:∀ W,W=w->wpAnyH P md ops Q S fuel listed a W):wpAnyH P md ops Q S fuel listed a w:=h w rfl
section
variable {mb:Nat} {a b c:Value} {w w1 w2 W:World}
theorem MG.refl (mb:Nat) (a:Value) (w:World):MG mb a w a w:=⟨rfl,rfl,rfl,Nat.le_refl _,λ _ _ _ _=>rfl,.inl rfl⟩
theorem MG.trans (h:MG mb a w b w1) (k:MG mb b w1 c w2):MG mb a w c w2:=by
 refine ⟨k.os.trans h.os,k.tape.trans h.tape,k.output.trans h.output,Nat.le_trans h.size k.size,λ i hi hm hne=>(k.block i (Nat.lt_of_lt_of_le hi h.size) hm ?_).trans (h.block i hi hm hne),?_⟩
 ·rcases h.own with h2 | ⟨q,h2,h3⟩
  ·rw [h2];exact hne
  ·rw [h2];intro e;injection e with e;omega
 ·rcases k.own with k2 | ⟨q,k2,k3⟩
  ·rcases h.own with h2 | ⟨q',h2,h3⟩
   ·exact .inl (k2.trans h2)
   ·exact .inr ⟨q',k2.trans h2,h3⟩
  ·exact .inr ⟨q,k2,Nat.le_trans h.size k3⟩
theorem MG.bel (h:Below w.heap.size w w1):MG mb a w a w1:=⟨h.os,h.tape,h.output,h.size,λ k hk _ _=>h.block k hk,.inl rfl⟩
theorem MG.set (h:MG mb a w b w1) (i:Nat) (u:Value):MG mb a w b (w1.setCell ⟨mb,i,none⟩ u) :=
 ⟨h.os,h.tape,h.output,by simpa [World.setCell] using h.size,λ k hk hm hne=>(Below.heap_setCell w1 ⟨mb,i,none⟩ u k hm).trans (h.block k hk hm hne),h.own⟩
theorem MG.app (h:w.grownBy w1 a.ownBlock) (ho:b.ownBlock=a.ownBlock∨b.ownBlock=some w.heap.size):MG mb a w b w1 :=
 ⟨h.os,h.tape,h.output,h.size,λ k hk _ hne=>h.block k hk hne,ho.imp id λ e=>⟨_,e,Nat.le_refl _⟩⟩
theorem MG.below {base:Nat} (h:MG mb a w b w1) (hb:base<=w.heap.size) (hm:base<=mb) (ho:∀ k,a.ownBlock=some k->base<=k):Below base w w1 :=
 ⟨h.os,h.tape,h.output,h.size,λ k hk=>h.block k (by omega) (by omega) (λ e=>by have:=ho k e.symm;omega)⟩
theorem MG.pb (h:MG mb a w b w1) {k:Nat} (hk:PbM mb a w k):PbM mb b w1 k:=by
 refine ⟨Nat.lt_of_lt_of_le hk.1 h.size,hk.2.1,?_⟩;rcases h.own with h2 | ⟨q,h2,h3⟩
 ·rw [h2];exact hk.2.2
 ·rw [h2];intro e;injection e with e;have:=hk.1;omega
theorem MG.keepF (h:MG mb a w b w1):ah (PbM mb a w) w w1:=⟨h.size,λ k hf hk=>h.block k hk hf.2.1 hf.2.2⟩
theorem MG.blk (h:MG mb a w b w1) {g:Nat} {t:TypeId} {cs:Array Value} (hb:Blk w g t cs) (hm:g≠mb) (ho:some g≠a.ownBlock):Blk w1 g t cs:=(h.block g hb.lt hm ho).trans hb
theorem VR.mg {cs:List Value} {v:JV} (h:VR w (PbM mb a w) cs v) (g:MG mb a w b w1):VR w1 (PbM mb b w1) cs v:=(h.keep g.keepF).mono λ _ _ hb=>g.pb hb
theorem ER.mg {cs:List Value} {v:EJ} (h:ER w (PbM mb a w) cs v) (g:MG mb a w b w1):ER w1 (PbM mb b w1) cs v:=(h.keep g.keepF).mono λ _ _ hb=>g.pb hb
theorem SR.mg {cs:List Value} {v:SJ} (h:SR w (PbM mb a w) cs v) (g:MG mb a w b w1):SR w1 (PbM mb b w1) cs v:=(h.keep g.keepF).mono λ _ _ hb=>g.pb hb
theorem RdF.mg {A:Option Addr} {xs:List Value} (h:RdF w (PbM mb a w) A xs) (g:MG mb a w b w1):RdF w1 (PbM mb b w1) A xs:=(h.keep g.keepF).mono λ _ _ hb=>g.pb hb
end
end
section
open Go.RowKit Go.Shelf
def bh (ob:Option Nat) (W:World) (k:Nat):Prop:=∃ b,ob=some b/\(k=b∨∃ v,W.cell? ⟨b,0,none⟩=some v/\v.ownBlock=some k)
theorem gH {W:World} {k:Nat}:¬ bh none W k:=λ ⟨b,h,_⟩=>by cases h
theorem dl {ob:Option Nat} {A B:World} (hb:∀ b,ob=some b->B.heap[b]? = A.heap[b]?) {k:Nat} (h:bh ob B k):bh ob A k:=by
 obtain ⟨b,e,h⟩:=h;refine ⟨b,e,h.imp id λ ⟨v,h1,h2⟩=>⟨v,?_,h2⟩⟩;rw [← h1];exact (World.cell?_of_block (w:=A) (a:=⟨b,0,none⟩) (hb b e)).symm
structure FrO (ob:Option Nat) (A B:World):Prop where
 os:B.os=A.os
 tape:B.tape=A.tape
 output:B.output=A.output
 size:A.heap.size<=B.heap.size
 block:∀ k,k<A.heap.size->¬ bh ob A k->B.heap[k]? = A.heap[k]?
 own:∀ k,bh ob B k->bh ob A k∨(A.heap.size<=k/\k<B.heap.size)
section
variable {ob:Option Nat} {A B C:World}
theorem FrO.refl (ob:Option Nat) (A:World):FrO ob A A:=⟨rfl,rfl,rfl,Nat.le_refl _,λ _ _ _=>rfl,λ _ h=>.inl h⟩
theorem FrO.trans (h:FrO ob A B) (k:FrO ob B C):FrO ob A C:=by
 refine ⟨k.os.trans h.os,k.tape.trans h.tape,k.output.trans h.output,Nat.le_trans h.size k.size,λ i hi hn=>(k.block i (Nat.lt_of_lt_of_le hi h.size) λ h'=>?_).trans (h.block i hi hn),λ i hi=>?_⟩
 ·rcases h.own i h' with h1 | h1
  ·exact hn h1
  ·omega
 ·rcases k.own i hi with h1 | h1
  ·exact (h.own i h1).imp id λ h2=>⟨h2.1,Nat.lt_of_lt_of_le h2.2 k.size⟩
  ·exact .inr ⟨Nat.le_trans h.size h1.1,h1.2⟩
theorem FrO.of_below (hob:∀ b,ob=some b->b<A.heap.size) (h:Below A.heap.size A B):FrO ob A B :=
 ⟨h.os,h.tape,h.output,h.size,λ k hk _=>h.block k hk,λ k hk=>.inl (dl (λ b e=>h.block b (hob b e)) hk)⟩
theorem FrO.below (h:FrO none A B):Below A.heap.size A B:=⟨h.os,h.tape,h.output,h.size,λ k hk=>h.block k hk gH⟩
theorem FrO.keepF (h:FrO ob A B):ah (λ b=>¬ bh ob A b) A B:=⟨h.size,λ k hf hk=>h.block k hk hf⟩
theorem FrO.blk (h:FrO ob A B) {g:Nat} {t:TypeId} {cs:Array Value} (hb:Blk A g t cs) (hn:¬ bh ob A g):Blk B g t cs:=(h.block g hb.lt hn).trans hb
theorem FrO.ownlt (h:FrO ob A B) (hO:∀ k,bh ob A k->k<A.heap.size):∀ k,bh ob B k->k<B.heap.size:=λ k hk=>(h.own k hk).elim (λ h1=>Nat.lt_of_lt_of_le (hO k h1) h.size) λ h1=>h1.2
theorem FrO.not_own (h:FrO ob A B) {k:Nat} (hk:k<A.heap.size) (hn:¬ bh ob A k):¬ bh ob B k:=λ h'=>(h.own k h').elim hn λ h=>by omega
theorem FrO.shut (h:FrO ob A B) {D:Nat} (o':Obj) (hD:A.heap.size<=D) (hob:∀ b,ob=some b->b<A.heap.size):FrO ob A (B.putObj D o'):=by
 have hs:(B.putObj D o').heap.size=B.heap.size:=by simp [World.putObj]
 refine ⟨h.os,h.tape,h.output,by rw [hs];exact h.size,λ k hk hn=>(World.putObj_heap_other (by omega)).trans (h.block k hk hn),λ k hk=>?_⟩;rw [hs];exact h.own k (dl (λ b e=>World.putObj_heap_other (by have:=hob b e;omega)) hk)
end
structure KpR (ob:Option Nat) (N:Nat) (A B:World):Prop where
 os:B.os=A.os
 tape:B.tape=A.tape
 output:B.output=A.output
 size:A.heap.size<=B.heap.size
 block:∀ k,k<A.heap.size->¬ bh ob A k->(N<=k->∀ L,A.heap[k]? ≠ some (.loop L))->B.heap[k]? = A.heap[k]?
 own:∀ k,bh ob B k->bh ob A k∨(A.heap.size<=k/\k<B.heap.size)
section
variable {ob:Option Nat} {N:Nat} {A B C:World}
theorem KpR.of_fro (h:FrO ob A B):KpR ob N A B:=⟨h.os,h.tape,h.output,h.size,λ k hk hn _=>h.block k hk hn,h.own⟩
theorem KpR.refl (ob:Option Nat) (N:Nat) (A:World):KpR ob N A A:=.of_fro (.refl _ _)
theorem KpR.trans (h:KpR ob N A B) (k:KpR ob N B C):KpR ob N A C:=by
 refine ⟨k.os.trans h.os,k.tape.trans h.tape,k.output.trans h.output,Nat.le_trans h.size k.size,λ i hi hn hl=>?_,λ i hi=>?_⟩
 ·have h1:=h.block i hi hn hl;refine (k.block i (Nat.lt_of_lt_of_le hi h.size) (λ h'=>?_) (λ hN L=>by rw [h1];exact hl hN L)).trans h1;rcases h.own i h' with h2 | h2
  ·exact hn h2
  ·omega
 ·rcases k.own i hi with h1 | h1
  ·exact (h.own i h1).imp id λ h2=>⟨h2.1,Nat.lt_of_lt_of_le h2.2 k.size⟩
  ·exact .inr ⟨Nat.le_trans h.size h1.1,h1.2⟩
theorem KpR.putObj {W:World} {k:Nat} {o:Obj} (o':Obj) (hk:N<=k) (ho:W.heap[k]? = some o) (hL:∃ L,o=.loop L) (hob:∀ b,ob=some b->b<N):KpR ob N W (W.putObj k o'):=by
 refine ⟨rfl,rfl,rfl,by simp [World.putObj],λ j hj _ hl=>World.putObj_heap_other ?_,λ j hj=>.inl (dl (λ b e=>World.putObj_heap_other ?_) hj)⟩
 ·rintro rfl;obtain ⟨L,rfl⟩:=hL;exact hl hk L ho
 ·have:=hob b e;omega
theorem KpR.blk (h:KpR ob N A B) {g:Nat} {t:TypeId} {cs:Array Value} (hb:Blk A g t cs) (hn:¬ bh ob A g):Blk B g t cs :=
 (h.block g hb.lt hn λ _ L e=>by unfold Blk at hb;rw [hb] at e;cases e).trans hb
theorem KpR.ownlt (h:KpR ob N A B) (hO:∀ k,bh ob A k->k<A.heap.size):∀ k,bh ob B k->k<B.heap.size:=λ k hk=>(h.own k hk).elim (λ h1=>Nat.lt_of_lt_of_le (hO k h1) h.size) λ h1=>h1.2
theorem KpR.not_own (h:KpR ob N A B) {k:Nat} (hk:k<A.heap.size) (hn:¬ bh ob A k):¬ bh ob B k:=λ h'=>(h.own k h').elim hn λ h=>by omega
theorem KpR.fro (h:KpR ob A.heap.size A B):FrO ob A B:=⟨h.os,h.tape,h.output,h.size,λ k hk hn=>h.block k hk hn λ hN=>by omega,h.own⟩
theorem KpR.keepF (h:KpR ob A.heap.size A B):ah (λ b=>¬ bh ob A b) A B:=h.fro.keepF
end
def ij (A B:World):Prop:=A.heap.size<=B.heap.size/\∀ (k:Nat) (o:Obj),A.heap[k]? = some o->o.isCells=true->B.heap[k]? = some o
theorem ij.of_below {A B:World} (h:Below A.heap.size A B):ij A B:=⟨h.size,λ k o hk _=>(h.block k (Array.getElem?_eq_some_iff.1 hk).1).trans hk⟩
theorem ij.putObj {W:World} {k:Nat} {o:Obj} (o':Obj) (ho:W.heap[k]? = some o) (hc:o.isCells=false):ij W (W.putObj k o') :=
 ⟨by simp [World.putObj],λ j q hj hq=>(World.putObj_heap_other (λ e=>by subst e;rw [hj] at ho;injection ho with ho;subst ho;rw [hq] at hc;cases hc)).trans hj⟩
theorem ij.blk {A B:World} (h:ij A B) {g:Nat} {t:TypeId} {cs:Array Value} (hb:Blk A g t cs):Blk B g t cs:=h.2 g _ hb rfl
structure StW {σ:Type} (ob:Option Nat) (Sx:σ->World->Prop):Prop where
 keep:∀ st A B,ij A B->Sx st A->Sx st B
 cells:∀ st A k,Sx st A->bh ob A k->∃ o,A.heap[k]? = some o/\o.isCells=true
section
variable {σ:Type} {ob:Option Nat} {Sx:σ->World->Prop} {A B:World} {st:σ}
theorem StW.lt (hX:StW ob Sx) (h:Sx st A) {b:Nat} (e:ob=some b):b<A.heap.size:=by
 obtain ⟨o,ho,_⟩:=hX.cells st A b h ⟨b,e,.inl rfl⟩;exact (Array.getElem?_eq_some_iff.1 ho).1
theorem StW.ownlt (hX:StW ob Sx) (h:Sx st A) {k:Nat} (e:bh ob A k):k<A.heap.size:=by
 obtain ⟨o,ho,_⟩:=hX.cells st A k h e;exact (Array.getElem?_eq_some_iff.1 ho).1
theorem StW.bel (hX:StW ob Sx) (h:Sx st A) (hb:Below A.heap.size A B):Sx st B:=hX.keep _ _ _ (.of_below hb) h
theorem StW.keepsFrom (hX:StW ob Sx) (h:Sx st A) (hf:FrO ob A B) (N:Nat):KeepsFrom N A B :=
 ⟨hf.size,λ k o _ hk ho=>(hf.block k (Array.getElem?_eq_some_iff.1 hk).1 λ hw=>by
  obtain ⟨o',h1,h2⟩:=hX.cells st A k h hw;rw [hk] at h1;injection h1 with h1;subst h1;rw [ho] at h2;cases h2).trans hk⟩
end
def mkD (D:Nat):Deferred:={ target:=.collected D,args:=#[] }
structure MkS (B:Nat) (Ds:List Nat) (W:World):Prop where
 nodup:Ds.Nodup
 there:∀ D ∈ Ds,B<=D/\W.heap[D]? = some (.deferred (some []))
section
variable {σ:Type} {ob:Option Nat} {Sx:σ->World->Prop} {A W W':World} {st:σ} {N D:Nat} {Ds:List Nat}
theorem MkS.nil (B:Nat) (W:World):MkS B [] W:=⟨List.nodup_nil,λ D h=>by cases h⟩
theorem MkS.push (h:MkS N Ds W) (hD:N<=D) (hn:D ∉ Ds) (hh:W.heap[D]? = some (.deferred (some []))):MkS N (D::Ds) W :=
 ⟨List.nodup_cons.2 ⟨hn,h.nodup⟩,λ D' hD'=>by rcases List.mem_cons.1 hD' with rfl | hD';exact ⟨hD,hh⟩;exact h.there D' hD'⟩
theorem MkS.lt (h:MkS N Ds W) (hD:D ∈ Ds):D<W.heap.size:=(Array.getElem?_eq_some_iff.1 (h.there D hD).2).1
theorem MkS.keep (h:MkS N Ds W) (hX:StW ob Sx) (hS:Sx st W) (hf:FrO ob W W'):MkS N Ds W' :=
 ⟨h.nodup,λ D hD=>⟨(h.there D hD).1,(hX.keepsFrom hS hf 0).same D _ (Nat.zero_le _) (h.there D hD).2 rfl⟩⟩
theorem MkS.bel (h:MkS N Ds W) (hb:Below W.heap.size W W'):MkS N Ds W' :=
 ⟨h.nodup,λ D hD=>⟨(h.there D hD).1,(hb.block D (h.lt hD)).trans (h.there D hD).2⟩⟩
theorem iC {F:Fence} {n:Nat} {P:Program} {fn:Func} {tmps:Array Value} {R:Ending->World->Prop} (u:FrameMode) (hu:u≠.run) (hX:StW ob Sx) (hob:∀ b,ob=some b->b<A.heap.size)
  (hfin:∀ W',FrO ob A W'->Sx st W'->LeavesIn F n P fn tmps R [] u W') :
  ∀ (Ds:List Nat) (W:World),MkS A.heap.size Ds W->FrO ob A W->Sx st W->LeavesInM F n P fn tmps R (Ds.map mkD) u W
 | [],W,_,hf,hS=>hfin W hf hS
 |D::r,W,hm,hf,hS=>by
  obtain ⟨h1,h2⟩:=hm.there D List.mem_cons_self;refine ⟨hu,.inl ⟨D,_,rfl,run_takeDeferred h2,?_⟩⟩;have hnd:=List.nodup_cons.1 hm.nodup;refine iC u hu hX hob hfin r _ ⟨hnd.2,λ D' hD'=>⟨(hm.there D' (List.mem_cons_of_mem _ hD')).1,?_⟩⟩ (hf.shut _ h1 hob) (hX.keep _ _ _ (ij.putObj _ h2 rfl) hS);refine (World.putObj_heap_other λ e=>?_).trans (hm.there D' (List.mem_cons_of_mem _ hD')).2;subst e;exact hnd.1 hD'
end
end
section
open Go.RowKit
attribute [local go_sem] aa ac ae ab
def AF (l:List UInt8) (w:World) (e:Ending) (w':World):Prop:=e=.returned (.string ⟨l.toArray⟩)/\Below w.heap.size w w'
def pJ (w:World) (g:Nat) (k:Nat) (ds:List UInt8):Prop:=∃ pre:List Value,pre.length=k/\k+ds.length=20/\Blk w g 221 (pre++am ds).toArray
theorem pJ.put {w:World} {g k:Nat} {ds:List UInt8} (h:pJ w g (k+1) ds) (c:UInt8):pJ (w.setCell ⟨g,k,none⟩ (.int .u8 c.toNat)) g k (c::ds):=by
 obtain ⟨pre,h1,h2,h3⟩:=h;have hne:pre≠[]:=by intro e;rw [e] at h1;simp at h1
 obtain ⟨p,x,rfl⟩:∃ p x,pre=p++[x]:=⟨pre.dropLast,pre.getLast hne,(List.dropLast_concat_getLast hne).symm⟩
 have h1:p.length=k:=by simpa using h1
 refine ⟨p,h1,by simp;omega,?_⟩;have:=h3.set_ k (.int .u8 c.toNat);have e:(p++[x]++am ds).toArray.setIfInBounds k (.int .u8 c.toNat)=(p++am (c::ds)).toArray:=by
  simp only [List.setIfInBounds_toArray,List.append_assoc];rw [List.set_append_right _ _ (by omega),h1,Nat.sub_self];simp [am]
 rw [e] at this;exact this
theorem pJ.bs {w:World} {g k:Nat} {ds:List UInt8} (h:pJ w g k ds):BS w (.slice (some ⟨g,k,none⟩) ds.length ds.length) ds:=by
 obtain ⟨pre,h1,h2,h3⟩:=h;refine ⟨_,_,rfl,Nat.le_refl _,λ _=>⟨g,k,rfl,h3.lt,λ i hi=>?_⟩⟩;rw [h3.cell];simp only [List.getElem?_toArray];rw [List.getElem?_append_right (by omega),h1,show k+i-k=i from by omega,List.getElem?_eq_getElem hi]
def oJ (N m:Nat) (first:Bool) (ds:List UInt8):Prop:=if first=true then ds=[]/\m=N else ds≠[]/\dp N=(if m=0 then [] else dp m)++ds
theorem mC:∀ {N k:Nat},N<10 ^ k->0<k->(dp N).length<=k
 | N,0,h,h0=>by omega
 | N,1,h,_=>by rw [jC (by simpa using h)];simp
 |N,k+2,h,_=>by
  by_cases h10:N<10
  ·rw [jC h10];simp
  ·rw [nU (by omega),List.length_append];have:=mC (N:=N / 10) (k:=k+1) (by rw [Nat.pow_succ] at h;omega) (by omega);simp;omega
theorem oJ.step {N m:Nat} {first:Bool} {ds:List UInt8} (h:oJ N m first ds) (hc:first=true∨0<m):oJ N (m / 10) false (UInt8.ofNat (48+m % 10)::ds)/\(dp N).length=ds.length+(dp m).length:=by
 unfold oJ at h ⊢;have key:dp N=dp m++ds:=by
  cases first with
  | true=>simp only [if_true] at h;rw [h.1,h.2,List.append_nil]
  |false =>
   have hm:m≠0:=by rcases hc with hc | hc;cases hc;omega
   simp only [Bool.false_eq_true,if_false] at h;rw [if_neg hm] at h;exact h.2
 refine ⟨?_,by rw [key,List.length_append];omega⟩;simp only [Bool.false_eq_true,if_false];refine ⟨by simp,?_⟩;rw [key];by_cases h10:m<10
 ·rw [jC h10,if_pos (by omega),Nat.mod_eq_of_lt h10];rfl
 ·rw [nU (by omega),if_neg (by omega)];simp
theorem oJ.done {N m:Nat} {ds:List UInt8} (h:oJ N m false ds) (hm:m=0):ds=dp N:=by
 unfold oJ at h;simp only [Bool.false_eq_true,if_false] at h;rw [if_pos hm] at h;rw [h.2];rfl
theorem Bg (g j:Nat) (hj:j<20) (W:World):(Instr.sliceAt 221 (.pointer (some ⟨g,0,none⟩)) (some (.int .i64 (j:Int))) none none).run Tryz.prog W=.ok (.slice (some ⟨g,j,none⟩) (20-j) (20-j)) W:=by
 have hal:Tryz.prog.arrayLen 221=20:=by kernel_rfl
 rw [run_sliceAt_array_l W 221 ⟨g,0,none⟩ (by kernel_rfl) .i64 (j:Int) (by omega) (by rw [hal];omega)];go_simp;omega
theorem kU (k:Nat) (h:k<(⟨#[48,49,50,51,52,53,54,55,56,57]⟩:ByteArray).size):(⟨#[48,49,50,51,52,53,54,55,56,57]⟩:ByteArray)[k].toNat=(UInt8.ofNat (48+k)).toNat:=by
 have key:∀ k:Fin 10,(⟨#[48,49,50,51,52,53,54,55,56,57]⟩:ByteArray)[k.1].toNat=(UInt8.ofNat (48+k.1)).toNat:=by decide
 exact key ⟨k,h⟩
theorem ph (n:Int) (w:World) (hn:-9223372036854775808<=n/\n<=9223372036854775807):Calls Tryz.prog 158 #[.int .i64 n] w (AF (ep n) w):=by
 obtain ⟨h0,h1⟩:=hn;obtain ⟨N,hN⟩:∃ N,n.natAbs=N:=⟨_,rfl⟩
 have hNb:N<=9223372036854775808:=by omega
 have hlen:=mC (N:=N) (k:=19) (by omega) (by decide);have HD0:=aW (show pJ (w.alloc (.cells #[.int .u8 0,.int .u8 0,.int .u8 0,.int .u8 0,.int .u8 0,.int .u8 0,.int .u8 0,.int .u8 0,.int .u8 0,.int .u8 0,.int .u8 0,.int .u8 0,.int .u8 0,.int .u8 0,.int .u8 0,.int .u8 0,.int .u8 0,.int .u8 0,.int .u8 0,.int .u8 0] 221)) w.heap.size 20 [] from
  ⟨[.int .u8 0,.int .u8 0,.int .u8 0,.int .u8 0,.int .u8 0,.int .u8 0,.int .u8 0,.int .u8 0,.int .u8 0,.int .u8 0,.int .u8 0,.int .u8 0,.int .u8 0,.int .u8 0,.int .u8 0,.int .u8 0,.int .u8 0,.int .u8 0,.int .u8 0,.int .u8 0],rfl,rfl,Blk.new _ _ _⟩)
 have HL:=aW hlen;have HN:=aW hN;clear hlen hN;by_cases hneg:n<0
 ·have HE:=aW (show IntKind.u64.wrap (-IntKind.u64.wrap n)=(N:Int) by have:=HN.out;rw [IntKind.wrap_u64,IntKind.wrap_u64];omega);go_enter Tryz.func158,Tryz.ntmps158;go_wp2;rw [HE.out];go_loopg [3,5,6] (2*N+1) (λ gk s3 s5 s6 wr => ∃ (m k:Nat) (first:Bool) (ds:List UInt8),gk=2*m+(if first then 1 else 0)/\s3=.int .u64 m/\s5=.int .i64 k/\s6=.bool first/\m<=N/\Hid (pJ wr w.heap.size k ds)/\Hid (Below w.heap.size w wr)/\Hid (oJ N m first ds))
  case atStart=>exact ⟨N,20,true,[],rfl,rfl,rfl,rfl,Nat.le_refl _,HD0,aW ((Below.refl _ w).alloc (Nat.le_refl _) _),aW ⟨rfl,rfl⟩⟩
  case round =>
   obtain ⟨m,k,first,ds,hgk,rfl,rfl,rfl,hmN,HA,HB,HG⟩:=hrel;have hk20:k+ds.length=20:=by obtain ⟨_,_,h,_⟩:=HA.out;exact h
   obtain ⟨hbf,hbl,hbx⟩:(∀ i,wr.frozen? ⟨w.heap.size,i,none⟩=false)/\w.heap.size<wr.heap.size/\∀ i,i<20->∃ v,wr.cell? ⟨w.heap.size,i,none⟩=some v:=by
    obtain ⟨pre,h1,h2,h⟩:=HA.out;refine ⟨h.rules.2.1,h.rules.2.2,λ i hi=>?_⟩;rw [h.cell];exact ⟨_,Array.getElem?_eq_getElem (by simp [am,h1];omega)⟩
   by_cases hc:first=true∨0<m
   ·obtain ⟨hs1,hs2⟩:=HG.out.step hc;have HS:=aW hs1;have hmp:=List.length_pos_iff.2 (fh m);obtain ⟨j,rfl⟩:∃ j,k=j+1:=⟨k-1,by have:=HL.out;omega⟩
    have hj:1<=j/\j<=19:=by have:=HL.out;omega
    have HA2:=aW (HA.out.put (UInt8.ofNat (48+m % 10)));have HB2:=aW (HB.out.setCell (p:=⟨w.heap.size,j,none⟩) (Nat.le_refl _) (.int .u8 (UInt8.ofNat (48+m % 10)).toNat));have HGK:=aW hgk;obtain ⟨vj,hvj⟩:=hbx j (by omega);clear hbx hs1 hs2 hgk hk20;rcases first with _ | _
    ·have hm0:0<m:=by rcases hc with hc | hc;cases hc;exact hc
     clear hc;go_wp2;go_roundg (2*(m / 10))
     case measure=>have:=HGK.out;simp at this;omega
     case rel =>
      refine ⟨m / 10,j,false,_,by simp,congrArg (Value.int .u64) (by omega),rfl,rfl,by omega,?_,?_,HS⟩
      ·rw [kU];exact HA2
      ·rw [kU];exact HB2
    ·clear hc;go_wp2;go_roundg (2*(m / 10))
     case measure=>have:=HGK.out;simp at this;omega
     case rel =>
      refine ⟨m / 10,j,false,_,by simp,congrArg (Value.int .u64) (by omega),rfl,rfl,by omega,?_,?_,HS⟩
      ·rw [kU];exact HA2
      ·rw [kU];exact HB2
   ·obtain rfl:first=false:=by cases first;rfl;exact absurd (.inl rfl) hc
    obtain rfl:m=0:=by omega
    have hds:=HG.out.done rfl;subst hds;have hmp:=List.length_pos_iff.2 (fh N);clear hgk hc;obtain ⟨j,rfl⟩:∃ j,k=j+1:=⟨k-1,by have:=HL.out;omega⟩
    have hj:j+1<=20:=by omega
    obtain ⟨vj,hvj⟩:=hbx j (by omega);have hA2:=HA.out.put 45;have HB2:=aW (HB.out.setCell (p:=⟨w.heap.size,j,none⟩) (Nat.le_refl _) (.int .u8 45));have hnt:ep n=45::dp N:=by unfold ep;rw [if_pos hneg,HN.out]
    have hln:(ep n).length=20-j:=by rw [hnt,List.length_cons];omega
    have HCV:=aW (show (convert 67 9 (.slice (some ⟨w.heap.size,j,none⟩) (20-j) (20-j))).run Tryz.prog (wr.setCell ⟨w.heap.size,j,none⟩ (.int .u8 45))=.ok (.string ⟨(ep n).toArray⟩) (wr.setCell ⟨w.heap.size,j,none⟩ (.int .u8 45)) by
     have h:=hA2.bs.conv;rw [← hnt] at h;rw [← hln];exact h)
    clear hbx hA2 hnt hln hk20;have hcv:=HCV.out;have hsl:=Bg w.heap.size j (by omega);go_wp2;go_ret;exact ⟨rfl,HB2.out⟩
 ·have hN2:n=(N:Int):=by have:=HN.out;omega
  subst hN2;go_enter Tryz.func158,Tryz.ntmps158;go_wp2;go_loopg [3,5,6] (2*N+1) (λ gk s3 s5 s6 wr => ∃ (m k:Nat) (first:Bool) (ds:List UInt8),gk=2*m+(if first then 1 else 0)/\s3=.int .u64 m/\s5=.int .i64 k/\s6=.bool first/\m<=N/\Hid (pJ wr w.heap.size k ds)/\Hid (Below w.heap.size w wr)/\Hid (oJ N m first ds))
  case atStart=>exact ⟨N,20,true,[],rfl,rfl,rfl,rfl,Nat.le_refl _,HD0,aW ((Below.refl _ w).alloc (Nat.le_refl _) _),aW ⟨rfl,rfl⟩⟩
  case round =>
   obtain ⟨m,k,first,ds,hgk,rfl,rfl,rfl,hmN,HA,HB,HG⟩:=hrel;have hk20:k+ds.length=20:=by obtain ⟨_,_,h,_⟩:=HA.out;exact h
   obtain ⟨hbf,hbl,hbx⟩:(∀ i,wr.frozen? ⟨w.heap.size,i,none⟩=false)/\w.heap.size<wr.heap.size/\∀ i,i<20->∃ v,wr.cell? ⟨w.heap.size,i,none⟩=some v:=by
    obtain ⟨pre,h1,h2,h⟩:=HA.out;refine ⟨h.rules.2.1,h.rules.2.2,λ i hi=>?_⟩;rw [h.cell];exact ⟨_,Array.getElem?_eq_getElem (by simp [am,h1];omega)⟩
   by_cases hc:first=true∨0<m
   ·obtain ⟨hs1,hs2⟩:=HG.out.step hc;have HS:=aW hs1;have hmp:=List.length_pos_iff.2 (fh m);obtain ⟨j,rfl⟩:∃ j,k=j+1:=⟨k-1,by have:=HL.out;omega⟩
    have hj:1<=j/\j<=19:=by have:=HL.out;omega
    have HA2:=aW (HA.out.put (UInt8.ofNat (48+m % 10)));have HB2:=aW (HB.out.setCell (p:=⟨w.heap.size,j,none⟩) (Nat.le_refl _) (.int .u8 (UInt8.ofNat (48+m % 10)).toNat));have HGK:=aW hgk;obtain ⟨vj,hvj⟩:=hbx j (by omega);clear hbx hs1 hs2 hgk hk20;rcases first with _ | _
    ·have hm0:0<m:=by rcases hc with hc | hc;cases hc;exact hc
     clear hc;go_wp2;go_roundg (2*(m / 10))
     case measure=>have:=HGK.out;simp at this;omega
     case rel =>
      refine ⟨m / 10,j,false,_,by simp,congrArg (Value.int .u64) (by omega),rfl,rfl,by omega,?_,?_,HS⟩
      ·rw [kU];exact HA2
      ·rw [kU];exact HB2
    ·clear hc;go_wp2;go_roundg (2*(m / 10))
     case measure=>have:=HGK.out;simp at this;omega
     case rel =>
      refine ⟨m / 10,j,false,_,by simp,congrArg (Value.int .u64) (by omega),rfl,rfl,by omega,?_,?_,HS⟩
      ·rw [kU];exact HA2
      ·rw [kU];exact HB2
   ·obtain rfl:first=false:=by cases first;rfl;exact absurd (.inl rfl) hc
    obtain rfl:m=0:=by omega
    have hds:=HG.out.done rfl;subst hds;have hmp:=List.length_pos_iff.2 (fh N);clear hgk hc;have hj:k<20:=by omega
    have hnn:¬ (N:Int)<0:=by omega
    have hnt:ep (N:Int)=dp N:=by unfold ep;rw [if_neg hnn,Int.natAbs_natCast]
    have hln:(ep (N:Int)).length=20-k:=by rw [hnt];omega
    have HCV:=aW (show (convert 67 9 (.slice (some ⟨w.heap.size,k,none⟩) (20-k) (20-k))).run Tryz.prog wr=.ok (.string ⟨(ep (N:Int)).toArray⟩) wr by
     have h:=HA.out.bs.conv;rw [← hnt] at h;rw [← hln];exact h)
    clear hbx hnt hln hk20;have hcv:=HCV.out;have hsl:=Bg w.heap.size k hj;go_wp2;go_ret;exact ⟨rfl,HB.out⟩
def rv (B g:Nat) (l:List UInt8) (w:World):Prop:=B<=g/\∃ v,Blk w g 67 #[v]/\w.ownsRow B 5 1 v l.length (am l)
abbrev AC (g:Nat) (w w':World):Prop:=Lib.OthersKept 5 (some g) w w'
def oK (B g:Nat) (l:List UInt8) (w:World) (e:Ending) (w':World):Prop:=e=.returned (.tuple #[])/\rv B g l w'/\Below B w w'/\AC g w w'
theorem rz (l:List UInt8):∀ u ∈ am l,u.oneCell'=true:=by
 intro u hu;simp only [am,List.mem_map] at hu;obtain ⟨c,_,rfl⟩:=hu;rfl
theorem n8 {w:World} {B:Nat} {e:TypeId} {v:Value} {n:Nat} {xs:List Value} (h:w.ownsRow B e 1 v n xs):∀ g,v.ownBlock=some g->∃ c fz,w.heap[g]? = some (.cells c e fz):=by
 intro g hg;rcases h.2 with ⟨rfl,_⟩ | ⟨g',cap,cur,rfl,_,hgg,_⟩
 ·simp [Value.ownBlock] at hg
 ·simp [Value.ownBlock] at hg;subst hg;exact ⟨cur,_,hgg⟩
theorem mM (B g:Nat) (l m:List UInt8) (A:Option Addr) (n cap:Nat) (w:World) (hv:rv B g l w) (hA:A=none->n=0) (hn:m.length=n) (hr:Rd w A (am m)) (hb:l.length+n<=140737488355328) (hBw:B<=w.heap.size) :
  Calls Tryz.prog 186 #[.slice A n cap,.pointer (some ⟨g,0,none⟩)] w (oK B g (l++m) w):=by
 obtain ⟨hBg,v,hblk,hown⟩:=hv;obtain ⟨i0,hi,hz0,hz1,hz2⟩:=info_parts qv;obtain ⟨c1,f1,l1⟩:=hblk.rules;obtain ⟨ao,no,co,rfl⟩:∃ ao no co,v=.slice ao no co:=by
  rcases hown.2 with ⟨hv,_⟩ | ⟨g,cap,cur,hv,_⟩
  ·exact ⟨_,_,_,hv⟩
  ·exact ⟨_,_,_,hv⟩
 have HI:=aW hi;have HO:=aW hown;have HN:=aW hn;have HR:=aW hr;have HA:=aW hA;have HBK:=aW hblk;clear hi hown hn hr hA hblk;go_enter Tryz.func186,Tryz.ntmps186;have HFIN:=aW (λ (v':Value) (w1:World) (hown':w1.ownsRow B 5 1 v' (l.length+n) (am l++am m)) (hgr:w.grownBy w1 (Value.slice ao no co).ownBlock) =>
  show ∃ ao' no' co',v'=.slice ao' no' co'/\Blk w1 g 67 #[.slice ao no co]/\oK B g (l++m) w (.returned (.tuple #[])) (w1.setCell ⟨g,0,none⟩ (.slice ao' no' co')) by
   have hne:some g≠(Value.slice ao no co).ownBlock:=dy HO.out HBK.out (by decide);have hk:=HBK.out.grown hgr hne;have hX:AC g w w1:=(Lib.OthersKept.refl _ _ w).grown hgr (n8 HO.out);have hb1:Below B w w1:=(Below.refl B w).grown hgr hBw (λ k hk=>(HO.out.lt k hk).1);obtain ⟨ao',no',co',rfl⟩:∃ ao no co,v'=.slice ao no co:=by
    rcases hown'.2 with ⟨hv,_⟩ | ⟨g,cap,cur,hv,_⟩
    ·exact ⟨_,_,_,hv⟩
    ·exact ⟨_,_,_,hv⟩
   have hne':some g≠(Value.slice ao' no' co').ownBlock:=dy hown' hk (by decide);refine ⟨_,_,_,rfl,hk,rfl,⟨hBg,.slice ao' no' co',hk.set_ 0 _,?_⟩,hb1.setCell (p:=⟨g,0,none⟩) hBg _,hX.setCell ⟨g,0,none⟩ rfl _⟩;rw [List.length_append,HN.out,iN];exact hown'.kept (row:=some g) ⟨rfl,rfl,rfl,by simp [World.setCell],λ k _ hk=>Below.heap_setCell _ _ _ _ (λ e=>hk (by simp [e]))⟩ (.inr (λ e=>hne' e.symm)))
 go_wp2_with (at_builtin;refine cX _ rfl _ _ 67 rfl B 5 i0 _ 1 1 Tryz.underlying67 HI.out hz0 hz1 hz2 rfl (by decide) _ _ _ rfl HO.out A n cap HA.out (am m) rfl (by rw [aB,Nat.mul_one];exact HN.out) HR.out (rz m) (by unfold maxLen;omega) (by omega) hBw ?_;intro v' w1 hown' hgr _;obtain ⟨ao',no',co',rfl,hk,hf⟩:=HFIN.out v' w1 hown' hgr;obtain ⟨c2,f2,l2⟩:=hk.rules;have HF:=aW hf;clear hf hown' hgr hk);go_end0;exact HF.out
theorem rv.bel {B g:Nat} {l:List UInt8} {w w':World} (h:rv B g l w) (hb:Below w.heap.size w w'):rv B g l w':=by
 obtain ⟨h1,v,h2,h3⟩:=h;exact ⟨h1,v,h2.keep hb,wH h3 hb⟩
def QSt (B g ib:Nat) (w0:World) (S:ByteArray) (p:Nat) (l:List UInt8) (W:World):Prop:=rv B g l W/\W.heap[ib]? = some (.stringIter S p)/\Below B w0 W/\B<=ib/\B<=W.heap.size
section
variable {B g ib p:Nat} {w0 W W':World} {S:ByteArray} {l m:List UInt8}
theorem QSt.bel (h:QSt B g ib w0 S p l W) (hb:Below W.heap.size W W'):QSt B g ib w0 S p l W':=by
 obtain ⟨h1,h2,h3,h4,h5⟩:=h;exact ⟨h1.bel hb,(hb.block ib (Array.getElem?_eq_some_iff.1 h2).1).trans h2,h3.trans (hb.mono h5),h4,Nat.le_trans h5 hb.size⟩
theorem QSt.alloc (h:QSt B g ib w0 S p l W) (o:Obj):QSt B g ib w0 S p l (W.alloc o):=h.bel ((Below.refl _ W).alloc (Nat.le_refl _) o)
theorem QSt.drew (h:QSt B g ib w0 S p l W):QSt B g ib w0 S p l W.drew:=h.bel (Below.refl _ W).drew
theorem QSt.lay (h:QSt B g ib w0 S p l W) {r:Ending} (hl:oK B g m W r W'):QSt B g ib w0 S p m W':=by
 obtain ⟨h1,h2,h3,h4,h5⟩:=h;obtain ⟨_,k1,k2,k3⟩:=hl;have hne:ib≠g:=by
  rintro rfl;obtain ⟨_,v,hv,_⟩:=h1;unfold Blk at hv;rw [hv] at h2;cases h2
 exact ⟨k1,k3.iter h2 hne,h3.trans k2,h4,Nat.le_trans h5 k2.size⟩
theorem QSt.next (h:QSt B g ib w0 S p l W) (q:Nat):QSt B g ib w0 S q l (W.iterAt ib S q):=by
 obtain ⟨h1,h2,h3,h4,h5⟩:=h;obtain ⟨k1,v,k2,k3⟩:=h1;have hne:g≠ib:=by
  rintro rfl;unfold Blk at k2;rw [k2] at h2;cases h2
 refine ⟨⟨k1,v,(Lib.iterAt_other W ib g S q hne).trans k2,?_⟩,Lib.iterAt_heap W ib S p q h2,Lib.below_iterAt h3 h4 S q,h4,by rw [Lib.iterAt_size];exact h5⟩;refine k3.kept (row:=some ib) ⟨rfl,rfl,rfl,by rw [Lib.iterAt_size];exact Nat.le_refl _,λ k _ hk=>Lib.iterAt_other W ib k S q (λ e=>hk (by rw [e]))⟩ (.inr λ e=>?_);obtain ⟨c,fz,hc⟩:=n8 k3 ib e;rw [h2] at hc;cases hc
end
theorem uy (c:Nat):(aQ c).length<=6:=by
 unfold aQ;split
 ·simp
 ·split
  ·simp
  ·have:=eO c;omega
theorem sn:∀ cs:List Nat,(cs.flatMap aQ).length<=6*cs.length
 | []=>by simp
 | c::r=>by have:=uy c;have:=sn r;rw [List.flatMap_cons,List.length_append,List.length_cons];omega
def dC (c k:Nat):Prop:=(1<=k->c≠34)/\(2<=k->c≠92)/\(4<=k->c≠8)/\(5<=k->c≠12)/\(6<=k->c≠10)/\(7<=k->c≠13)/\(8<=k->c≠9)
theorem uf {c:Nat} (h:dC c 8):kW c=none:=by
 simp only [dC] at h;unfold kW;rw [if_neg (by omega),if_neg (by omega),if_neg (by omega),if_neg (by omega),if_neg (by omega),if_neg (by omega),if_neg (by omega)]
theorem AV (k:Nat) (h:k<(⟨#[48,49,50,51,52,53,54,55,56,57,97,98,99,100,101,102]⟩:ByteArray).size):(⟨#[48,49,50,51,52,53,54,55,56,57,97,98,99,100,101,102]⟩:ByteArray)[k].toNat=(UInt8.ofNat (rU k)).toNat:=by
 have key:∀ k:Fin 16,(⟨#[48,49,50,51,52,53,54,55,56,57,97,98,99,100,101,102]⟩:ByteArray)[k.1].toNat=(UInt8.ofNat (rU k.1)).toNat:=by decide
 exact key ⟨k,h⟩
theorem Rd.lit {W:World} {t:TypeId} {cs:Array Value} {xs:List Value} (h:xs=cs.toList):Rd (W.alloc (.cells cs t)) (some ⟨W.heap.size,0,none⟩) xs:=by
 subst h;exact Rd.of_blk (Blk.new W t cs)
theorem fQ {B g ib p:Nat} {w0:World} {S:ByteArray} {l:List UInt8} (cs:List UInt8) (arr:Array Value) (n k:Nat) (W:World) (hq:QSt B g ib w0 S p l W) (ha:arr=(am cs).toArray) (hn:cs.length=n) (hk:k=W.heap.size) (hb:l.length+6<=140737488355328) (hn6:n<=6) :
  Calls Tryz.prog 186 #[.slice (some ⟨k,0,none⟩) n n,.pointer (some ⟨g,0,none⟩)] (W.alloc (.cells arr 5)) λ e w'=>e=.returned (.tuple #[])/\QSt B g ib w0 S p (l++cs) w':=by
 subst hk ha hn;refine (mM B g l cs _ _ _ _ ((hq.alloc _).1) (by intro h;cases h) rfl (Rd.lit (by simp)) (by omega) ((hq.alloc _).2.2.2.2)).mono ?_;intro e w' h;exact ⟨h.1,(hq.alloc _).lay h⟩
theorem yz {S:ByteArray} {s u:List UInt8} {p:Nat} (hS:S.data.toList=s) (h:s.drop p=u):S.data.toList.drop p=u:=by rw [hS];exact h
def sR (s:List UInt8) (w:World) (e:Ending) (w':World):Prop:=e=.returned (.tuple #[.string ⟨(iF s).toArray⟩,.int .i64 0])/\Below w.heap.size w w'
theorem sj (s:List UInt8) (w:World) (hG:GOK w) (ht:dL s=true) (hl:s.length<=4194304):Calls Tryz.prog 159 #[.string ⟨s.toArray⟩] w (sR s w):=by
 obtain ⟨hcp,hcs⟩:=lj ht;obtain ⟨cs,hcse⟩:∃ cs,fA s=cs:=⟨_,rfl⟩
 rw [hcse] at hcp hcs;have hcl:=xV hcp;rw [← hcs] at hcl;have HCK:=aW (jH s w hG hl);have HE:=aW (show fm s=0 by unfold fm;rw [if_pos ht]);have HQT:=aW (show iF s=34::cs.flatMap aQ++[34] by unfold iF;rw [hcse]);have HCP:=aW hcp;have HCS:=aW hcs;have HCL:=aW hcl;obtain ⟨S,hS⟩:∃ S:ByteArray,S=⟨s.toArray⟩:=⟨_,rfl⟩
 have HSL:=aW (show S.data.toList=s by rw [hS]);have HSZ:=aW (show S.size=s.length by rw [hS];simp [ByteArray.size]);rw [← hS] at HCK ⊢;clear hcp hcs hG ht hS hcse hcl;obtain ⟨B,hB⟩:∃ B,B=w.heap.size:=⟨_,rfl⟩
 have HBB:=aW hB;clear hB;go_enter Tryz.func159,Tryz.ntmps159;go_wp2;go_step3;go_wp2_with fail;refine HCK.out.mono ?_;rintro e w1 ⟨⟨pz,rfl⟩,hb1⟩;rw [HE.out];have HST0:Hid (QSt B (w1.heap.size+1) (w1.heap.size+1+1) w S 0 [34] (((w1.alloc (.cells #[.int .u8 34] 5)).alloc (.cells #[.slice (some ⟨w1.heap.size,0,none⟩) 1 1] 67)).iter S 0)):=aW (by
  have hB1:B<=w1.heap.size:=by rw [HBB.out];exact hb1.size
  have hb9:Below B w (((w1.alloc (.cells #[.int .u8 34] 5)).alloc (.cells #[.slice (some ⟨w1.heap.size,0,none⟩) 1 1] 67)).iter S 0):=by
   rw [← HBB.out] at hb1;exact ((hb1.alloc hB1 _).alloc (by simp;omega) _).alloc (by simp;omega) _
  have ho:(w1.alloc (.cells #[.int .u8 34] 5)).ownsRow B 5 1 (.slice (some ⟨w1.heap.size,0,none⟩) 1 1) 1 (am [34]) :=
   ⟨rfl,.inr ⟨w1.heap.size,1,_,rfl,hB1,Blk.new w1 5 #[.int .u8 34],Nat.le_refl _,by decide,rfl,rfl⟩⟩
  have hk:=Blk.new (w1.alloc (.cells #[.int .u8 34] 5)) 67 #[.slice (some ⟨w1.heap.size,0,none⟩) 1 1];rw [World.size_alloc] at hk;have hO:rv B (w1.heap.size+1) [34] ((w1.alloc (.cells #[.int .u8 34] 5)).alloc (.cells #[.slice (some ⟨w1.heap.size,0,none⟩) 1 1] 67)):=⟨by omega,_,hk,ho.alloc _⟩
  have hi:=World.iter_heap ((w1.alloc (.cells #[.int .u8 34] 5)).alloc (.cells #[.slice (some ⟨w1.heap.size,0,none⟩) 1 1] 67)) S 0;rw [World.size_alloc,World.size_alloc] at hi;exact ⟨hO.bel ((Below.refl _ _).alloc (Nat.le_refl _) _),hi,hb9,by omega,by simp [World.iter];omega⟩)
 clear hb1;go_wp2;go_step3;go_wp2;go_loopg [9] cs.length (λ gk s9 wr => ∃ (p:Nat) (pre suf:List Nat),gk=suf.length/\Hid (cs=pre++suf)/\Hid (s.drop p=suf.flatMap ag)/\p<=s.length/\Hid (QSt B (w1.heap.size+1) (w1.heap.size+1+1) w S p (34::pre.flatMap aQ) wr))
 case atStart=>exact ⟨0,[],cs,rfl,aW rfl,aW (by rw [List.drop_zero];exact HCS.out),Nat.zero_le _,HST0⟩
 case round =>
  obtain ⟨p,pre,suf,hgk,HPS,HD,hp,HQ⟩:=hrel;have HG:=aW hgk;clear hgk HST0;cases suf with
  |nil =>
   have hpe:¬ p<S.size:=by
    have h:=HD.out;have h2:=congrArg List.length h;rw [List.length_drop] at h2;simp at h2;rw [HSZ.out];omega
   have HNX:=aW (λ ty=>Lib.run_next_end_at (P:=Tryz.prog) wr (w1.heap.size+1+1) S p ty HQ.out.2.1 hpe);have hnx:=HNX.out;have hpl:pre=cs:=by rw [HPS.out,List.append_nil]
   subst hpl;have hq6:=sn pre;have hbd:(34::pre.flatMap aQ).length+1<=140737488355328:=by have:=HCL.out;rw [List.length_cons];omega
   have HBD:=aW hbd;clear hpe hq6 hbd;go_wp2_with fail;refine (mM B (w1.heap.size+1) (34::pre.flatMap aQ) [34] _ _ _ _ ((HQ.out.alloc _).1) (by intro h;cases h) rfl (Rd.lit rfl) HBD.out ((HQ.out.alloc _).2.2.2.2)).mono ?_;rintro e w5 hlay;have HQ5:=aW ((HQ.out.alloc _).lay hlay);obtain ⟨rfl,⟨_,v,hbv,hov⟩,_,_⟩:=hlay;obtain ⟨A5,c5,rfl,hr5,hc5⟩:=Rd.of_own hov;have hcv:=BS.conv (show BS w5 (.slice A5 (34::pre.flatMap aQ++[34]).length c5) (34::pre.flatMap aQ++[34]) from ⟨_,_,rfl,hr5,hc5⟩);rw [← HQT.out] at hcv;obtain ⟨n5,hn5⟩:∃ n5,(34::pre.flatMap aQ++[34]).length=n5:=⟨_,rfl⟩
   obtain ⟨n6,hn6⟩:∃ n6,(iF s).length=n6:=⟨_,rfl⟩
   rw [hn6] at hcv;rw [← HQT.out,hn6] at hbv;obtain ⟨c6,f6,l6⟩:=hbv.rules;clear hov hbv hr5 hc5 hn5 hn6 hnx;go_wp2;rw [Exit.noGoto_ret];go_ret2;exact ⟨rfl,by rw [← HBB.out];exact HQ5.out.2.2.1⟩
  |cons c suf =>
   have hcc:=HCP.out c (by rw [HPS.out];simp);have hlt:p<S.size:=by
    have h2:=congrArg List.length HD.out;rw [List.length_drop,List.flatMap_cons,List.length_append] at h2;have:=(eM c [] hcc).2.1;rw [HSZ.out];omega
   have hdec:=tW hcc (yz HSL.out (HD.out.trans List.flatMap_cons));have HNX:=aW (λ ty=>show (Instr.next (.pointer (some ⟨w1.heap.size+1+1,0,none⟩)) true ty).run Tryz.prog wr=.ok (.tuple #[.bool true,.int .i64 p,.int .i32 c]) (wr.iterAt (w1.heap.size+1+1) S (p+(ag c).length)) by
    rw [Lib.run_next_any_at (P:=Tryz.prog) wr (w1.heap.size+1+1) S p ty HQ.out.2.1 hlt,hdec])
   have HQ2:=aW (HQ.out.next (p+(ag c).length));have hnx:=HNX.out;clear hdec hlt;obtain ⟨W3,hW3⟩:∃ W3,wr.iterAt (w1.heap.size+1+1) S (p+(ag c).length)=W3:=⟨_,rfl⟩
   rw [hW3] at HQ2 hnx;have hbd:(34::pre.flatMap aQ).length+6<=140737488355328:=by have:=HCL.out;have:=sn pre;have:=congrArg List.length HPS.out;rw [List.length_append,List.length_cons] at this;rw [List.length_cons];omega
   have hp2:p+(ag c).length<=s.length:=by
    have h2:=congrArg List.length HD.out;rw [List.length_drop,List.flatMap_cons,List.length_append] at h2;have:=(eM c [] hcc).2.1;omega
   have HD2:=aW (show s.drop (p+(ag c).length)=suf.flatMap ag by rw [← List.drop_drop,HD.out,List.flatMap_cons,List.drop_left]);have HPS2:=aW (show cs=(pre++[c])++suf by rw [HPS.out];simp);have HND:=aW (λ (W:World) (hq:QSt B (w1.heap.size+1) (w1.heap.size+1+1) w S (p+(ag c).length) (34::pre.flatMap aQ++aQ c) W)=>show ∃ (p':Nat) (pre' suf':List Nat),suf.length=suf'.length/\Hid (cs=pre'++suf')/\Hid (s.drop p'=suf'.flatMap ag)/\p'<=s.length/\Hid (QSt B (w1.heap.size+1) (w1.heap.size+1+1) w S p' (34::pre'.flatMap aQ) W) from
    ⟨_,pre++[c],suf,rfl,HPS2,HD2,hp2,aW (by rw [List.flatMap_append,List.flatMap_cons,List.flatMap_nil,List.append_nil];exact hq)⟩)
   have hc21:=(fB c).1 hcc;have HCC:=aW hcc;have HBD:=aW hbd;clear hW3 HNX hbd hp2 hcc;go_wp2_with fail;refine (ld _).mono ?_;rintro e w4 ⟨rfl,hb4⟩;have HQ4:=aW (HQ2.out.bel hb4);clear hb4 hnx;unfold mw;go_wp2;go_loopg [28] 8 (λ gk s28 wx => ∃ k:Nat,gk=8-k/\k<=8/\s28=.int .i64 k/\Hid (dC c k)/\Hid (QSt B (w1.heap.size+1) (w1.heap.size+1+1) w S (p+(ag c).length) (34::pre.flatMap aQ) wx))
   case atStart=>exact ⟨0,rfl,by omega,rfl,aW (by simp [dC]),HQ4⟩
   case round =>
    obtain ⟨k,hgk2,hk8,rfl,HL,HX⟩:=hrel;have HG2:=aW hgk2;clear hgk2 HQ4 HQ2;rcases (by omega:k=0∨k=1∨k=2∨k=3∨k=4∨k=5∨k=6∨k=7∨k=8) with rfl | rfl | rfl | rfl | rfl | rfl | rfl | rfl | rfl
    ·by_cases hh:c=34
     ·subst hh;have hqs:aQ 34=[92,34]:=by decide
      rw [hqs] at HND;clear hqs;go_wp2_with fail;with_reducible refine (fQ [92,34] _ 2 _ _ (HX.out.alloc _) ?la ?ln ?lk HBD.out (by decide)).mono ?_
      case la=>rfl
      case ln=>rfl
      case lk=>simp
      rintro e w5 ⟨rfl,hq5⟩;have HQ5:=aW hq5;clear hq5;go_wp2;go_roundg suf.length
      case measure=>rw [HG.out];simp
      case rel=>exact HND.out _ HQ5.out
     ·have e1:((c:Int) == 34)=false:=by simp;omega
      go_wp2;go_roundg 7
      case measure=>rw [HG2.out];omega
      case rel=>exact ⟨1,rfl,by omega,rfl,aW (by have h:=HL.out;simp only [dC] at h ⊢;omega),aW (HX.out.alloc _)⟩
    ·by_cases hh:c=92
     ·subst hh;have hqs:aQ 92=[92,92]:=by decide
      rw [hqs] at HND;clear hqs;go_wp2_with fail;with_reducible refine (fQ [92,92] _ 2 _ _ (HX.out.alloc _) ?la ?ln ?lk HBD.out (by decide)).mono ?_
      case la=>rfl
      case ln=>rfl
      case lk=>simp
      rintro e w5 ⟨rfl,hq5⟩;have HQ5:=aW hq5;clear hq5;go_wp2;go_roundg suf.length
      case measure=>rw [HG.out];simp
      case rel=>exact HND.out _ HQ5.out
     ·have e1:((c:Int) == 92)=false:=by simp;omega
      go_wp2;go_roundg 6
      case measure=>rw [HG2.out];omega
      case rel=>exact ⟨2,rfl,by omega,rfl,aW (by have h:=HL.out;simp only [dC] at h ⊢;omega),aW (HX.out.alloc _)⟩
    ·by_cases hh:c=47
     ·subst hh;go_wp2;go_roundg 5
      case measure=>rw [HG2.out];omega
      case rel=>exact ⟨3,rfl,by omega,rfl,aW (by have h:=HL.out;simp only [dC] at h ⊢;omega),aW (HX.out.alloc _)⟩
     ·have e1:((c:Int) == 47)=false:=by simp;omega
      go_wp2;go_roundg 5
      case measure=>rw [HG2.out];omega
      case rel=>exact ⟨3,rfl,by omega,rfl,aW (by have h:=HL.out;simp only [dC] at h ⊢;omega),aW (HX.out.alloc _)⟩
    ·by_cases hh:c=8
     ·subst hh;have hqs:aQ 8=[92,98]:=by decide
      rw [hqs] at HND;clear hqs;go_wp2_with fail;with_reducible refine (fQ [92,98] _ 2 _ _ (HX.out.alloc _) ?la ?ln ?lk HBD.out (by decide)).mono ?_
      case la=>rfl
      case ln=>rfl
      case lk=>simp
      rintro e w5 ⟨rfl,hq5⟩;have HQ5:=aW hq5;clear hq5;go_wp2;go_roundg suf.length
      case measure=>rw [HG.out];simp
      case rel=>exact HND.out _ HQ5.out
     ·have e1:((c:Int) == 8)=false:=by simp;omega
      go_wp2;go_roundg 4
      case measure=>rw [HG2.out];omega
      case rel=>exact ⟨4,rfl,by omega,rfl,aW (by have h:=HL.out;simp only [dC] at h ⊢;omega),aW (HX.out.alloc _)⟩
    ·by_cases hh:c=12
     ·subst hh;have hqs:aQ 12=[92,102]:=by decide
      rw [hqs] at HND;clear hqs;go_wp2_with fail;with_reducible refine (fQ [92,102] _ 2 _ _ (HX.out.alloc _) ?la ?ln ?lk HBD.out (by decide)).mono ?_
      case la=>rfl
      case ln=>rfl
      case lk=>simp
      rintro e w5 ⟨rfl,hq5⟩;have HQ5:=aW hq5;clear hq5;go_wp2;go_roundg suf.length
      case measure=>rw [HG.out];simp
      case rel=>exact HND.out _ HQ5.out
     ·have e1:((c:Int) == 12)=false:=by simp;omega
      go_wp2;go_roundg 3
      case measure=>rw [HG2.out];omega
      case rel=>exact ⟨5,rfl,by omega,rfl,aW (by have h:=HL.out;simp only [dC] at h ⊢;omega),aW (HX.out.alloc _)⟩
    ·by_cases hh:c=10
     ·subst hh;have hqs:aQ 10=[92,110]:=by decide
      rw [hqs] at HND;clear hqs;go_wp2_with fail;with_reducible refine (fQ [92,110] _ 2 _ _ (HX.out.alloc _) ?la ?ln ?lk HBD.out (by decide)).mono ?_
      case la=>rfl
      case ln=>rfl
      case lk=>simp
      rintro e w5 ⟨rfl,hq5⟩;have HQ5:=aW hq5;clear hq5;go_wp2;go_roundg suf.length
      case measure=>rw [HG.out];simp
      case rel=>exact HND.out _ HQ5.out
     ·have e1:((c:Int) == 10)=false:=by simp;omega
      go_wp2;go_roundg 2
      case measure=>rw [HG2.out];omega
      case rel=>exact ⟨6,rfl,by omega,rfl,aW (by have h:=HL.out;simp only [dC] at h ⊢;omega),aW (HX.out.alloc _)⟩
    ·by_cases hh:c=13
     ·subst hh;have hqs:aQ 13=[92,114]:=by decide
      rw [hqs] at HND;clear hqs;go_wp2_with fail;with_reducible refine (fQ [92,114] _ 2 _ _ (HX.out.alloc _) ?la ?ln ?lk HBD.out (by decide)).mono ?_
      case la=>rfl
      case ln=>rfl
      case lk=>simp
      rintro e w5 ⟨rfl,hq5⟩;have HQ5:=aW hq5;clear hq5;go_wp2;go_roundg suf.length
      case measure=>rw [HG.out];simp
      case rel=>exact HND.out _ HQ5.out
     ·have e1:((c:Int) == 13)=false:=by simp;omega
      go_wp2;go_roundg 1
      case measure=>rw [HG2.out];omega
      case rel=>exact ⟨7,rfl,by omega,rfl,aW (by have h:=HL.out;simp only [dC] at h ⊢;omega),aW (HX.out.alloc _)⟩
    ·by_cases hh:c=9
     ·subst hh;have hqs:aQ 9=[92,116]:=by decide
      rw [hqs] at HND;clear hqs;go_wp2_with fail;with_reducible refine (fQ [92,116] _ 2 _ _ (HX.out.alloc _) ?la ?ln ?lk HBD.out (by decide)).mono ?_
      case la=>rfl
      case ln=>rfl
      case lk=>simp
      rintro e w5 ⟨rfl,hq5⟩;have HQ5:=aW hq5;clear hq5;go_wp2;go_roundg suf.length
      case measure=>rw [HG.out];simp
      case rel=>exact HND.out _ HQ5.out
     ·have e1:((c:Int) == 9)=false:=by simp;omega
      go_wp2;go_roundg 0
      case measure=>rw [HG2.out];omega
      case rel=>exact ⟨8,rfl,by omega,rfl,aW (by have h:=HL.out;simp only [dC] at h ⊢;omega),aW (HX.out.alloc _)⟩
    ·have hesc:=uf HL.out;have hqs:aQ c=(if c<32 then [92,117,48,48,UInt8.ofNat (48+c / 16),UInt8.ofNat (rU (c % 16))] else ag c):=by unfold aQ;rw [hesc]
     clear hesc;by_cases h32:c<32
     ·rw [if_pos h32] at hqs;rw [hqs] at HND;clear hqs hc21;go_wp2_with fail;with_reducible refine (fQ [92,117,48,48,UInt8.ofNat (48+c / 16),UInt8.ofNat (rU (c % 16))] _ 6 _ _ HX.out ?la ?ln rfl HBD.out (by decide)).mono ?_
      case la =>
       have e1:=oN8 (48+c / 16) (by omega);rw [AV];simp only [am,List.map_cons,List.map_nil,e1];rfl
      case ln=>rfl
      rintro e w5 ⟨rfl,hq5⟩;have HQ5:=aW hq5;clear hq5;go_wp2;go_roundg suf.length
      case measure=>rw [HG.out];simp
      case rel=>exact HND.out _ HQ5.out
     ·rw [if_neg h32] at hqs;rw [hqs] at HND;have hen:=tY HCC.out;obtain ⟨T,hT⟩:∃ T,Utf8.encode (c:Int)=T:=⟨_,rfl⟩
      rw [hT] at hen;obtain ⟨capb,Wb,hcvb,hcb1,hcb2,hcb3,hcb4⟩:=jr (P:=Tryz.prog) wr 9 67 5 T Tryz.underlying9 Tryz.underlying67 Tryz.underlying5;have hTs:sl T=ag c:=by rw [hen]
      have hTn:T.size=(ag c).length:=by rw [← hTs,fE]
      rw [hTs] at hcb4;rw [hTn] at hcvb hcb1;have HQ6:=aW (HX.out.bel hcb2);have HRB:=aW hcb4;have HB4:=aW (eO c);obtain ⟨nb,hnb⟩:∃ nb,(ag c).length=nb:=⟨_,rfl⟩
      rw [hnb] at hcvb;have HNB:=aW hnb;have h32i:¬ (c:Int)<32:=by omega
      have HTT:=aW hT;have HCV:=aW hcvb;clear hqs hc21 hen hTs hTn hcb1 hcb2 hcb3 hcb4 hnb hT hcvb h32;go_upto_region 17 with (fail);have hT:=HTT.out;have hcvb:=HCV.out;go_wp2_with fail;clear hT hcvb;refine (mM B (w1.heap.size+1) (34::pre.flatMap aQ) (ag c) _ nb capb Wb HQ6.out.1 (by intro h;cases h) HNB.out HRB.out (by have h1:=HBD.out;have h2:=HB4.out;have h3:=HNB.out;omega) HQ6.out.2.2.2.2).mono ?_;rintro e w5 hlay;have HQ7:=aW (HQ6.out.lay hlay);obtain rfl:=hlay.1;clear hlay;go_wp2;go_roundg suf.length
      case measure=>rw [HG.out];simp
      case rel=>exact HND.out _ HQ7.out
end
end Go.Proofs.YtgmnmnnoahdjnaaGreatDoor
