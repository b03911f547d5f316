import Derived.Test.YtgmnmnnoahdjnaaGreatDoorH26
open Go.Value renaming int → Zi, slice → Zs, string → Zt, pointer → Zp
open Go.IntKind renaming i64 → Zq
set_option maxRecDepth 100000
set_option maxHeartbeats 16000000
set_option linter.unusedVariables false
set_option linter.unusedSimpArgs false
namespace Go.Proofs.YtgmnmnnoahdjnaaGreatDoor
section
open Go.RowKit Go.Shelf
def aM (ob:Option Nat) (W:World) (k:Nat):Prop:=∃ b,ob=some b/\(k=b∨∃ v,W.cell? ⟨b,0,none⟩=some v/\v.ownBlock=some k)
theorem fh {W:World} {k:Nat}:¬ aM none W k:=λ ⟨b,h,_⟩=>by cases h
theorem cz {ob:Option Nat} {A B:World} (hb:∀ b,ob=some b->B.heap[b]? = A.heap[b]?) {k:Nat} (h:aM ob B k):aM ob A k:=by
 obtain ⟨b,e,h⟩:=h;refine ⟨b,e,h.imp id λ ⟨v,h1,h2⟩=>⟨v,?_,h2⟩⟩;rw [← h1];exact (World.cell?_of_block (w:=A) (a:=⟨b,0,none⟩) (hb b e)).symm
structure FrO (ob:Option Nat) (A B:World):Prop where
 os:B.os=A.os
 tape:B.tape=A.tape
 output:B.output=A.output
 size:A.heap.size<=B.heap.size
 block:∀ k,k<A.heap.size->¬ aM ob A k->B.heap[k]? = A.heap[k]?
 own:∀ k,aM ob B k->aM ob A k∨(A.heap.size<=k/\k<B.heap.size)
section
variable {ob:Option Nat} {A B C:World}
theorem FrO.refl (ob:Option Nat) (A:World):FrO ob A A:=⟨rfl,rfl,rfl,Nat.le_refl _,λ _ _ _=>rfl,λ _ h=>.inl h⟩
theorem FrO.trans (h:FrO ob A B) (k:FrO ob B C):FrO ob A C:=by
 refine ⟨k.os.trans h.os,k.tape.trans h.tape,k.output.trans h.output,Nat.le_trans h.size k.size,λ i hi hn=>(k.block i (Nat.lt_of_lt_of_le hi h.size) λ h'=>?_).trans (h.block i hi hn),λ i hi=>?_⟩
 ·rcases h.own i h' with h1 | h1
  ·exact hn h1
  ·omega
 ·rcases k.own i hi with h1 | h1
  ·exact (h.own i h1).imp id λ h2=>⟨h2.1,Nat.lt_of_lt_of_le h2.2 k.size⟩
  ·exact .inr ⟨Nat.le_trans h.size h1.1,h1.2⟩
theorem FrO.of_below (hob:∀ b,ob=some b->b<A.heap.size) (h:Below A.heap.size A B):FrO ob A B :=
 ⟨h.os,h.tape,h.output,h.size,λ k hk _=>h.block k hk,λ k hk=>.inl (cz (λ b e=>h.block b (hob b e)) hk)⟩
theorem FrO.below (h:FrO none A B):Below A.heap.size A B:=⟨h.os,h.tape,h.output,h.size,λ k hk=>h.block k hk fh⟩
theorem FrO.keepF (h:FrO ob A B):aj (λ b=>¬ aM ob A b) A B:=⟨h.size,λ k hf hk=>h.block k hk hf⟩
theorem FrO.blk (h:FrO ob A B) {g:Nat} {t:TypeId} {cs:Array Value} (hb:Blk A g t cs) (hn:¬ aM ob A g):Blk B g t cs:=(h.block g hb.lt hn).trans hb
theorem FrO.ownlt (h:FrO ob A B) (hO:∀ k,aM ob A k->k<A.heap.size):∀ k,aM ob B k->k<B.heap.size:=λ k hk=>(h.own k hk).elim (λ h1=>Nat.lt_of_lt_of_le (hO k h1) h.size) λ h1=>h1.2
theorem FrO.not_own (h:FrO ob A B) {k:Nat} (hk:k<A.heap.size) (hn:¬ aM ob A k):¬ aM ob B k:=λ h'=>(h.own k h').elim hn λ h=>by omega
theorem FrO.shut (h:FrO ob A B) {D:Nat} (o':Obj) (hD:A.heap.size<=D) (hob:∀ b,ob=some b->b<A.heap.size):FrO ob A (B.putObj D o'):=by
 have hs:(B.putObj D o').heap.size=B.heap.size:=by simp [World.putObj]
 refine ⟨h.os,h.tape,h.output,by rw [hs];exact h.size,λ k hk hn=>(World.putObj_heap_other (by omega)).trans (h.block k hk hn),λ k hk=>?_⟩;rw [hs];exact h.own k (cz (λ b e=>World.putObj_heap_other (by have:=hob b e;omega)) hk)
end
structure KpR (ob:Option Nat) (N:Nat) (A B:World):Prop where
 os:B.os=A.os
 tape:B.tape=A.tape
 output:B.output=A.output
 size:A.heap.size<=B.heap.size
 block:∀ k,k<A.heap.size->¬ aM ob A k->(N<=k->∀ L,A.heap[k]? ≠ some (.loop L))->B.heap[k]? = A.heap[k]?
 own:∀ k,aM ob B k->aM ob A k∨(A.heap.size<=k/\k<B.heap.size)
section
variable {ob:Option Nat} {N:Nat} {A B C:World}
theorem KpR.of_fro (h:FrO ob A B):KpR ob N A B:=⟨h.os,h.tape,h.output,h.size,λ k hk hn _=>h.block k hk hn,h.own⟩
theorem KpR.refl (ob:Option Nat) (N:Nat) (A:World):KpR ob N A A:=.of_fro (.refl _ _)
theorem KpR.trans (h:KpR ob N A B) (k:KpR ob N B C):KpR ob N A C:=by
 refine ⟨k.os.trans h.os,k.tape.trans h.tape,k.output.trans h.output,Nat.le_trans h.size k.size,λ i hi hn hl=>?_,λ i hi=>?_⟩
 ·have h1:=h.block i hi hn hl;refine (k.block i (Nat.lt_of_lt_of_le hi h.size) (λ h'=>?_) (λ hN L=>by rw [h1];exact hl hN L)).trans h1;rcases h.own i h' with h2 | h2
  ·exact hn h2
  ·omega
 ·rcases k.own i hi with h1 | h1
  ·exact (h.own i h1).imp id λ h2=>⟨h2.1,Nat.lt_of_lt_of_le h2.2 k.size⟩
  ·exact .inr ⟨Nat.le_trans h.size h1.1,h1.2⟩
theorem KpR.putObj {W:World} {k:Nat} {o:Obj} (o':Obj) (hk:N<=k) (ho:W.heap[k]? = some o) (hL:∃ L,o=.loop L) (hob:∀ b,ob=some b->b<N):KpR ob N W (W.putObj k o'):=by
 refine ⟨rfl,rfl,rfl,by simp [World.putObj],λ j hj _ hl=>World.putObj_heap_other ?_,λ j hj=>.inl (cz (λ b e=>World.putObj_heap_other ?_) hj)⟩
 ·rintro rfl;obtain ⟨L,rfl⟩:=hL;exact hl hk L ho
 ·have:=hob b e;omega
theorem KpR.blk (h:KpR ob N A B) {g:Nat} {t:TypeId} {cs:Array Value} (hb:Blk A g t cs) (hn:¬ aM ob A g):Blk B g t cs :=
 (h.block g hb.lt hn λ _ L e=>by unfold Blk at hb;rw [hb] at e;cases e).trans hb
theorem KpR.ownlt (h:KpR ob N A B) (hO:∀ k,aM ob A k->k<A.heap.size):∀ k,aM ob B k->k<B.heap.size:=λ k hk=>(h.own k hk).elim (λ h1=>Nat.lt_of_lt_of_le (hO k h1) h.size) λ h1=>h1.2
theorem KpR.not_own (h:KpR ob N A B) {k:Nat} (hk:k<A.heap.size) (hn:¬ aM ob A k):¬ aM ob B k:=λ h'=>(h.own k h').elim hn λ h=>by omega
theorem KpR.fro (h:KpR ob A.heap.size A B):FrO ob A B:=⟨h.os,h.tape,h.output,h.size,λ k hk hn=>h.block k hk hn λ hN=>by omega,h.own⟩
theorem KpR.keepF (h:KpR ob A.heap.size A B):aj (λ b=>¬ aM ob A b) A B:=h.fro.keepF
end
def fE (A B:World):Prop:=A.heap.size<=B.heap.size/\∀ (k:Nat) (o:Obj),A.heap[k]? = some o->o.isCells=true->B.heap[k]? = some o
theorem fE.of_below {A B:World} (h:Below A.heap.size A B):fE A B:=⟨h.size,λ k o hk _=>(h.block k (Array.getElem?_eq_some_iff.1 hk).1).trans hk⟩
theorem fE.putObj {W:World} {k:Nat} {o:Obj} (o':Obj) (ho:W.heap[k]? = some o) (hc:o.isCells=false):fE W (W.putObj k o') :=
 ⟨by simp [World.putObj],λ j q hj hq=>(World.putObj_heap_other (λ e=>by subst e;rw [hj] at ho;injection ho with ho;subst ho;rw [hq] at hc;cases hc)).trans hj⟩
theorem fE.blk {A B:World} (h:fE A B) {g:Nat} {t:TypeId} {cs:Array Value} (hb:Blk A g t cs):Blk B g t cs:=h.2 g _ hb rfl
structure StW {σ:Type} (ob:Option Nat) (Sx:σ->World->Prop):Prop where
 keep:∀ st A B,fE A B->Sx st A->Sx st B
 cells:∀ st A k,Sx st A->aM ob A k->∃ o,A.heap[k]? = some o/\o.isCells=true
section
variable {σ:Type} {ob:Option Nat} {Sx:σ->World->Prop} {A B:World} {st:σ}
theorem StW.lt (hX:StW ob Sx) (h:Sx st A) {b:Nat} (e:ob=some b):b<A.heap.size:=by
 obtain ⟨o,ho,_⟩:=hX.cells st A b h ⟨b,e,.inl rfl⟩;exact (Array.getElem?_eq_some_iff.1 ho).1
theorem StW.ownlt (hX:StW ob Sx) (h:Sx st A) {k:Nat} (e:aM ob A k):k<A.heap.size:=by
 obtain ⟨o,ho,_⟩:=hX.cells st A k h e;exact (Array.getElem?_eq_some_iff.1 ho).1
theorem StW.bel (hX:StW ob Sx) (h:Sx st A) (hb:Below A.heap.size A B):Sx st B:=hX.keep _ _ _ (.of_below hb) h
theorem StW.keepsFrom (hX:StW ob Sx) (h:Sx st A) (hf:FrO ob A B) (N:Nat):KeepsFrom N A B :=
 ⟨hf.size,λ k o _ hk ho=>(hf.block k (Array.getElem?_eq_some_iff.1 hk).1 λ hw=>by
  obtain ⟨o',h1,h2⟩:=hX.cells st A k h hw;rw [hk] at h1;injection h1 with h1;subst h1;rw [ho] at h2;cases h2).trans hk⟩
end
def mkD (D:Nat):Deferred:={ target:=.collected D,args:=#[] }
structure MkS (B:Nat) (Ds:List Nat) (W:World):Prop where
 nodup:Ds.Nodup
 there:∀ D ∈ Ds,B<=D/\W.heap[D]? = some (.deferred (some []))
section
variable {σ:Type} {ob:Option Nat} {Sx:σ->World->Prop} {A W W':World} {st:σ} {N D:Nat} {Ds:List Nat}
theorem MkS.nil (B:Nat) (W:World):MkS B [] W:=⟨List.nodup_nil,λ D h=>by cases h⟩
theorem MkS.push (h:MkS N Ds W) (hD:N<=D) (hn:D ∉ Ds) (hh:W.heap[D]? = some (.deferred (some []))):MkS N (D::Ds) W :=
 ⟨List.nodup_cons.2 ⟨hn,h.nodup⟩,λ D' hD'=>by rcases List.mem_cons.1 hD' with rfl | hD';exact ⟨hD,hh⟩;exact h.there D' hD'⟩
theorem MkS.lt (h:MkS N Ds W) (hD:D ∈ Ds):D<W.heap.size:=(Array.getElem?_eq_some_iff.1 (h.there D hD).2).1
theorem MkS.keep (h:MkS N Ds W) (hX:StW ob Sx) (hS:Sx st W) (hf:FrO ob W W'):MkS N Ds W' :=
 ⟨h.nodup,λ D hD=>⟨(h.there D hD).1,(hX.keepsFrom hS hf 0).same D _ (Nat.zero_le _) (h.there D hD).2 rfl⟩⟩
theorem MkS.bel (h:MkS N Ds W) (hb:Below W.heap.size W W'):MkS N Ds W' :=
 ⟨h.nodup,λ D hD=>⟨(h.there D hD).1,(hb.block D (h.lt hD)).trans (h.there D hD).2⟩⟩
theorem fV {F:Fence} {n:Nat} {P:Program} {fn:Func} {tmps:Array Value} {R:Ending->World->Prop} (u:FrameMode) (hu:u≠.run) (hX:StW ob Sx) (hob:∀ b,ob=some b->b<A.heap.size)
  (hfin:∀ W',FrO ob A W'->Sx st W'->LeavesIn F n P fn tmps R [] u W') :
  ∀ (Ds:List Nat) (W:World),MkS A.heap.size Ds W->FrO ob A W->Sx st W->LeavesInM F n P fn tmps R (Ds.map mkD) u W
 | [],W,_,hf,hS=>hfin W hf hS
 |D::r,W,hm,hf,hS=>by
  obtain ⟨h1,h2⟩:=hm.there D List.mem_cons_self;refine ⟨hu,.inl ⟨D,_,rfl,run_takeDeferred h2,?_⟩⟩;have hnd:=List.nodup_cons.1 hm.nodup;refine fV u hu hX hob hfin r _ ⟨hnd.2,λ D' hD'=>⟨(hm.there D' (List.mem_cons_of_mem _ hD')).1,?_⟩⟩ (hf.shut _ h1 hob) (hX.keep _ _ _ (fE.putObj _ h2 rfl) hS);refine (World.putObj_heap_other λ e=>?_).trans (hm.there D' (List.mem_cons_of_mem _ hD')).2;subst e;exact hnd.1 hD'
end
end
section
open Go.RowKit
attribute [local go_sem] ab ae af ac
theorem tu (v:JV) (cs:List Value) (F:Nat->Prop) (w:World) (hv:VR w F cs v):Calls Tryz.prog 117 #[.agg cs.toArray] w (cP (dz v) w):=by
 obtain ⟨k,n,s,kids,keys⟩:=v;obtain ⟨A,B,a,b,css,rfl,_⟩:=hv.out;obtain ⟨nk,hnk⟩:∃ q,kids.length=q:=⟨_,rfl⟩
 obtain ⟨ny,hny⟩:∃ q,keys.length=q:=⟨_,rfl⟩
 obtain ⟨g,hg⟩:∃ g,dz (.mk k n s kids keys)=g:=⟨_,rfl⟩
 have hz:g=decide (k=0/\n=0/\s=[]/\nk+ny=0):=by rw [← hg,dz,hnk,hny]
 obtain ⟨sv,hsv⟩:∃ b:ByteArray,(⟨s.toArray⟩:ByteArray)=b:=⟨_,rfl⟩
 have hse:sv.toList=s:=by rw [← hsv,ByteArray.toList_eq]
 rw [hg,hnk,hny,hsv];clear hv hnk hny hsv hg;by_cases h1:k=0;rotate_left
 ·have e1:(k == 0)=false:=by simp [h1]
  obtain rfl:g=false:=by rw [hz];exact decide_eq_false λ h=>h1 h.1
  have HH0:=aW ((aH.nil w).push 42 #[Zi Zq k,Zi Zq n,Zt sv,Zs A nk a,Zs B ny b] (g:=w.heap.size) rfl);obtain ⟨c0,f0,l0⟩:=HH0.out.b0.rules;clear h1 hse hz;go_enter Tryz.func117,Tryz.ntmps117;go_wp2;go_ret;exact ⟨rfl,HH0.out.1⟩
 subst h1;by_cases h2:n=0;rotate_left
 ·have e1:(n == 0)=false:=by simp [h2]
  obtain rfl:g=false:=by rw [hz];exact decide_eq_false λ h=>h2 h.2.1
  have HH0:=aW ((aH.nil w).push 42 #[Zi Zq 0,Zi Zq n,Zt sv,Zs A nk a,Zs B ny b] (g:=w.heap.size) rfl);obtain ⟨c0,f0,l0⟩:=HH0.out.b0.rules;clear h2 hse hz;go_enter Tryz.func117,Tryz.ntmps117;go_wp2;go_ret;exact ⟨rfl,HH0.out.1⟩
 subst h2;by_cases h3:s=[];rotate_left
 ·have hsn:¬ sv.toList=[]:=by rw [hse];exact h3
  obtain rfl:g=false:=by rw [hz];exact decide_eq_false λ h=>h3 h.2.2.1
  have HH0:=aW ((aH.nil w).push 42 #[Zi Zq 0,Zi Zq 0,Zt sv,Zs A nk a,Zs B ny b] (g:=w.heap.size) rfl);obtain ⟨c0,f0,l0⟩:=HH0.out.b0.rules;clear h3 hz hse;go_enter Tryz.func117,Tryz.ntmps117;go_wp2;go_ret;exact ⟨rfl,HH0.out.1⟩
 have hsy:sv.toList=[]:=by rw [hse];exact h3
 clear hse;by_cases h4:nk=0;rotate_left
 ·have e1:((nk:Int) == 0)=false:=by simp;omega
  obtain rfl:g=false:=by rw [hz];exact decide_eq_false λ h=>by omega
  have HH0:=aW ((aH.nil w).push 42 #[Zi Zq 0,Zi Zq 0,Zt sv,Zs A nk a,Zs B ny b] (g:=w.heap.size) rfl);obtain ⟨c0,f0,l0⟩:=HH0.out.b0.rules;clear h3 hz;go_enter Tryz.func117,Tryz.ntmps117;go_wp2;go_ret;exact ⟨rfl,HH0.out.1⟩
 subst h4;by_cases h5:ny=0;rotate_left
 ·have e1:((ny:Int) == 0)=false:=by simp;omega
  obtain rfl:g=false:=by rw [hz];exact decide_eq_false λ h=>by omega
  have HH0:=aW ((aH.nil w).push 42 #[Zi Zq 0,Zi Zq 0,Zt sv,Zs A 0 a,Zs B ny b] (g:=w.heap.size) rfl);obtain ⟨c0,f0,l0⟩:=HH0.out.b0.rules;clear h3 hz;go_enter Tryz.func117,Tryz.ntmps117;go_wp2;go_ret;exact ⟨rfl,HH0.out.1⟩
 subst h5;obtain rfl:g=true:=by rw [hz];exact decide_eq_true ⟨rfl,rfl,h3,rfl⟩
 have HH0:=aW ((aH.nil w).push 42 #[Zi Zq 0,Zi Zq 0,Zt sv,Zs A 0 a,Zs B 0 b] (g:=w.heap.size) rfl);obtain ⟨c0,f0,l0⟩:=HH0.out.b0.rules;clear h3 hz;go_enter Tryz.func117,Tryz.ntmps117;go_wp2;go_ret;exact ⟨rfl,HH0.out.1⟩
theorem xQ (k:Int) (q:Int) (hq:eF k=q) (w:World):Calls Tryz.prog 160 #[Zi Zq k] w λ e w'=>e=.returned (Zi Zq q)/\w=w':=by
 have HQ:=aW hq;clear hq;have hk:k=1∨k=2∨k=3∨k=5∨k=6∨k=7∨k=4∨((k == 1)=false/\(k == 2)=false/\(k == 3)=false/\(k == 5)=false/\(k == 6)=false/\(k == 7)=false/\(k == 4)=false):=by
  simp only [beq_eq_false_iff_ne];omega
 rcases hk with rfl | rfl | rfl | rfl | rfl | rfl | rfl | ⟨h1,h2,h3,h5,h6,h7,h4⟩
 rotate_right
 ·obtain rfl:q=2:=by
   have g1:=beq_eq_false_iff_ne.1 h1;have g2:=beq_eq_false_iff_ne.1 h2;have g3:=beq_eq_false_iff_ne.1 h3;have g4:=beq_eq_false_iff_ne.1 h4;have g5:=beq_eq_false_iff_ne.1 h5;have g6:=beq_eq_false_iff_ne.1 h6;have g7:=beq_eq_false_iff_ne.1 h7;rw [← HQ.out];unfold eF;rw [if_neg (by omega),if_neg (by omega),if_neg (by omega)]
  clear HQ;go_enter Tryz.func160,Tryz.ntmps160;go_wp2;go_ret;exact ⟨rfl,rfl⟩
 all_goals
  obtain rfl:=HQ.out.symm.trans (by rfl:eF _=_);clear HQ;go_enter Tryz.func160,Tryz.ntmps160;go_wp2;go_ret;exact ⟨rfl,rfl⟩
theorem pg {v:JV} (h:dg v=true):1<=v.kind/\v.kind<=6:=by
 obtain ⟨k,n,s,kids,keys⟩:=v;have h1:=(gy (wk h).1).1;show 1<=k/\k<=6
 unfold bZ at h1;split at h1
 ·omega
 split at h1
 ·omega
 split at h1
 ·omega
 split at h1
 ·omega
 split at h1
 ·omega
 split at h1
 ·omega
 cases h1
theorem yl (v:JV) (cs:List Value) (F:Nat->Prop) (w:World) (hv:VR w F cs v) (hc:cN v):Calls Tryz.prog 161 #[.agg cs.toArray] w (cP (fW v) w):=by
 have HRI:=aW (λ (W:World) (h:Below w.heap.size w W)=>uV v cs F W (hv.bel h) hc);have HK:=aW (λ (h:dg v=true)=>pg h);have HLT:=aW (show fW v=(dg v && (decide (v.kind=3/\0<=v.num) || decide (v.kind=1∨v.kind=2∨v.kind=4))) from rfl);obtain ⟨g,hg⟩:∃ g,fW v=g:=⟨_,rfl⟩
 obtain ⟨k,n,s,kids,keys⟩:=v;obtain ⟨A,B,a,b,css,rfl,_⟩:=hv.out;have HH0:=aW ((aH.nil w).push 42 #[Zi Zq k,Zi Zq n,Zt ⟨s.toArray⟩,Zs A kids.length a,Zs B keys.length b] (g:=w.heap.size) rfl);rw [hg] at HLT ⊢;clear hv hc hg;obtain ⟨c0,f0,l0⟩:=HH0.out.b0.rules;obtain ⟨gd,hgd⟩:∃ q,dg (.mk k n s kids keys)=q:=⟨_,rfl⟩
 rw [hgd] at HRI HLT HK;clear hgd;cases gd with
 |false =>
  obtain rfl:g=false:=HLT.out;clear HLT HK;go_enter Tryz.func161,Tryz.ntmps161;go_wp2_with fail;refine (HRI.out _ HH0.out.1).mono ?_;rintro e w1 ⟨rfl,hb1⟩;have HH1:=aW (HH0.out.keep hb1);clear hb1 c0 f0 l0;go_wp2;go_ret;exact ⟨rfl,HH1.out.1⟩
 |true =>
  have hk:1<=k/\k<=6:=HK.out rfl;have hgv:g=(decide (k=3/\0<=n) || decide (k=1∨k=2∨k=4)):=HLT.out;clear HLT HK;by_cases h4:4<k
  ·have e4:¬ k<=4:=by omega
   have e5:decide (k<=4)=false:=decide_eq_false e4;obtain rfl:g=false:=by rw [hgv,decide_eq_false (by omega),decide_eq_false (by omega)];rfl
   clear hgv;go_enter Tryz.func161,Tryz.ntmps161;go_wp2_with fail;refine (HRI.out _ HH0.out.1).mono ?_;rintro e w1 ⟨rfl,hb1⟩;have HH1:=aW (HH0.out.keep hb1);clear hb1 c0 f0 l0;obtain ⟨c0,f0,l0⟩:=HH1.out.b0.rules;go_wp2;go_ret;exact ⟨rfl,HH1.out.1⟩
  have e4:k<=4:=by omega
  have e5:decide (k<=4)=true:=decide_eq_true e4;by_cases h3:k=3;rotate_left
  ·have e3:(k != 3)=true:=by simp [h3]
   obtain rfl:g=true:=by rw [hgv,decide_eq_true (p:=k=1∨k=2∨k=4) (by omega),Bool.or_true]
   clear hgv;go_enter Tryz.func161,Tryz.ntmps161;go_wp2_with fail;refine (HRI.out _ HH0.out.1).mono ?_;rintro e w1 ⟨rfl,hb1⟩;have HH1:=aW (HH0.out.keep hb1);clear hb1 c0 f0 l0;obtain ⟨c0,f0,l0⟩:=HH1.out.b0.rules;go_wp2;go_ret;exact ⟨rfl,HH1.out.1⟩
  subst h3;have HGV:=aW (show g=decide (0<=n) by rw [hgv];simp);by_cases h0:0<=n
  ·obtain rfl:g=true:=by rw [HGV.out];exact decide_eq_true h0
   have e0:decide (0<=n)=true:=decide_eq_true h0;clear hgv HGV;go_enter Tryz.func161,Tryz.ntmps161;go_wp2_with fail;refine (HRI.out _ HH0.out.1).mono ?_;rintro e w1 ⟨rfl,hb1⟩;have HH1:=aW (HH0.out.keep hb1);clear hb1 c0 f0 l0;obtain ⟨c0,f0,l0⟩:=HH1.out.b0.rules;go_wp2;go_ret;exact ⟨rfl,HH1.out.1⟩
  ·obtain rfl:g=false:=by rw [HGV.out];exact decide_eq_false h0
   have e0:decide (0<=n)=false:=decide_eq_false h0;clear hgv HGV;go_enter Tryz.func161,Tryz.ntmps161;go_wp2_with fail;refine (HRI.out _ HH0.out.1).mono ?_;rintro e w1 ⟨rfl,hb1⟩;have HH1:=aW (HH0.out.keep hb1);clear hb1 c0 f0 l0;obtain ⟨c0,f0,l0⟩:=HH1.out.b0.rules;go_wp2;go_ret;exact ⟨rfl,HH1.out.1⟩
mutual
theorem sq:∀ (r:Nat) (x:EJ),dpR r x<=13+r
 |r,.mk k v s kids=>by
  unfold dpR;split
  ·omega
  ·split
   ·split
    ·omega
    ·rename_i hr _ _ m hm
     have:=sn (r-1) kids m hm;show m+1<=13+r
     omega
   ·omega
theorem sn:∀ (r:Nat) (l:List EJ) (m:Nat),dpL r l=some m->m<=13+r
 |r,[],m,h=>by
  rw [dpL] at h;obtain rfl:=Option.some.inj h;omega
 |r,x::l,m,h=>by
  rw [dpL] at h;split at h
  ·cases h
  ·split at h
   ·cases h
   ·rename_i q hq
    obtain rfl:=Option.some.inj h;have h1:=sq r x;have h2:=sn r l q hq;omega
end
theorem nA (r:Nat) (l:List EJ) (x:EJ):dpF r (l++[x])=if dpF r l<dpR r x then dpR r x else dpF r l:=by
 unfold dpF;rw [List.foldl_append];rfl
def DpS (n:Int) (w:World) (e:Ending) (w':World):Prop:=e=.returned (Zi Zq n)/\Below w.heap.size w w'
theorem xP:∀ (r:Nat) (x:EJ) (cs:List Value) (q:Int) (w:World),q=r->r<=13->ER w TT cs x->cG x->Calls Tryz.prog 116 #[.agg cs.toArray,Zi Zq q] w (DpS (dpR r x:Nat) w):=by
 intro r
 induction r with
 |zero =>
  rintro ⟨k,v,s,kids⟩ cs q w rfl hr hx hcx;obtain ⟨k1,n1,s1,A1,na1,ca1,B1,nb1,cb1,A,ca,css0,rfl,_⟩:=hx.out;clear hx hcx hr;obtain ⟨g,hg⟩:∃ g:Int,((dpR 0 (.mk k v s kids):Nat):Int)=g:=⟨_,rfl⟩
  obtain rfl:g=13:=by rw [← hg,dpR,if_pos rfl];rfl
  rw [hg];clear hg;go_enter Tryz.func116,Tryz.ntmps116;go_wp2;go_ret;exact ⟨rfl,by go_grown⟩
 |succ r ih =>
  rintro ⟨k,v,s,kids⟩ cs q w hq hr hx hcx;obtain ⟨k1,n1,s1,A1,na1,ca1,B1,nb1,cb1,A,ca,css0,rfl,hv,h1,h2,h3,h4⟩:=hx.out;unfold cG at hcx;obtain ⟨_,hcv,_,hkl,hkc⟩:=hcx;have HCK:=aW (eV.1 hkc);have HKD:=aW (And.intro h1 h4);have HLI:=aW (λ (W:World) (h:Below w.heap.size w W)=>yl v _ TT W (hv.bel h) hcv);have HZE:=aW (λ (W:World) (h:Below w.heap.size w W)=>tu v _ TT W (hv.bel h));have HIH:=aW (show ∀ (x:EJ) (cs:List Value) (w:World),ER w TT cs x->cG x->Calls Tryz.prog 116 #[.agg cs.toArray,Zi Zq (q-1)] w (DpS (dpR r x:Nat) w) from λ x cs w h1 h2=>ih x cs (q-1) w (by omega) (by omega) h1 h2);obtain ⟨nr,hnr⟩:∃ n,kids.length=n:=⟨_,rfl⟩
  have HNR:=aW hnr;obtain ⟨gn,hgn⟩:∃ g:Int,((dpR (r+1) (.mk k v s kids):Nat):Int)=g:=⟨_,rfl⟩
  have HGN:=aW (show gn=((if okX k v s nr=true then (match dpL r kids with | none=>0 | some m=>m+1) else 0:Nat):Int) by rw [← hgn,dpR,if_neg (by omega),hnr];rfl);have HXN:=aW (show okX k v s nr≠true->gn=0 from λ h=>by rw [HGN.out,if_neg h];rfl);have HAB:=aW (uQ k v s nr);rw [hnr] at hkl h2 ⊢;rw [hgn];have HH0:=aW ((aH.nil w).push 45 #[Zi Zq k,Zi Zq k1,Zi Zq n1,Zt s1,Zs A1 na1 ca1,Zs B1 nb1 cb1,Zt ⟨s.toArray⟩,Zs A nr ca] (g:=w.heap.size) rfl);have hq1:1<=q:=by omega
  have hq14:q<=13:=by omega
  have hq0:(q == 0)=false:=by simp;omega
  have hq0':¬ q=0:=by omega
  have hqw:IntKind.i64.wrap (q-1)=q-1:=by rw [IntKind.wrap_i64];omega
  have HRR:=aW hr;obtain ⟨kn,hkn⟩:∃ z,eF k=z:=⟨_,rfl⟩
  have HKN:=aW (λ (W:World)=>xQ k kn hkn W);clear hx hv h1 h4 hkc hnr ih hgn hq hr hcv;obtain ⟨c0,f0,l0⟩:=HH0.out.b0.rules;obtain ⟨oa,hoa⟩:∃ b,okA k nr=b:=⟨_,rfl⟩
  cases oa with
  |false =>
   obtain rfl:gn=0:=HXN.out (by rw [HAB.out,hoa];simp);have hcase:k<1∨(1<=k/\15<k)∨(1<=k/\k<=15/\0<=kn/\(nr:Int)≠kn):=by
    unfold okA at hoa;rw [Bool.and_eq_false_iff,decide_eq_false_iff_not,Bool.or_eq_false_iff,decide_eq_false_iff_not,decide_eq_false_iff_not,hkn] at hoa;omega
   clear hoa HXN HAB HGN hkn;rcases hcase with hk | ⟨hk,hk2⟩ | ⟨hk,hk2,hk3,hk4⟩
   ·have e1:decide (k<1)=true:=decide_eq_true hk;go_enter Tryz.func116,Tryz.ntmps116;go_upto_region 3 with fail;go_quiet (fail);go_wp2;go_ret;exact ⟨rfl,(HH0.out.drewN _).1⟩
   ·have e1:decide (k<1)=false:=decide_eq_false (by omega);have e1':¬ k<1:=by omega
    have e2:decide (15<k)=true:=decide_eq_true hk2;go_enter Tryz.func116,Tryz.ntmps116;go_upto_region 3 with fail;go_quiet (fail);go_wp2;go_ret;exact ⟨rfl,(HH0.out.drewN _).1⟩
   ·have e1:decide (k<1)=false:=decide_eq_false (by omega);have e1':¬ k<1:=by omega
    have e2:decide (15<k)=false:=decide_eq_false (by omega);have e2':¬ 15<k:=by omega
    have e3:decide (0<=kn)=true:=decide_eq_true hk3;have e4:((nr:Int) != kn)=true:=by simp [hk4]
    go_enter Tryz.func116,Tryz.ntmps116;go_upto_region 3 with fail;go_quiet ((go_at_call 160;exact (HKN.out _).mono λ e w' h=>⟨h.1,_,h.2.symm⟩));go_wp2;go_ret;exact ⟨rfl,(HH0.out.drewN _).1⟩
  | true =>
  have hcase:1<=k/\k<=15/\(kn<0∨0<=kn/\(nr:Int)=kn):=by
   unfold okA at hoa;rw [Bool.and_eq_true,decide_eq_true_eq,Bool.or_eq_true,decide_eq_true_eq,decide_eq_true_eq,hkn] at hoa;omega
  obtain ⟨hk,hk2,hk3⟩:=hcase;have HAB2:=aW (show okX k v s nr=(okB k v && okC k s) by rw [HAB.out,hoa];rfl);have e1:decide (k<1)=false:=decide_eq_false (by omega);have e1':¬ k<1:=by omega
  have e2:decide (15<k)=false:=decide_eq_false (by omega);have e2':¬ 15<k:=by omega
  clear hoa HAB hkn;go_enter Tryz.func116,Tryz.ntmps116;go_upto_region 3 with fail;go_cut [33] (λ s33 wx=>s33=.bool false/\∃ W,W=wx/\Hid (aH [(w.heap.size,45,#[Zi Zq k,Zi Zq k1,Zi Zq n1,Zt s1,Zs A1 na1 ca1,Zs B1 nb1 cb1,Zt ⟨s.toArray⟩,Zs A nr ca])] w W))
  case first =>
   rcases hk3 with hk3 | ⟨hk3,hk4⟩
   ·have e3:decide (0<=kn)=false:=decide_eq_false (by omega);have e3':¬ 0<=kn:=by omega
    go_quiet ((go_at_call 160;exact (HKN.out _).mono λ e w' h=>⟨h.1,_,h.2.symm⟩));go_wp2;go_meet
    case rel=>exact ⟨rfl,_,rfl,aW (HH0.out.drewN _)⟩
   ·have e3:decide (0<=kn)=true:=decide_eq_true hk3;have e4:((nr:Int) != kn)=false:=by simp [hk4]
    go_quiet ((go_at_call 160;exact (HKN.out _).mono λ e w' h=>⟨h.1,_,h.2.symm⟩));go_wp2;go_meet
    case rel=>exact ⟨rfl,_,rfl,aW (HH0.out.drewN _)⟩
  case rest =>
   obtain ⟨rfl,W1,rfl,HH1⟩:=hcut;clear c0 f0 l0 HH0 HKN e1 e1' e2 e2' hk3;obtain ⟨c0,f0,l0⟩:=HH1.out.b0.rules;obtain ⟨ob,hob⟩:∃ b,okB k v=b:=⟨_,rfl⟩
   cases ob with
   |false =>
    obtain rfl:gn=0:=HXN.out (by rw [HAB2.out,hob];simp);clear HXN HAB2 HGN;by_cases h1:k=1
    ·subst h1;have hl:fW v=false:=by unfold okB at hob;rwa [if_pos rfl] at hob
     rw [hl] at HLI;clear hob hl HZE;go_wp2_with fail;refine (HLI.out _ HH1.out.1).mono ?_;rintro e w2 ⟨rfl,hb2⟩;have HH2:=aW (HH1.out.keep hb2);clear hb2 c0 f0 l0;obtain ⟨c0,f0,l0⟩:=HH2.out.b0.rules;go_wp2;go_ret;exact ⟨rfl,HH2.out.1⟩
    ·have hl:dz v=false:=by unfold okB at hob;rwa [if_neg h1] at hob
     have g1:(k == 1)=false:=by simp [h1]
     have g2:(k != 1)=true:=by simp [h1]
     rw [hl] at HZE;clear hob hl HLI h1;go_wp2_with fail;refine (HZE.out _ HH1.out.1).mono ?_;rintro e w2 ⟨rfl,hb2⟩;have HH2:=aW (HH1.out.keep hb2);clear hb2 c0 f0 l0;obtain ⟨c0,f0,l0⟩:=HH2.out.b0.rules;go_wp2;go_ret;exact ⟨rfl,HH2.out.1⟩
   | true =>
   have HAB3:=aW (show okX k v s nr=okC k s by rw [HAB2.out,hob];rfl);clear HAB2;go_upto_region 5 with fail;go_cut [53] (λ s53 wx=>s53=.bool false/\∃ W,W=wx/\Hid (aH [(w.heap.size,45,#[Zi Zq k,Zi Zq k1,Zi Zq n1,Zt s1,Zs A1 na1 ca1,Zs B1 nb1 cb1,Zt ⟨s.toArray⟩,Zs A nr ca])] w W))
   case first =>
    by_cases h1:k=1
    ·subst h1;have hl:fW v=true:=by unfold okB at hob;rwa [if_pos rfl] at hob
     rw [hl] at HLI;clear hob hl HZE;go_wp2_with fail;refine (HLI.out _ HH1.out.1).mono ?_;rintro e w2 ⟨rfl,hb2⟩;have HH2:=aW (HH1.out.keep hb2);clear hb2 c0 f0 l0;obtain ⟨c0,f0,l0⟩:=HH2.out.b0.rules;go_wp2;go_meet
     case rel=>exact ⟨rfl,_,rfl,HH2⟩
    ·have hl:dz v=true:=by unfold okB at hob;rwa [if_neg h1] at hob
     have g1:(k == 1)=false:=by simp [h1]
     have g2:(k != 1)=true:=by simp [h1]
     rw [hl] at HZE;clear hob hl HLI h1;go_wp2_with fail;refine (HZE.out _ HH1.out.1).mono ?_;rintro e w2 ⟨rfl,hb2⟩;have HH2:=aW (HH1.out.keep hb2);clear hb2 c0 f0 l0;obtain ⟨c0,f0,l0⟩:=HH2.out.b0.rules;go_wp2;go_meet
     case rel=>exact ⟨rfl,_,rfl,HH2⟩
   case rest =>
   obtain ⟨rfl,W2,rfl,HH2⟩:=hcut;clear c0 f0 l0 HH1 HLI HZE hob;obtain ⟨c0,f0,l0⟩:=HH2.out.b0.rules;obtain ⟨nb,hnb⟩:∃ b,decide (k=2∨k=3)=b:=⟨_,rfl⟩
   go_upto_region 7 with fail;go_cut [5] (λ s5 wx=>s5=.bool nb/\∃ W,W=wx/\Hid (aH [(w.heap.size,45,#[Zi Zq k,Zi Zq k1,Zi Zq n1,Zt s1,Zs A1 na1 ca1,Zs B1 nb1 cb1,Zt ⟨s.toArray⟩,Zs A nr ca])] w W))
   case first =>
    by_cases h2:k=2
    ·subst h2;obtain rfl:nb=true:=by rw [← hnb];decide
     clear hnb;go_wp2;go_meet
     case rel=>exact ⟨rfl,_,rfl,HH2⟩
    ·have g2:(k == 2)=false:=by simp [h2]
     by_cases h3:k=3
     ·subst h3;obtain rfl:nb=true:=by rw [← hnb];decide
      clear hnb;go_wp2;go_meet
      case rel=>exact ⟨rfl,_,rfl,HH2⟩
     ·have g3:(k == 3)=false:=by simp [h3]
      obtain rfl:nb=false:=by rw [← hnb];exact decide_eq_false (by omega)
      clear hnb h2 h3;go_wp2;go_meet
      case rel=>exact ⟨rfl,_,rfl,HH2⟩
   case rest =>
   clear c0 f0 l0 HH2;obtain ⟨rfl,W3,rfl,HH2⟩:=hcut;obtain ⟨c0,f0,l0⟩:=HH2.out.b0.rules;obtain ⟨nm,hnm⟩:∃ b,eH s=b:=⟨_,rfl⟩
   have HNA:=aW (λ (W:World)=>show Calls Tryz.prog 78 #[Zt ⟨s.toArray⟩] W (λ e w'=>e=.returned (.bool nm)/\W=w') by rw [← hnm];exact lU _ W);have HOC:=aW (show okX k v s nr=if nb=true then nm else decide (s=[]) by
    rw [HAB3.out,okC,hnm,← hnb];simp only [decide_eq_true_eq])
   clear HAB3 hnm hnb;by_cases hok:okX k v s nr=true;rotate_left
   ·obtain rfl:gn=0:=HXN.out hok;clear HXN HGN;cases nb with
    |true =>
     have hnf:nm=false:=by
      rw [HOC.out,if_pos rfl] at hok;simpa using hok
     subst hnf;clear HOC hok;go_wp2_with fail;refine (HNA.out _).mono ?_;rintro e w3 ⟨rfl,rfl⟩;go_wp2;go_ret;exact ⟨rfl,HH2.out.1⟩
    |false =>
     have hs:¬ s=[]:=by
      rw [HOC.out] at hok;simpa using hok
     have hs2:s.isEmpty=false:=by simpa using hs
     clear HOC hok;go_wp2;go_ret;exact ⟨rfl,HH2.out.1⟩
   have HGL:=aW (show gn=((match dpL r kids with | none=>0 | some m=>m+1:Nat):Int) by rw [HGN.out,if_pos hok]);clear HXN HGN;go_upto_region 8 with fail;go_cut [77] (λ s77 wx=>s77=.bool false/\∃ W,W=wx/\Hid (aH [(w.heap.size,45,#[Zi Zq k,Zi Zq k1,Zi Zq n1,Zt s1,Zs A1 na1 ca1,Zs B1 nb1 cb1,Zt ⟨s.toArray⟩,Zs A nr ca])] w W))
   case first =>
    cases nb with
    |true =>
     have hnf:nm=true:=by rw [HOC.out,if_pos rfl] at hok;exact hok
     subst hnf;clear HOC hok;go_wp2_with fail;refine (HNA.out _).mono ?_;rintro e w3 ⟨rfl,rfl⟩;go_wp2;go_meet
     case rel=>exact ⟨rfl,_,rfl,HH2⟩
    |false =>
     have hs:s=[]:=by
      rw [HOC.out] at hok;simpa using hok
     clear HOC hok;subst hs;go_wp2;go_meet
     case rel=>exact ⟨rfl,_,rfl,HH2⟩
   case rest =>
   clear c0 f0 l0 HH2;obtain ⟨rfl,W4,rfl,HH2⟩:=hcut;obtain ⟨c0,f0,l0⟩:=HH2.out.b0.rules;clear HNA HOC hok;go_upto_region 12 with fail;go_loopg [6,7] nr (λ gk s6 s7 wr => ∃ (i:Nat) (m:Int),s6=Zi Zq m/\i<=nr/\gk=nr-i/\s7=Zi Zq (i:Int)/\0<=m/\m<=26/\Hid (m=(dpF r (kids.take i):Nat))/\Hid (∀ x ∈ kids.take i,dpR r x≠0)/\Hid (aH [(w.heap.size,45,#[Zi Zq k,Zi Zq k1,Zi Zq n1,Zt s1,Zs A1 na1 ca1,Zs B1 nb1 cb1,Zt ⟨s.toArray⟩,Zs A nr ca])] w wr))
   case atStart=>exact ⟨0,0,rfl,Nat.zero_le _,by go_num,rfl,Int.le_refl _,by decide,aW (by rw [List.take_zero];rfl),aW (by simp),HH2⟩
   case round =>
    obtain ⟨i,m,rfl,hin,hgk,rfl,hm0,hm26,HM,HNO,HH⟩:=hrel;have HGK:=aW hgk;clear hgk HH2 c0 f0 l0;obtain ⟨c0,f0,l0⟩:=HH.out.b0.rules;by_cases hlt:i<nr
    ·obtain ⟨x,hx⟩:∃ x,kids[i]? = some x:=⟨_,List.getElem?_eq_getElem (by rw [HNR.out];omega)⟩
     have hxm:=List.mem_of_getElem? hx;obtain ⟨b,o,k',k1',n1',s1',A1',na1',ca1',B1',nb1',cb1',s',A2',n2',ca2',rfl,hb,hER,hz⟩:=gU HKD.out.1 HKD.out.2 hx;obtain ⟨z0,z1,z2,z3,z4,z5,z6,z7⟩:=hz wr HH.out.1;have HTK:=aW (show kids.take (i+1)=kids.take i++[x] by rw [List.take_add_one,hx];rfl);have hlb:b<wr.heap.size:=Nat.lt_of_lt_of_le hb HH.out.1.size;obtain ⟨d,hd⟩:∃ d:Nat,dpR r x=d:=⟨_,rfl⟩
     have HDD:=aW hd;have HXM:=aW hxm;have HDL:=aW (show d<=26 by rw [← hd];have:=sq r x;have:=HRR.out;omega);have HE:=aW (λ (W:World) (h:Below w.heap.size w W)=>show Calls Tryz.prog 116 #[.agg #[Zi Zq k',Zi Zq k1',Zi Zq n1',Zt s1',Zs A1' na1' ca1',Zs B1' nb1' cb1',Zt s',Zs A2' n2' ca2'],Zi Zq (q-1)] W (DpS (d:Nat) W) by rw [← hd];exact HIH.out x _ W (hER.bel h) (HCK.out x hxm));clear hz hER hx hxm hb hd;go_wp2_with fail;refine (HE.out _ HH.out.1).mono ?_;rintro e w4 ⟨rfl,hb4⟩;have HH4:=aW (HH.out.keep hb4);clear hb4 z0 z1 z2 z3 z4 z5 z6 z7 c0 f0 l0;by_cases hd0:d=0
     ·subst hd0;obtain rfl:gn=0:=by rw [HGL.out,j8 HXM.out HDD.out];rfl
      clear HGL;go_wp2;go_ret;exact ⟨rfl,HH4.out.1⟩
     ·have e0:((d:Int) == 0)=false:=by simp;omega
      have HN2:=aW (show ∀ y ∈ kids.take (i+1),dpR r y≠0 by
       rw [HTK.out];intro y hy;rcases List.mem_append.1 hy with hy | hy
       ·exact HNO.out y hy
       ·obtain rfl:=List.mem_singleton.1 hy;rw [HDD.out];exact hd0)
      by_cases hmd:m<(d:Int)
      ·have e1:decide (m<(d:Int))=true:=decide_eq_true hmd;have HM2:=aW (show (d:Int)=(dpF r (kids.take (i+1)):Nat) by
        rw [HTK.out,nA,HDD.out,if_pos (by have:=HM.out;omega)])
       have hd26:(d:Int)<=26:=by have:=HDL.out;omega
       have hd00:(0:Int)<=(d:Int):=by omega
       go_wp2;go_roundg (nr-(i+1))
       case measure=>have:=HGK.out;omega
       case rel=>exact ⟨i+1,d,rfl,by omega,rfl,by go_num,hd00,hd26,HM2,HN2,HH4⟩
      ·have e1:decide (m<(d:Int))=false:=decide_eq_false hmd;have HM2:=aW (show m=(dpF r (kids.take (i+1)):Nat) by
        rw [HTK.out,nA,HDD.out,if_neg (by have:=HM.out;omega)];exact HM.out)
       go_wp2;go_roundg (nr-(i+1))
       case measure=>have:=HGK.out;omega
       case rel=>exact ⟨i+1,m,rfl,by omega,rfl,by go_num,hm0,hm26,HM2,HN2,HH4⟩
    ·obtain rfl:i=nr:=by omega
     have hgm:gn=m+1:=by
      have h1:kids.take i=kids:=by rw [← HNR.out,List.take_length]
      have h2:=HM.out;have h3:=HNO.out;rw [h1] at h2 h3;rw [HGL.out,j9 h3,h2];rfl
     have hw1:IntKind.i64.wrap (m+1)=m+1:=by rw [IntKind.wrap_i64];omega
     clear HGL;subst hgm;go_wp2;go_ret;exact ⟨rfl,HH.out.1⟩
end
end Go.Proofs.YtgmnmnnoahdjnaaGreatDoor
