import Derived.Test.YtgmnmnnoahdjnaaGreatDoorY11
import Derived.Test.YtgmnmnnoahdjnaaGreatDoorY13
open Go.Value renaming int → Zi, slice → Zs, string → Zt, pointer → Zp
open Go.IntKind renaming i64 → Zq
set_option maxRecDepth 100000
set_option maxHeartbeats 16000000
set_option linter.unusedVariables false
set_option linter.unusedSimpArgs false
namespace Go.Proofs.YtgmnmnnoahdjnaaGreatDoor
section
open Go.RowKit
theorem fl {d:Nat} {k n:Int} {s:List UInt8} {kids:List JV} {keys:List (List UInt8)} (h:eG d (.mk k n s kids keys)=true):cz k n s kids.length keys=true/\(5<=k->d≠0)/\il (d-1) kids=true:=by
 unfold eG at h;simp only [Bool.and_eq_true,decide_eq_true_eq] at h;exact ⟨h.1,h.2.1,h.2.2⟩
def gd (v:JV):Prop:=dX v=true
theorem gd.j {v:JV} (h:gd v):eG 8 v=true:=by unfold gd dX at h;rw [Bool.and_eq_true] at h;exact h.1
end
section
def ee (v:JV):Bool:=dX v && (decide (v.kind=3/\0<=v.num) || decide (v.kind=1∨v.kind=2∨v.kind=4))
def dj:JV->Bool | .mk k n s kids keys=>decide (k=0/\n=0/\s=[]/\kids.length+keys.length=0)
def dB (s:List UInt8):Bool:=bc ⟨s.toArray⟩
def okX (k:Int) (v:JV) (s:List UInt8) (nk:Nat):Bool :=
 if k=1 then ee v && decide (s=[]/\nk=0)
 else if dj v=false then false
 else if k=2 then dB s && decide (nk=0)
 else if k=3 then dB s && decide (nk=1)
 else if k=4 then decide (s=[])
 else if 5<=k/\k<=7 then decide (s=[]/\nk=1)
 else if 8<=k/\k<=15 then decide (s=[]/\nk=2)
 else false
mutual
/-- how deep an expression is that may be,within so many levels;0: it may not be -/
def bM:Nat->EJ->Nat
 | room,.mk k v s kids=>if room=0 then 0 else if okX k v s kids.length=true then (match cy (room-1) kids with | none=>0 | some m=>m+1) else 0
def cy:Nat->List EJ->Option Nat
 | _,[]=>some 0
 | room,x::r=>if bM room x=0 then none else match cy room r with | none=>none | some m=>some (max (bM room x) m)
end
def gW (x:EJ):Prop:=bM 12 x≠0
instance (x:EJ):Decidable (gW x):=by unfold gW;infer_instance
def dN:EJ->Bool | .mk k v s kids=>decide (k=0/\s=[]/\kids.length=0) && dj v
mutual
/-- may a statement be,within so many levels? -/
def iY:Nat->SJ->Bool
 | room,.mk k s a b body els=>decide (room≠0) && (decide (gW a) &&
   (if k=1 then decide (gW b) && decide (s=[]/\body.length+els.length=0)
    else if k=2 then dN b && (decide (s=[]) && (bK (room-1) body && bK (room-1) els))
    else if k=3 then dN b && (dB s && (bK (room-1) body && decide (els.length=0)))
    else false))
def bK:Nat->List SJ->Bool
 | _,[]=>true
 | room,x::r=>iY room x && bK room r
end
def lX (l:List SJ):Bool:=bK 12 l
theorem jM {d:Nat}:∀ {xs:List SJ},bK d xs=true ↔ ∀ x ∈ xs,iY d x=true
 | []=>by simp [bK]
 | x::r=>by simp [bK,jM (xs:=r)]
theorem qU {r:Nat} {x:EJ} {l:List EJ}:cy r (x::l)≠none ↔ bM r x≠0/\cy r l≠none:=by
 rw [cy];by_cases h:bM r x=0
 ·rw [if_pos h];simp [h]
 ·rw [if_neg h];cases hd:cy r l<;>simp [h]
theorem iF {r:Nat}:∀ {l:List EJ},cy r l≠none ↔ ∀ x ∈ l,bM r x≠0
 | []=>by simp [cy]
 | x::l=>by rw [qU,iF (l:=l)];simp
theorem cD {r:Nat} {k:Int} {v:JV} {s:List UInt8} {kids:List EJ} (h:bM r (.mk k v s kids)≠0):r≠0/\okX k v s kids.length=true/\∀ x ∈ kids,bM (r-1) x≠0:=by
 unfold bM at h;by_cases h0:r=0
 ·rw [if_pos h0] at h;exact absurd rfl h
 ·rw [if_neg h0] at h;by_cases h1:okX k v s kids.length=true
  ·rw [if_pos h1] at h;refine ⟨h0,h1,iF.1 λ e=>?_⟩;rw [e] at h;exact h rfl
  ·rw [if_neg h1] at h;exact absurd rfl h
theorem qT {r:Nat} {k:Int} {v:JV} {s:List UInt8} {kids:List EJ} (h0:r≠0) (h1:okX k v s kids.length=true) (h2:∀ x ∈ kids,bM (r-1) x≠0):bM r (.mk k v s kids)≠0:=by
 unfold bM;rw [if_neg h0,if_pos h1];cases hd:cy (r-1) kids with
 | none=>exact absurd hd (iF.2 h2)
 | some m=>simp
def eY (b:Bool):JV:=.mk 2 (if b=true then 1 else 0) [] [] []
def lQ (n:Int):JV:=.mk 3 n [] [] []
def je (s:List UInt8):JV:=.mk 4 0 s [] []
end
section
open Go.RowKit
theorem Blk.farC {g b:Nat} {t:TypeId} {cs:Array Value} (hb:g≠b):∀ (l:List Value) (o:Nat) {w:World},Blk w g t cs->Blk (w.setCells b o l) g t cs
 | [],_,_,h=>h
 | v::r,o,w,h=>Blk.farC hb r (o+1) (h.far hb v)
theorem ly {B:Nat} {a:World} {b:Nat} (hb:B<=b):∀ (l:List Value) (o:Nat) {w:World},Below B a w->Below B a (w.setCells b o l)
 | [],_,_,h=>h
 | v::r,o,w,h=>ly hb r (o+1) (h.setCell (p:=⟨b,o,none⟩) hb v)
theorem af.setC {F:Nat->Prop} {a:World} {b:Nat} (hb:∀ k,F k->k≠b):∀ (l:List Value) (o:Nat) {w:World},af F a w->af F a (w.setCells b o l)
 | [],_,_,h=>h
 | v::r,o,w,h=>af.setC hb r (o+1) (h.set hb o v)
theorem Blk.there {w:World} {g:Nat} {t:TypeId} {cs:Array Value} (h:Blk w g t cs):World.there w g 0 cs.size :=
 λ j hj=>⟨by rw [Nat.zero_add,h.cell];simp [hj],h.frozen _⟩
def FO (G:Nat->Prop) (row:Value) (b:Nat):Prop:=G b/\some b≠row.ownBlock
theorem az.grown {L:List (Nat × TypeId × Array Value)} {w0 W W':World} {r:Option Nat} (h:az L w0 W) (hg:W.grownBy W' r) (hr:∀ k,r=some k->w0.heap.size<=k) (hL:∀ x ∈ L,some x.1≠r):az L w0 W' :=
 ⟨h.1.grown hg h.1.size hr,λ x hx=>(h.2 x hx).grown hg (hL x hx)⟩
theorem bP {w:World} {base:Nat} {e:TypeId} {size n:Nat} {v:Value} {xs:List Value} (h:w.ownsRow base e size v n xs):∃ A cap,v=Zs A n cap/\n<=cap/\(A=none->cap=0)/\RdF w (λ b=>base<=b) A xs:=by
 obtain ⟨A,cap,e1,h1,h2⟩:=Rd.of_own h;refine ⟨A,cap,e1,h1,?_,λ hne=>?_⟩;rotate_left
 ·obtain ⟨b,o,e2,hb,hc⟩:=h2 hne;exact ⟨b,o,e2,hb,(h.lt b (by rw [e1,e2];rfl)).1,hc⟩
 rintro rfl;rcases h.2 with ⟨e2,_⟩ | ⟨g,cap',cur,e2,_⟩
 ·rw [e1] at e2;injection e2
 ·rw [e1] at e2;injection e2 with e2;cases e2
theorem nu {w w2:World} {G:Nat->Prop} {row row2:Value} {css:List (List Value)} {kids:List EJ} (h:ERs w (FO G row) css kids) (hg:w.grownBy w2 row.ownBlock) (ho:row2.ownBlock=row.ownBlock∨row2.ownBlock=some w.heap.size) :
  ERs w2 (FO G row2) css kids:=by
 refine RR.imp h λ c x hc=>?_
 have h1:ER w (λ b=>FO G row b/\b<w.heap.size) c x:=hc.mono λ b hb hF=>⟨hF,hb⟩
 have h2:ER w2 (λ b=>FO G row b/\b<w.heap.size) c x:=h1.keep (af.of_grown hg λ b hb=>hb.1.2);refine h2.mono λ b _ hF=>⟨hF.1.1,λ e=>?_⟩
 rcases ho with ho | ho
 ·exact hF.1.2 (by rw [e,ho])
 ·rw [ho] at e;have:b=w.heap.size:=by injection e
  omega
theorem iP {w w2:World} {G:Nat->Prop} {row row2:Value} {css:List (List Value)} {kids:List SJ} (h:SRs w (FO G row) css kids) (hg:w.grownBy w2 row.ownBlock) (ho:row2.ownBlock=row.ownBlock∨row2.ownBlock=some w.heap.size) :
  SRs w2 (FO G row2) css kids:=by
 refine RR.imp h λ c x hc=>?_
 have h1:SR w (λ b=>FO G row b/\b<w.heap.size) c x:=hc.mono λ b hb hF=>⟨hF,hb⟩
 have h2:SR w2 (λ b=>FO G row b/\b<w.heap.size) c x:=h1.keep (af.of_grown hg λ b hb=>hb.1.2);refine h2.mono λ b _ hF=>⟨hF.1.1,λ e=>?_⟩
 rcases ho with ho | ho
 ·exact hF.1.2 (by rw [e,ho])
 ·rw [ho] at e;have:b=w.heap.size:=by injection e
  omega
theorem Blk.thereAt {w:World} {g:Nat} {t:TypeId} {cs:Array Value} {o n:Nat} (h:Blk w g t cs) (ho:o+n<=cs.size):World.there w g o n :=
 λ j hj=>⟨by rw [h.cell];simp;omega,h.frozen _⟩
theorem Blk.setSA {w:World} {g:Nat} {t:TypeId} {c0 c1 c2 c3 c4 c5 c6 c7 c8 c9 c10 c11 c12 c13 c14 c15 c16 c17 c18 c19:Value} (h:Blk w g t #[c0,c1,c2,c3,c4,c5,c6,c7,c8,c9,c10,c11,c12,c13,c14,c15,c16,c17,c18,c19]) (x0 x1 x2 x3 x4 x5 x6 x7:Value):Blk (w.setCells g 2 [x0,x1,x2,x3,x4,x5,x6,x7]) g t #[c0,c1,x0,x1,x2,x3,x4,x5,x6,x7,c10,c11,c12,c13,c14,c15,c16,c17,c18,c19]:=by
 replace h:=h.set_ 2 x0;simp only [List.setIfInBounds_toArray,List.set_cons_succ,List.set_cons_zero] at h;replace h:=h.set_ 3 x1;simp only [List.setIfInBounds_toArray,List.set_cons_succ,List.set_cons_zero] at h;replace h:=h.set_ 4 x2;simp only [List.setIfInBounds_toArray,List.set_cons_succ,List.set_cons_zero] at h;replace h:=h.set_ 5 x3;simp only [List.setIfInBounds_toArray,List.set_cons_succ,List.set_cons_zero] at h;replace h:=h.set_ 6 x4;simp only [List.setIfInBounds_toArray,List.set_cons_succ,List.set_cons_zero] at h;replace h:=h.set_ 7 x5;simp only [List.setIfInBounds_toArray,List.set_cons_succ,List.set_cons_zero] at h;replace h:=h.set_ 8 x6;simp only [List.setIfInBounds_toArray,List.set_cons_succ,List.set_cons_zero] at h;replace h:=h.set_ 9 x7;simp only [List.setIfInBounds_toArray,List.set_cons_succ,List.set_cons_zero] at h;exact h
theorem Blk.setSB {w:World} {g:Nat} {t:TypeId} {c0 c1 c2 c3 c4 c5 c6 c7 c8 c9 c10 c11 c12 c13 c14 c15 c16 c17 c18 c19:Value} (h:Blk w g t #[c0,c1,c2,c3,c4,c5,c6,c7,c8,c9,c10,c11,c12,c13,c14,c15,c16,c17,c18,c19]) (x0 x1 x2 x3 x4 x5 x6 x7:Value):Blk (w.setCells g 10 [x0,x1,x2,x3,x4,x5,x6,x7]) g t #[c0,c1,c2,c3,c4,c5,c6,c7,c8,c9,x0,x1,x2,x3,x4,x5,x6,x7,c18,c19]:=by
 replace h:=h.set_ 10 x0;simp only [List.setIfInBounds_toArray,List.set_cons_succ,List.set_cons_zero] at h;replace h:=h.set_ 11 x1;simp only [List.setIfInBounds_toArray,List.set_cons_succ,List.set_cons_zero] at h;replace h:=h.set_ 12 x2;simp only [List.setIfInBounds_toArray,List.set_cons_succ,List.set_cons_zero] at h;replace h:=h.set_ 13 x3;simp only [List.setIfInBounds_toArray,List.set_cons_succ,List.set_cons_zero] at h;replace h:=h.set_ 14 x4;simp only [List.setIfInBounds_toArray,List.set_cons_succ,List.set_cons_zero] at h;replace h:=h.set_ 15 x5;simp only [List.setIfInBounds_toArray,List.set_cons_succ,List.set_cons_zero] at h;replace h:=h.set_ 16 x6;simp only [List.setIfInBounds_toArray,List.set_cons_succ,List.set_cons_zero] at h;replace h:=h.set_ 17 x7;simp only [List.setIfInBounds_toArray,List.set_cons_succ,List.set_cons_zero] at h;exact h
def PbM (mb:Nat) (em:Value) (w:World) (b:Nat):Prop:=b<w.heap.size/\b≠mb/\some b≠em.ownBlock
structure MG (mb:Nat) (a:Value) (w:World) (b:Value) (w':World):Prop where
 os:w'.os=w.os
 tape:w'.tape=w.tape
 output:w'.output=w.output
 size:w.heap.size<=w'.heap.size
 block:∀ k,k<w.heap.size->k≠mb->some k≠a.ownBlock->w'.heap[k]? = w.heap[k]?
 own:b.ownBlock=a.ownBlock∨∃ k,b.ownBlock=some k/\w.heap.size<=k
theorem ai {P:Program} {md:Region.Mode} {ops:Array Oper} {Q:Exit->Act->World->Prop} {S:World->Prop} {fuel:Nat} {listed:Array Bool} {a:Act} {w:World} (h:∀ W,W=w->wpAnyH P md ops Q S fuel listed a W):wpAnyH P md ops Q S fuel listed a w:=h w rfl
section
variable {mb:Nat} {a b c:Value} {w w1 w2 W:World}
theorem MG.refl (mb:Nat) (a:Value) (w:World):MG mb a w a w:=⟨rfl,rfl,rfl,Nat.le_refl _,λ _ _ _ _=>rfl,.inl rfl⟩
theorem MG.trans (h:MG mb a w b w1) (k:MG mb b w1 c w2):MG mb a w c w2:=by
 refine ⟨k.os.trans h.os,k.tape.trans h.tape,k.output.trans h.output,Nat.le_trans h.size k.size,λ i hi hm hne=>(k.block i (Nat.lt_of_lt_of_le hi h.size) hm ?_).trans (h.block i hi hm hne),?_⟩
 ·rcases h.own with h2 | ⟨q,h2,h3⟩
  ·rw [h2];exact hne
  ·rw [h2];intro e;injection e with e;omega
 ·rcases k.own with k2 | ⟨q,k2,k3⟩
  ·rcases h.own with h2 | ⟨q',h2,h3⟩
   ·exact .inl (k2.trans h2)
   ·exact .inr ⟨q',k2.trans h2,h3⟩
  ·exact .inr ⟨q,k2,Nat.le_trans h.size k3⟩
theorem MG.bel (h:Below w.heap.size w w1):MG mb a w a w1:=⟨h.os,h.tape,h.output,h.size,λ k hk _ _=>h.block k hk,.inl rfl⟩
theorem MG.set (h:MG mb a w b w1) (i:Nat) (u:Value):MG mb a w b (w1.setCell ⟨mb,i,none⟩ u) :=
 ⟨h.os,h.tape,h.output,by simpa [World.setCell] using h.size,λ k hk hm hne=>(Below.heap_setCell w1 ⟨mb,i,none⟩ u k hm).trans (h.block k hk hm hne),h.own⟩
theorem MG.app (h:w.grownBy w1 a.ownBlock) (ho:b.ownBlock=a.ownBlock∨b.ownBlock=some w.heap.size):MG mb a w b w1 :=
 ⟨h.os,h.tape,h.output,h.size,λ k hk _ hne=>h.block k hk hne,ho.imp id λ e=>⟨_,e,Nat.le_refl _⟩⟩
theorem MG.below {base:Nat} (h:MG mb a w b w1) (hb:base<=w.heap.size) (hm:base<=mb) (ho:∀ k,a.ownBlock=some k->base<=k):Below base w w1 :=
 ⟨h.os,h.tape,h.output,h.size,λ k hk=>h.block k (by omega) (by omega) (λ e=>by have:=ho k e.symm;omega)⟩
theorem MG.pb (h:MG mb a w b w1) {k:Nat} (hk:PbM mb a w k):PbM mb b w1 k:=by
 refine ⟨Nat.lt_of_lt_of_le hk.1 h.size,hk.2.1,?_⟩;rcases h.own with h2 | ⟨q,h2,h3⟩
 ·rw [h2];exact hk.2.2
 ·rw [h2];intro e;injection e with e;have:=hk.1;omega
theorem MG.keepF (h:MG mb a w b w1):af (PbM mb a w) w w1:=⟨h.size,λ k hf hk=>h.block k hk hf.2.1 hf.2.2⟩
theorem MG.blk (h:MG mb a w b w1) {g:Nat} {t:TypeId} {cs:Array Value} (hb:Blk w g t cs) (hm:g≠mb) (ho:some g≠a.ownBlock):Blk w1 g t cs:=(h.block g hb.lt hm ho).trans hb
theorem VR.mg {cs:List Value} {v:JV} (h:VR w (PbM mb a w) cs v) (g:MG mb a w b w1):VR w1 (PbM mb b w1) cs v:=(h.keep g.keepF).mono λ _ _ hb=>g.pb hb
theorem ER.mg {cs:List Value} {v:EJ} (h:ER w (PbM mb a w) cs v) (g:MG mb a w b w1):ER w1 (PbM mb b w1) cs v:=(h.keep g.keepF).mono λ _ _ hb=>g.pb hb
theorem SR.mg {cs:List Value} {v:SJ} (h:SR w (PbM mb a w) cs v) (g:MG mb a w b w1):SR w1 (PbM mb b w1) cs v:=(h.keep g.keepF).mono λ _ _ hb=>g.pb hb
theorem RdF.mg {A:Option Addr} {xs:List Value} (h:RdF w (PbM mb a w) A xs) (g:MG mb a w b w1):RdF w1 (PbM mb b w1) A xs:=(h.keep g.keepF).mono λ _ _ hb=>g.pb hb
end
end
section
theorem uP {d:Nat} {l m:List SJ}:bK d (l++m)=(bK d l && bK d m):=by
 induction l with
 | nil=>simp [bK]
 | cons x r ih=>show (iY d x && bK d (r++m))=_;rw [ih,bK,Bool.and_assoc]
mutual
/-- how much an expression is in all -/
def qu:EJ->Nat | .mk _ v s kids=>1+fE v+s.length+sK kids
def sK:List EJ->Nat | []=>0 | x::r=>qu x+sK r
end
mutual
/-- how much a statement is in all -/
def xf:SJ->Nat | .mk _ s a b body els=>1+s.length+qu a+qu b+oh body+oh els
def oh:List SJ->Nat | []=>0 | x::r=>xf x+oh r
end
end
section
open Go.RowKit Go.Shelf
attribute [local go_sem] aa ac ae ab
theorem lS {W:World} {F:Nat->Prop} {css:List (List Value)} {xs:List JV} {A:Option Addr} (h:VRs W F css xs) (hr:RdF W F A css.flatten) {i:Nat} {x:JV} (hx:xs[i]? = some x) :
  ∃ (b o:Nat) (k n:Int) (s:ByteArray) (A':Option Addr) (na ca:Nat) (B':Option Addr) (nb cb:Nat),A=some ⟨b,o,none⟩/\b<W.heap.size/\VR W F [Zi Zq k,Zi Zq n,Zt s,Zs A' na ca,Zs B' nb cb] x /\
   ∀ W',Below W.heap.size W W'->W'.cell? ⟨b,o+i*5,none⟩=some (Zi Zq k)/\W'.cell? ⟨b,o+i*5+1,none⟩=some (Zi Zq n)/\W'.cell? ⟨b,o+i*5+2,none⟩=some (Zt s)/\W'.cell? ⟨b,o+i*5+3,none⟩=some (Zs A' na ca)/\W'.cell? ⟨b,o+i*5+4,none⟩=some (Zs B' nb cb):=by
 obtain ⟨b,o,c,rfl,hb,_,hv,hc⟩:=h.cell hr hx;obtain ⟨k,n,s,A',na,ca,B',nb,cb,rfl⟩:=hv.form;refine ⟨b,o,k,n,s,A',na,ca,B',nb,cb,rfl,hb,hv,λ W' hW=>?_⟩;have z:=λ (j:Nat) u (hj:j<5) hu=>(hW.cell (p:=⟨b,o+(i*5+j),none⟩) hb).trans (hc j u hj hu)
 exact ⟨z 0 _ (by decide) rfl,z 1 _ (by decide) rfl,z 2 _ (by decide) rfl,z 3 _ (by decide) rfl,z 4 _ (by decide) rfl⟩
def iW (w:World) (t:TypeId) (cs cs':Array Value) (wr:World):Prop:=Blk wr w.heap.size t cs/\Blk wr (w.heap.size+1) t cs'/\Below w.heap.size w wr
theorem iW.new (w:World) (t:TypeId) (cs cs':Array Value):iW w t cs cs' ((w.alloc (.cells cs t)).alloc (.cells cs' t)):=by
 refine ⟨(Blk.new w t cs).alloc _,?_,((Below.refl _ w).alloc (Nat.le_refl _) _).alloc (by simp) _⟩;have:=Blk.new (w.alloc (.cells cs t)) t cs';rw [World.size_alloc] at this;exact this
theorem iW.keep {w wr wx:World} {t:TypeId} {cs cs':Array Value} (h:iW w t cs cs' wr) (hb:Below wr.heap.size wr wx):iW w t cs cs' wx:=⟨h.1.keep hb,h.2.1.keep hb,h.2.2.trans (hb.mono h.2.2.size)⟩
theorem iW.drewN {w wr:World} {t:TypeId} {cs cs':Array Value} (h:iW w t cs cs' wr) (k:Nat):iW w t cs cs' (wr.drewN k):=⟨h.1.drewN k,h.2.1.drewN k,aj h.2.2 k⟩
theorem iW.drew {w wr:World} {t:TypeId} {cs cs':Array Value} (h:iW w t cs cs' wr):iW w t cs cs' wr.drew:=⟨h.1.drew,h.2.1.drew,h.2.2.drew⟩
def EqX (p:Prop) (w:World) (e:Ending) (w':World):Prop:=∃ t:Bool,e=.returned (.bool t)/\(t=true ↔ p)/\Below w.heap.size w w'
theorem EqX.no {p:Prop} {w w':World} (h:¬ p) (hb:Below w.heap.size w w'):EqX p w (.returned (.bool false)) w':=⟨false,rfl,by simp [h],hb⟩
theorem EqX.yes {p:Prop} {w w':World} (h:p) (hb:Below w.heap.size w w'):EqX p w (.returned (.bool true)) w':=⟨true,rfl,by simp [h],hb⟩
end
section
open Go.RowKit
attribute [local go_sem] aa ac ae ab
def ma (cs:List Nat):List Value:=cs.map λ n:Nat=>Value.int .i64 (n:Int)
theorem wI {cs:List Nat} (h:0<cs.length):ma cs≠[]:=by
 intro e;have:=congrArg List.length e;simp only [ma,List.length_map,List.length_nil] at this;omega
end
end Go.Proofs.YtgmnmnnoahdjnaaGreatDoor
