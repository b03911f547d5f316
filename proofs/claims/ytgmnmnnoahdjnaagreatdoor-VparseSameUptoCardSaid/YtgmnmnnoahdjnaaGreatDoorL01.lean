import Derived.Test.YtgmnmnnoahdjnaaGreatDoorB43
set_option maxRecDepth 100000
set_option maxHeartbeats 16000000
set_option linter.unusedVariables false
set_option linter.unusedSimpArgs false
namespace Go.Proofs.YtgmnmnnoahdjnaaGreatDoor
section
open Go.RowKit
theorem zv {P:Program} {md:Region.Mode} {ops:Array Oper} {Q:Exit→Act→World→Prop} {S:World→Prop} {fuel:Nat} {listed:Array Bool} {act:Nat→Nat→Option Addr→Nat→Nat→Option Addr→Nat→Nat→Act} {R:World→Nat→Nat→Option Addr→Nat→Nat→Option Addr→Nat→Nat→Prop} {goal:Prop}
  (hleaf:∀ Z b7 b8 A7 n7 c7 A8 n8 c8,R Z b7 b8 A7 n7 c7 A8 n8 c8→wpAnyH P md ops Q S fuel listed (act b7 b8 A7 n7 c7 A8 n8 c8) Z)
  (h:(∀ Z b7 b8 A7 n7 c7 A8 n8 c8,R Z b7 b8 A7 n7 c7 A8 n8 c8→wpAnyH P md ops Q S fuel listed (act b7 b8 A7 n7 c7 A8 n8 c8) Z)→goal):goal:=h hleaf
def RFv (w Z:World) (P Q:Array Value):Prop:=Below w.heap.size w Z∧Blk Z w.heap.size 24 P∧Blk Z (w.heap.size+1) 24 Q
def NBv (w Z:World) (b:Nat) (v:Value):Prop:=w.heap.size+2≤b∧Blk Z b 24 #[v]
def GRv (L:List Nat):Nat→Prop:=fun b=>b ∉ L
def RWv (Z:World) (F:Nat→Prop) (A:Option Addr) (n ca:Nat) (css:List (List Value)) (l:List SJ):Prop:=(n=l.length∧n≤ca∧(A=none→ca=0))∧SRs Z F css l∧RdF Z F A css.flatten
section
variable {w Z Z':World} {P Q:Array Value} {A:Option Addr} {n ca:Nat} {css:List (List Value)} {l:List SJ} {L:List Nat} {F:Nat→Prop}
theorem RFv.bel (h:RFv w Z P Q) (hb:Below Z.heap.size Z Z'):RFv w Z' P Q:=⟨h.1.trans (hb.mono h.1.size),h.2.1.keep hb,h.2.2.keep hb⟩
theorem RFv.p (h:RFv w Z P Q):Blk Z w.heap.size 24 P:=h.2.1
theorem RFv.q (h:RFv w Z P Q):Blk Z (w.heap.size+1) 24 Q:=h.2.2
theorem RFv.new (h:RFv w Z P Q) {Y:World} (hY:Y=Z.alloc (.cells #[.slice none 0 0] 24)):NBv w Y Z.heap.size (.slice none 0 0):=⟨by have:=h.q.lt;omega,by rw [hY];exact Blk.new _ _ _⟩
theorem RFv.st (h:RFv w Z P Q) {b:Nat} (hb:w.heap.size+2≤b) (u:Value):RFv w (Z.setCell ⟨b,0,none⟩ u) P Q :=
 ⟨h.1.setCell (p:=⟨b,0,none⟩) (by show w.heap.size≤b;omega) u,h.p.far (p:=⟨b,0,none⟩) (by show w.heap.size≠b;omega) u,h.q.far (p:=⟨b,0,none⟩) (by show w.heap.size+1≠b;omega) u⟩
theorem NBv.bel {b:Nat} {v:Value} (h:NBv w Z b v) (hb:Below Z.heap.size Z Z'):NBv w Z' b v:=⟨h.1,h.2.keep hb⟩
theorem RFv.res (h:RFv w Z P Q) (hL:∀ b ∈ L,w.heap.size+2≤b∧b<Z.heap.size) (h1:n=l.length) (h2:n≤ca) (h3:A=none→ca=0) (h4:SRs Z' (FN (fun b=>b<w.heap.size) Z) css l) (h5:RdF Z' (FN (fun b=>b<w.heap.size) Z) A css.flatten):RWv Z' (GRv L) A n ca css l:=by
 have hm:∀ b,b<Z'.heap.size→FN (fun b=>b<w.heap.size) Z b→GRv L b:=fun b _ hb hm=>by
  have:=hL b hm;rcases hb with hb | hb
  ·have hb:b<w.heap.size:=hb;omega
  ·omega
 exact ⟨⟨h1,h2,h3⟩,RR.imp h4 fun c x hc=>hc.mono hm,h5.mono hm⟩
theorem RWv.bel (h:RWv Z F A n ca css l) (hb:Below Z.heap.size Z Z'):RWv Z' F A n ca css l:=⟨h.1,RR.imp h.2.1 fun c x hc=>hc.bel hb,h.2.2.keep (ah.of_below hb)⟩
theorem RWv.add (h:RWv Z (GRv L) A n ca css l) {b:Nat} (hb:Z.heap.size≤b):RWv Z (GRv (b::L)) A n ca css l:=by
 have hm:∀ k,k<Z.heap.size→GRv L k→GRv (b::L) k:=fun k hk hg hm=>by
  rcases List.mem_cons.1 hm with rfl | hm
  ·omega
  ·exact hg hm
 exact ⟨h.1,RR.imp h.2.1 fun c x hc=>hc.mono hm,h.2.2.mono hm⟩
theorem RWv.two (h:RWv Z (GRv L) A n ca css l) {b7 b8:Nat} (hs:∀ x,x ∈ [b7,b8]→x ∈ L):RWv Z (GRv [b7,b8]) A n ca css l:=by
 have hm:∀ k,k<Z.heap.size→GRv L k→GRv [b7,b8] k:=fun k _ hg hm=>hg (hs k hm)
 exact ⟨h.1,RR.imp h.2.1 fun c x hc=>hc.mono hm,h.2.2.mono hm⟩
theorem RWv.tt (h:RWv Z F A n ca css l):jM Z A n ca l:=⟨css,RR.imp h.2.1 fun c x hc=>hc.mono fun _ _ _=>trivial,h.2.2.mono fun _ _ _=>trivial,h.1.1.symm,h.1.2.1⟩
theorem RWv.st (h:RWv Z (GRv L) A n ca css l) {b:Nat} (hb:b ∈ L) (u:Value):RWv (Z.setCell ⟨b,0,none⟩ u) (GRv L) A n ca css l:=by
 have hk:ah (GRv L) Z (Z.setCell ⟨b,0,none⟩ u):=ah.set ah.refl (fun k hg e=>hg (by rw [e];exact hb)) 0 u;exact ⟨h.1,RR.imp h.2.1 fun c x hc=>hc.keep hk,h.2.2.keep hk⟩
end
theorem zu {w W:World} {A:Option Addr} {n ca:Nat} {l:List SJ} (hS:wY w A ca l) (hL:∀ v ∈ l,gZ 4194304 v) (hn:l.length≤4194304) (hln:l.length=n) (hb:Below w.heap.size w W) :
  Calls Tryz.prog 15 #[.agg #[.slice A n ca]] W (vl (dq 14 l) (fun b=>b<w.heap.size) W):=by
 obtain ⟨css,h1,hc,_,h2⟩:=hS;subst hln;exact yC (fun b=>b<w.heap.size) l A l.length ca css W (fun b h=>Nat.lt_of_lt_of_le h hb.size) (RR.imp h1 fun c x hx=>(hx.mono (F':=fun b=>b<w.heap.size) fun b hb' _=>hb').bel hb) ((h2.mono (F':=fun b=>b<w.heap.size) fun b hb' _=>hb').keep (ah.of_below hb)) rfl hc (mG hL) hn
end
end Go.Proofs.YtgmnmnnoahdjnaaGreatDoor
