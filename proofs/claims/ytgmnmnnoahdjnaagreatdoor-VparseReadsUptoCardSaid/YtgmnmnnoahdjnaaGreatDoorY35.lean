import Derived.Test.YtgmnmnnoahdjnaaGreatDoorY31
import Derived.Test.YtgmnmnnoahdjnaaGreatDoorY32
import Derived.Test.YtgmnmnnoahdjnaaGreatDoorY30
open Go.Value renaming int → Zi, slice → Zs, string → Zt, pointer → Zp
open Go.IntKind renaming i64 → Zq
set_option maxRecDepth 100000
set_option maxHeartbeats 16000000
set_option linter.unusedVariables false
set_option linter.unusedSimpArgs false
namespace Go.Proofs.YtgmnmnnoahdjnaaGreatDoor
section
open Go.RowKit
attribute [local go_sem] aa ac ae ab
/-- a bad taker is handed back -/
theorem vt (d o nT cap:Nat) (p:Nat) (q:Int) (w:World) (hp:p<nT) :
  Calls Tryz.prog 91 #[.agg #[Zs (some ⟨d,o,none⟩) nT cap,Zi Zq p,.bool true],Zi Zq q] w (RdX (.bad p) (some ⟨d,o,none⟩) nT cap w):=by
 have HH0:=aW ((((az.nil w).push 82 #[Zs (some ⟨d,o,none⟩) nT cap,Zi Zq p,.bool true] (g:=w.heap.size) rfl).push 45 #[Zi Zq 0,Zi Zq 0,Zi Zq 0,Zt ⟨#[]⟩,Zs none 0 0,Zs none 0 0,Zt ⟨#[]⟩,Zs none 0 0] (g:=w.heap.size+1) (by simp)).push 82 #[Zs none 0 0,Zi Zq 0,.bool false] (g:=w.heap.size+1+1) (by simp));have HG:=aW (show w.heap.size≠w.heap.size+1/\w.heap.size≠w.heap.size+1+1 by omega);obtain ⟨W0,hW0⟩:∃ W0,((w.alloc (.cells #[Zs (some ⟨d,o,none⟩) nT cap,Zi Zq p,.bool true] 82)).alloc (.cells #[Zi Zq 0,Zi Zq 0,Zi Zq 0,Zt ⟨#[]⟩,Zs none 0 0,Zs none 0 0,Zt ⟨#[]⟩,Zs none 0 0] 45)).alloc (.cells #[Zs none 0 0,Zi Zq 0,.bool false] 82)=W0:=⟨_,rfl⟩
 have HFX:=aW (show bT w W0 (w.heap.size+1) (w.heap.size+1+1) #[Zi Zq 0,Zi Zq 0,Zi Zq 0,Zt ⟨#[]⟩,Zs none 0 0,Zs none 0 0,Zt ⟨#[]⟩,Zs none 0 0] #[Zs none 0 0,Zi Zq 0,.bool false] by rw [← hW0];exact ⟨HH0.out.b1,HH0.out.b0,HH0.out.1,by omega,by omega,by omega⟩);have HB0:=aW (show Blk W0 w.heap.size 82 #[Zs (some ⟨d,o,none⟩) nT cap,Zi Zq p,.bool true] by rw [← hW0];exact HH0.out.b2);have HW0:=aW hW0;clear hW0 HH0;go_enter Tryz.func91,Tryz.ntmps91;go_upto_region 1 with fail;rw [HW0.out];obtain ⟨c0,f0,l0⟩:=HB0.out.rules;clear HW0;go_upto_region 2 with fail;clear c0 f0 l0;refine wp_region_held_drew (S:=λ w'=>Blk w' w.heap.size 82 #[Zs (some ⟨d,o,none⟩) nT cap,Zi Zq p,.bool true]) (by kernel_rfl) (by exact HB0.out) (λ hHeld=>?_);refine aY 0 21 (.agg #[Zi Zq 0,Zi Zq 0,Zi Zq 0,Zt ⟨#[]⟩,Zs none 0 0,Zs none 0 0,Zt ⟨#[]⟩,Zs none 0 0]) rfl ?_ ?_
 ·intro W hSw;obtain ⟨c,f,l⟩:=hSw.rules;go_simp
 refine aY 1 22 (.agg #[Zs (some ⟨d,o,none⟩) nT cap,Zi Zq p,.bool true]) rfl ?_ ?_
 ·intro W hSw;obtain ⟨c,f,l⟩:=hSw.rules;go_simp
 refine aU 2 rfl (λ K hK=>?_);obtain ⟨c9,f9,l9⟩:=HFX.out.b1.rules;go_simp;refine hK.out _ _ (by exact (Blk.far8 (show Blk W0 _ _ _ from hHeld) (by have:=HG.out;omega) _ _ _ _ _ _ _ _).drew) (λ hHeld=>?_);clear hK K
 try simp only [pU]
 refine ai (λ Y1 hY1=>?_);rw [← hY1] at hHeld;replace HFX:=aW (show bT w Y1 _ _ #[Zi Zq 0,Zi Zq 0,Zi Zq 0,Zt ⟨#[]⟩,Zs none 0 0,Zs none 0 0,Zt ⟨#[]⟩,Zs none 0 0] _ by rw [hY1];exact (HFX.out.st1 _ _ _ _ _ _ _ _).drew);clear hY1 c9 f9 l9;refine aU 3 rfl (λ K hK=>?_);obtain ⟨c9,f9,l9⟩:=HFX.out.b2.rules;go_simp;refine hK.out _ _ (by exact Blk.far3 (hHeld) (by have:=HG.out;omega) _ _ _) (λ hHeld=>?_);clear hK K
 try simp only [pU]
 refine ai (λ Y2 hY2=>?_);replace HFX:=aW (show bT w Y2 _ _ _ #[Zs (some ⟨d,o,none⟩) nT cap,Zi Zq p,.bool true] by rw [hY2];exact HFX.out.st2 _ _ _);clear hY2 c9 f9 l9 hHeld;refine aX ?_;obtain ⟨c8,f8,l8⟩:=HFX.out.b1.rules;obtain ⟨c9,f9,l9⟩:=HFX.out.b2.rules;go_wp2;refine bodyPost_ret (v:=.tuple #[.agg #[Zi Zq 0,Zi Zq 0,Zi Zq 0,Zt ⟨#[]⟩,Zs none 0 0,Zs none 0 0,Zt ⟨#[]⟩,Zs none 0 0],.agg #[Zs (some ⟨d,o,none⟩) nT cap,Zi Zq p,.bool true]]) (by simp only [results,Tryz.results91];go_simp) rfl ?_;exact ⟨_,aR,p,true,rfl,ER.zero,HFX.out.bel,hp,rfl⟩
structure ReX (w W:World) (gx gt:Nat) (A:Option Addr) (nT:Nat) (T:List ap) (cx ct:Array Value):Prop where
 fin:bT w W (w.heap.size+1) (w.heap.size+1+1) #[Zi Zq 0,Zi Zq 0,Zi Zq 0,Zt ⟨#[]⟩,Zs none 0 0,Zs none 0 0,Zt ⟨#[]⟩,Zs none 0 0] #[Zs none 0 0,Zi Zq 0,.bool false]
 xb:Blk W gx 45 cx
 tb:Blk W gt 82 ct
 rd0:bW w A nT T
 hx:w.heap.size+3<=gx
 ht:w.heap.size=gt∨w.heap.size+3<=gt
 ne:gx≠gt
theorem af.drew9 {F:Nat->Prop} {W W':World} (h:af F W W'):af F W W'.drew:=⟨h.1,h.2⟩
def au (W:World) (a:Addr) (v:Value):Prop:=W.cell? a=some v
theorem au.keep {W W':World} {a:Addr} {v:Value} (h:au W a v) (hb:Below W.heap.size W W') (ha:a.block<W.heap.size):au W' a v:=(Below.cell hb ha).trans h
theorem au.far {W:World} {a p:Addr} {v:Value} (h:au W a v) (hb:a.block≠p.block) (u:Value):au (W.setCell p u) a v:=(World.cell?_setCell_far _ _ _ _ (Ne.symm hb)).trans h
theorem au.far3 {W:World} {a:Addr} {v:Value} {b:Nat} (h:au W a v) (hb:a.block≠b) (x y z:Value):au (((W.setCell ⟨b,0,none⟩ x).setCell ⟨b,1,none⟩ y).setCell ⟨b,2,none⟩ z) a v:=((h.far (p:=⟨b,0,none⟩) hb x).far (p:=⟨b,1,none⟩) hb y).far (p:=⟨b,2,none⟩) hb z
theorem au.far8 {W:World} {a:Addr} {v:Value} {b:Nat} (h:au W a v) (hb:a.block≠b) (x0 x1 x2 x3 x4 x5 x6 x7:Value) :
  au ((((((((W.setCell ⟨b,0,none⟩ x0).setCell ⟨b,1,none⟩ x1).setCell ⟨b,2,none⟩ x2).setCell ⟨b,3,none⟩ x3).setCell ⟨b,4,none⟩ x4).setCell ⟨b,5,none⟩ x5).setCell ⟨b,6,none⟩ x6).setCell ⟨b,7,none⟩ x7) a v :=
 (((((((h.far (p:=⟨b,0,none⟩) hb x0).far (p:=⟨b,1,none⟩) hb x1).far (p:=⟨b,2,none⟩) hb x2).far (p:=⟨b,3,none⟩) hb x3).far (p:=⟨b,4,none⟩) hb x4).far (p:=⟨b,5,none⟩) hb x5).far (p:=⟨b,6,none⟩) hb x6).far (p:=⟨b,7,none⟩) hb x7
def XF (w:World) (gx gt:Nat) (b:Nat):Prop:=w.heap.size+3<=b/\b≠gx/\b≠gt
section
variable {w W W':World} {gx gt nT:Nat} {A:Option Addr} {T:List ap} {cx ct:Array Value} {e8 e3:Array Value}
theorem bT.setG (h:bT w W (w.heap.size+1) (w.heap.size+1+1) e8 e3) {g:Nat} (hg:w.heap.size=g∨w.heap.size+3<=g) (i:Nat) (v:Value):bT w (W.setCell ⟨g,i,none⟩ v) (w.heap.size+1) (w.heap.size+1+1) e8 e3 :=
 ⟨h.b1.far (p:=⟨g,i,none⟩) (by dsimp only;omega) v,h.b2.far (p:=⟨g,i,none⟩) (by dsimp only;omega) v,h.bel.setCell (p:=⟨g,i,none⟩) (by dsimp only;omega) v,h.h1,h.h2,h.ne⟩
theorem ER.mono' {F F':Nat->Prop} {cs:List Value} {x:EJ} (h:ER W F cs x) (hm:∀ b,b<W.heap.size->F b->F' b):ER W F' cs x:=h.mono hm
theorem ReX.rd (h:ReX w W gx gt A nT T cx ct):bW W A nT T:=h.rd0.keep h.fin.bel
theorem ReX.keep (h:ReX w W gx gt A nT T cx ct) (hb:Below W.heap.size W W'):ReX w W' gx gt A nT T cx ct:=⟨h.fin.keep hb,h.xb.keep hb,h.tb.keep hb,h.rd0,h.hx,h.ht,h.ne⟩
theorem ReX.drew (h:ReX w W gx gt A nT T cx ct):ReX w W.drew gx gt A nT T cx ct:=h.keep (Below.refl _ W).drew
theorem ReX.put {c0 c1 c2:Value} (h:ReX w W gx gt A nT T cx #[c0,c1,c2]) (x y z:Value):ReX w (((W.setCell ⟨gt,0,none⟩ x).setCell ⟨gt,1,none⟩ y).setCell ⟨gt,2,none⟩ z) gx gt A nT T cx #[x,y,z] :=
 ⟨((h.fin.setG h.ht 0 x).setG h.ht 1 y).setG h.ht 2 z,Blk.far3 h.xb h.ne _ _ _,((h.tb.set_ 0 x).set_ 1 y).set_ 2 z,h.rd0,h.hx,h.ht,h.ne⟩
theorem ReX.at_ {c0 c1 c2:Value} (h:ReX w W gx gt A nT T cx #[c0,c1,c2]) (y:Value):ReX w (W.setCell ⟨gt,1,none⟩ y) gx gt A nT T cx #[c0,y,c2] :=
 ⟨h.fin.setG h.ht 1 y,h.xb.far (p:=⟨gt,1,none⟩) h.ne _,h.tb.set_ 1 y,h.rd0,h.hx,h.ht,h.ne⟩
theorem ReX.x8 {c0 c1 c2 c3 c4 c5 c6 c7:Value} (h:ReX w W gx gt A nT T #[c0,c1,c2,c3,c4,c5,c6,c7] ct) (x0 x1 x2 x3 x4 x5 x6 x7:Value) :
  ReX w ((((((((W.setCell ⟨gx,0,none⟩ x0).setCell ⟨gx,1,none⟩ x1).setCell ⟨gx,2,none⟩ x2).setCell ⟨gx,3,none⟩ x3).setCell ⟨gx,4,none⟩ x4).setCell ⟨gx,5,none⟩ x5).setCell ⟨gx,6,none⟩ x6).setCell ⟨gx,7,none⟩ x7) gx gt A nT T #[x0,x1,x2,x3,x4,x5,x6,x7] ct :=
 ⟨(((((((h.fin.setG (.inr h.hx) 0 x0).setG (.inr h.hx) 1 x1).setG (.inr h.hx) 2 x2).setG (.inr h.hx) 3 x3).setG (.inr h.hx) 4 x4).setG (.inr h.hx) 5 x5).setG (.inr h.hx) 6 x6).setG (.inr h.hx) 7 x7,h.xb.set8C _ _ _ _ _ _ _ _,Blk.far8 h.tb (Ne.symm h.ne) _ _ _ _ _ _ _ _,h.rd0,h.hx,h.ht,h.ne⟩
theorem XF.put {cs:List Value} {x:EJ} (h:ER W (XF w gx gt) cs x) (a b c:Value):ER (((W.setCell ⟨gt,0,none⟩ a).setCell ⟨gt,1,none⟩ b).setCell ⟨gt,2,none⟩ c) (XF w gx gt) cs x:=h.keep (af.setC (λ k hk=>hk.2.2) [_,_,_] 0 af.refl)
theorem XF.at_ {cs:List Value} {x:EJ} (h:ER W (XF w gx gt) cs x) (i:Nat) (a:Value):ER (W.setCell ⟨gt,i,none⟩ a) (XF w gx gt) cs x:=h.keep (af.set af.refl (λ k hk=>hk.2.2) _ _)
theorem XF.x8 {cs:List Value} {x:EJ} (h:ER W (XF w gx gt) cs x) (x0 x1 x2 x3 x4 x5 x6 x7:Value) :
  ER ((((((((W.setCell ⟨gx,0,none⟩ x0).setCell ⟨gx,1,none⟩ x1).setCell ⟨gx,2,none⟩ x2).setCell ⟨gx,3,none⟩ x3).setCell ⟨gx,4,none⟩ x4).setCell ⟨gx,5,none⟩ x5).setCell ⟨gx,6,none⟩ x6).setCell ⟨gx,7,none⟩ x7) (XF w gx gt) cs x:=h.keep (ed (λ k hk=>hk.2.1) af.refl _ _ _ _ _ _ _ _)
theorem XF.path {b5:Nat} {nm:List UInt8} {x:EJ} {c0 c1 c2 c3 c4 c5 c6 c7:Value} (h:ER W (XF w gx gt) [c0,c1,c2,c3,c4,c5,c6,c7] x) (hb:Blk W b5 45 #[c0,c1,c2,c3,c4,c5,c6,c7]) (hF:XF w gx gt b5) :
  ER W (XF w gx gt) [Zi Zq 3,Zi Zq 0,Zi Zq 0,Zt ⟨#[]⟩,Zs none 0 0,Zs none 0 0,Zt ⟨nm.toArray⟩,Zs (some ⟨b5,0,none⟩) 1 1] (.mk 3 cS nm [x]) :=
 ER.into (s:=nm) (kids:=[x]) (css:=[[c0,c1,c2,c3,c4,c5,c6,c7]]) VR.zero (RR.snoc RR.nil h) rfl (by simp) (λ h=>by cases h) (RdF.of_blk9 hb hF)
theorem XF.pre {F:Nat->Prop} {b5:Nat} {k:Int} {x:EJ} {c0 c1 c2 c3 c4 c5 c6 c7:Value} (h:ER W F [c0,c1,c2,c3,c4,c5,c6,c7] x) (hb:Blk W b5 45 #[c0,c1,c2,c3,c4,c5,c6,c7]) (hF:F b5) :
  ER W F [Zi Zq k,Zi Zq 0,Zi Zq 0,Zt ⟨#[]⟩,Zs none 0 0,Zs none 0 0,Zt ⟨#[]⟩,Zs (some ⟨b5,0,none⟩) 1 1] (eOp k [x]) :=
 ER.into (s:=[]) (kids:=[x]) (css:=[[c0,c1,c2,c3,c4,c5,c6,c7]]) VR.zero (RR.snoc RR.nil h) rfl (by simp) (λ h=>by cases h) (RdF.of_blk9 hb hF)
theorem XF.two {F:Nat->Prop} {b5:Nat} {k:Int} {x y:EJ} {c0 c1 c2 c3 c4 c5 c6 c7 d0 d1 d2 d3 d4 d5 d6 d7:Value} (h:ER W F [c0,c1,c2,c3,c4,c5,c6,c7] x) (h':ER W F [d0,d1,d2,d3,d4,d5,d6,d7] y) (hb:Blk W b5 45 #[c0,c1,c2,c3,c4,c5,c6,c7,d0,d1,d2,d3,d4,d5,d6,d7]) (hF:F b5) :
  ER W F [Zi Zq k,Zi Zq 0,Zi Zq 0,Zt ⟨#[]⟩,Zs none 0 0,Zs none 0 0,Zt ⟨#[]⟩,Zs (some ⟨b5,0,none⟩) 2 2] (eOp k [x,y]) :=
 ER.into (s:=[]) (kids:=[x,y]) (css:=[[c0,c1,c2,c3,c4,c5,c6,c7],[d0,d1,d2,d3,d4,d5,d6,d7]]) VR.zero (RR.snoc (RR.snoc RR.nil h) h') rfl (by simp) (λ h=>by cases h) (RdF.of_blk9 hb hF)
end
theorem tD (A:Option Addr) (nT cap:Nat) (T:List ap) (N:Nat) (hT:WT T) (hE:pt A nT cap T N) (p:Nat) (w:World) (hV:bW w A nT T) (hp:p<nT) (hN:12*(nT-p)+2<=N+1) :
  Calls Tryz.prog 91 #[tkV A nT cap p false,Zi Zq 8] w (RdX (eE T 8 p) A nT cap w):=by
 obtain ⟨r,hr⟩:∃ r,eE T 8 p=r:=⟨_,rfl⟩
 have HR0:=aW (show r=(match eA T p with | .ok x q=>eP T x q | .bad q=>.bad q) by rw [← hr];exact r4 hT (by rw [hV.len];exact hp));rw [hr];have HAL:=aW (λ (W:World) (h:Below w.heap.size w W)=>yD A nT cap T N hT hE p W (hV.keep h) hp (by omega));have hn9:=hV.few;have HV:=aW hV;have HL:=aW hV.len;have HP:=aW hp;have HH0:=aW ((((az.nil w).push 82 #[Zs A nT cap,Zi Zq p,.bool false] (g:=w.heap.size) rfl).push 45 #[Zi Zq 0,Zi Zq 0,Zi Zq 0,Zt ⟨#[]⟩,Zs none 0 0,Zs none 0 0,Zt ⟨#[]⟩,Zs none 0 0] (g:=w.heap.size+1) (by simp)).push 82 #[Zs none 0 0,Zi Zq 0,.bool false] (g:=w.heap.size+1+1) (by simp));obtain ⟨W0,hW0⟩:∃ W0,((w.alloc (.cells #[Zs A nT cap,Zi Zq p,.bool false] 82)).alloc (.cells #[Zi Zq 0,Zi Zq 0,Zi Zq 0,Zt ⟨#[]⟩,Zs none 0 0,Zs none 0 0,Zt ⟨#[]⟩,Zs none 0 0] 45)).alloc (.cells #[Zs none 0 0,Zi Zq 0,.bool false] 82)=W0:=⟨_,rfl⟩
 have HFX0:=aW (show bT w W0 (w.heap.size+1) (w.heap.size+1+1) #[Zi Zq 0,Zi Zq 0,Zi Zq 0,Zt ⟨#[]⟩,Zs none 0 0,Zs none 0 0,Zt ⟨#[]⟩,Zs none 0 0] #[Zs none 0 0,Zi Zq 0,.bool false] by rw [← hW0];exact ⟨HH0.out.b1,HH0.out.b0,HH0.out.1,by omega,by omega,by omega⟩);have HB0:=aW (show Blk W0 w.heap.size 82 #[Zs A nT cap,Zi Zq p,.bool false] by rw [← hW0];exact HH0.out.b2);have HS0:=aW (show W0.heap.size=w.heap.size+3 by rw [← hW0];simp);have HW0:=aW hW0;clear hW0 HH0;clear hV hr hE hp hN;unfold tkV at HAL ⊢;go_enter Tryz.func91,Tryz.ntmps91;go_upto_region 1 with fail;rw [HW0.out];obtain ⟨c0,f0,l0⟩:=HB0.out.rules;clear HW0;go_wp2_with fail;refine (HAL.out _ HFX0.out.bel).mono ?_;rintro e w1 ⟨cs,x,q,b1,rfl,he1,hb1,hq1,hr1⟩;unfold tkV;obtain ⟨k9,k19,n19,s19,A19,na19,ca19,B19,nb19,cb19,s9,A29,n29,ca29,rfl⟩:=he1.form;have HB1:=aW (And.intro hb1 (And.intro he1 (And.intro hq1 hr1)));clear c0 f0 l0 hb1 he1 hq1 hr1;go_wp2_with fail;obtain ⟨hb1,he1,hq1,hr1⟩:=HB1.out;have hs1:w.heap.size+3<=w1.heap.size:=by have:=hb1.size;have:=HS0.out;omega
 obtain ⟨gx,hgx⟩:∃ z,w1.heap.size=z:=⟨_,rfl⟩
 obtain ⟨gt,hgt⟩:∃ z,w1.heap.size+1=z:=⟨_,rfl⟩
 obtain ⟨W2,hW2⟩:∃ W',(w1.alloc (.cells #[Zi Zq k9,Zi Zq k19,Zi Zq n19,Zt s19,Zs A19 na19 ca19,Zs B19 nb19 cb19,Zt s9,Zs A29 n29 ca29] 45)).alloc (.cells #[Zs A nT cap,Zi Zq q,.bool b1] 82)=W':=⟨_,rfl⟩
 rw [hW2]
 try rw [hgt]
 try rw [hgx]
 have hb2:Below w1.heap.size w1 W2:=by rw [← hW2];exact ((Below.refl w1.heap.size w1).alloc (Nat.le_refl _) _).alloc (by simp) _
 have HX2:=aW (show ReX w W2 gx gt A nT T #[Zi Zq k9,Zi Zq k19,Zi Zq n19,Zt s19,Zs A19 na19 ca19,Zs B19 nb19 cb19,Zt s9,Zs A29 n29 ca29] #[Zs A nT cap,Zi Zq q,.bool b1] by
  refine ⟨(HFX0.out.keep hb1).keep hb2,?_,?_,HV.out,by omega,.inr (by omega),by omega⟩
  ·rw [← hW2,← hgx];exact (Blk.new w1 _ _).alloc _
  ·rw [← hW2,← hgt];exact Blk.newAt _ _ _ (by simp))
 have HE2:=aW (show ER W2 (XF w gx gt) [Zi Zq k9,Zi Zq k19,Zi Zq n19,Zt s19,Zs A19 na19 ca19,Zs B19 nb19 cb19,Zt s9,Zs A29 n29 ca29] x from (he1.mono' (F':=XF w gx gt) λ b hb hF=>by
  unfold NW at hF;have:=HS0.out;exact ⟨by omega,by omega,by omega⟩).bel hb2)
 have HG:=aW (show w.heap.size+3<=gx/\gt=gx+1 by omega);have HQ:=aW (show r=(if b1=true then .bad q else eP T x q) by
  rw [HR0.out,hr1];cases b1<;>rfl)
 clear hb1 he1 hr1 hs1 hgx hgt hW2 hb2 HB1 HR0 HFX0 HB0 HS0 HAL;go_loopg [] (if b1=true then 0 else nT-q) (λ gk wr => ∃ (p':Nat) (x':EJ) (bb:Bool) (k9 k19 n19:Int) (s19:ByteArray) (A19:Option Addr) (na19 ca19:Nat) (B19:Option Addr) (nb19 cb19:Nat) (s9:ByteArray) (A29:Option Addr) (n29 ca29:Nat),p'<nT/\gk=(if bb=true then 0 else nT-p')/\Hid (r=(if bb=true then .bad p' else eP T x' p'))/\Hid (ReX w wr gx gt A nT T #[Zi Zq k9,Zi Zq k19,Zi Zq n19,Zt s19,Zs A19 na19 ca19,Zs B19 nb19 cb19,Zt s9,Zs A29 n29 ca29] #[Zs A nT cap,Zi Zq p',.bool bb])/\Hid (ER wr (XF w gx gt) [Zi Zq k9,Zi Zq k19,Zi Zq n19,Zt s19,Zs A19 na19 ca19,Zs B19 nb19 cb19,Zt s9,Zs A29 n29 ca29] x'))
 case atStart=>exact ⟨q,x,b1,k9,k19,n19,s19,A19,na19,ca19,B19,nb19,cb19,s9,A29,n29,ca29,hq1,rfl,HQ,HX2,HE2⟩
 case round =>
  obtain ⟨p',x',bb,k9,k19,n19,s19,A19,na19,ca19,B19,nb19,cb19,s9,A29,n29,ca29,hpn,hgk,HRP,HX,HE⟩:=hrel;have HGK:=aW hgk;have HPN:=aW hpn;clear hgk HQ HX2 HE2 hq1;obtain ⟨cc,hcc⟩:∃ c,(!bb && al T p' [46])=c:=⟨_,rfl⟩
  have HSE:=aW (nV [46] wr A nT cap T p' bb HX.out.rd hpn);rw [hcc] at HSE;unfold tkV at HSE;obtain ⟨c0,f0,l0⟩:=HX.out.tb.rules;cases cc
  ·have HR:=aW (show r=(if bb=true then .bad p' else .ok x' p') by
    rw [HRP.out];cases bb
    ·have hs:al T p' [46]=false:=by simpa using hcc
     simp only [Bool.false_eq_true,if_false];rw [r6 hT (by rw [HL.out];exact hpn),if_neg (by rw [hs];simp)]
    ·rfl)
   clear hcc;go_wp2_with fail;refine HSE.out.mono ?_;rintro e w3 ⟨rfl,hb3⟩;have HX3:=aW (HX.out.keep hb3);have HE3:=aW (HE.out.bel hb3);clear hb3 HX HE HSE c0 f0 l0;go_upto_region 12 with fail;have HFX:=aW HX3.out.fin;refine wp_region_held_drew (S:=λ w'=>Blk w' gx 45 #[Zi Zq k9,Zi Zq k19,Zi Zq n19,Zt s19,Zs A19 na19 ca19,Zs B19 nb19 cb19,Zt s9,Zs A29 n29 ca29]/\Blk w' gt 82 #[Zs A nT cap,Zi Zq p',.bool bb]) (by kernel_rfl) (by exact ⟨HX3.out.xb,HX3.out.tb⟩) (λ hHeld=>?_);refine aY 0 52 (.agg #[Zi Zq k9,Zi Zq k19,Zi Zq n19,Zt s19,Zs A19 na19 ca19,Zs B19 nb19 cb19,Zt s9,Zs A29 n29 ca29]) rfl ?_ ?_
   ·intro W hSw;obtain ⟨⟨c,f,l⟩,⟨c',f',l'⟩⟩:=And.intro hSw.1.rules hSw.2.rules;go_simp
   refine aY 1 53 (.agg #[Zs A nT cap,Zi Zq p',.bool bb]) rfl ?_ ?_
   ·intro W hSw;obtain ⟨⟨c,f,l⟩,⟨c',f',l'⟩⟩:=And.intro hSw.1.rules hSw.2.rules;go_simp
   refine aU 2 rfl (λ K hK=>?_);obtain ⟨c9,f9,l9⟩:=HFX.out.b1.rules;go_simp;refine hK.out _ _ (by exact ⟨(Blk.far8 (show Blk w3 _ _ _ from hHeld.1) (by have:=HG.out;omega) _ _ _ _ _ _ _ _).drew,(Blk.far8 (show Blk w3 _ _ _ from hHeld.2) (by have:=HG.out;omega) _ _ _ _ _ _ _ _).drew⟩) (λ hHeld=>?_);clear hK K
   try simp only [pU]
   refine ai (λ Y1 hY1=>?_);rw [← hY1] at hHeld;replace HFX:=aW (show bT w Y1 _ _ #[Zi Zq k9,Zi Zq k19,Zi Zq n19,Zt s19,Zs A19 na19 ca19,Zs B19 nb19 cb19,Zt s9,Zs A29 n29 ca29] _ by rw [hY1];exact (HFX.out.st1 _ _ _ _ _ _ _ _).drew);have HKF:=aW (show af (λ b=>w.heap.size+3<=b) w3 Y1 by rw [hY1];exact (show af (λ b=>w.heap.size+3<=b) w3 _ from ed (λ k hk=>by omega) af.refl _ _ _ _ _ _ _ _).drew9);clear hY1 c9 f9 l9;refine aU 3 rfl (λ K hK=>?_);obtain ⟨c9,f9,l9⟩:=HFX.out.b2.rules;go_simp;refine hK.out _ _ (by exact ⟨Blk.far3 (hHeld.1) (by have:=HG.out;omega) _ _ _,Blk.far3 (hHeld.2) (by have:=HG.out;omega) _ _ _⟩) (λ hHeld=>?_);clear hK K
   try simp only [pU]
   refine ai (λ Y2 hY2=>?_);replace HFX:=aW (show bT w Y2 _ _ _ #[Zs A nT cap,Zi Zq p',.bool bb] by rw [hY2];exact HFX.out.st2 _ _ _);replace HKF:=aW (show af (λ b=>w.heap.size+3<=b) w3 Y2 by rw [hY2];exact af.setC (λ k hk=>by omega) [_,_,_] 0 HKF.out);clear hY2 c9 f9 l9 hHeld;refine aX ?_;obtain ⟨c8,f8,l8⟩:=HFX.out.b1.rules;obtain ⟨c9,f9,l9⟩:=HFX.out.b2.rules;go_wp2;refine bodyPost_ret (v:=.tuple #[.agg #[Zi Zq k9,Zi Zq k19,Zi Zq n19,Zt s19,Zs A19 na19 ca19,Zs B19 nb19 cb19,Zt s9,Zs A29 n29 ca29],.agg #[Zs A nT cap,Zi Zq p',.bool bb]]) (by simp only [results,Tryz.results91];go_simp) rfl ?_;exact ⟨_,x',p',bb,rfl,(HE3.out.mono (F':=λ b=>w.heap.size+3<=b) λ b _ hb=>hb.1).keep HKF.out |>.mono λ b _ hb=>by unfold NW;omega,HFX.out.bel,HPN.out,HR.out⟩
  ·obtain rfl:bb=false:=by cases bb<;>simp_all
   have hs:al T p' [46]=true:=by simpa using hcc
   have h1:p'+1<nT:=by have h9:=hT.next (p:=p') (by rw [HL.out];exact hpn) (ar hs);rw [HL.out] at h9;exact h9
   have hrp:r=if tkK T (p'+1)=1 then eP T (.mk 3 cS (tkT T (p'+1)) [x']) (p'+2) else .bad (p'+1):=by
    rw [HRP.out];simp only [Bool.false_eq_true,if_false];rw [r6 hT (by rw [HL.out];exact hpn),if_pos hs]
   obtain ⟨c1,hc1⟩:∃ c,decide (tkK T (p'+1)=1)=c:=⟨_,rfl⟩
   obtain ⟨q2,hq2⟩:∃ z,(if c1=true then p'+1+1 else p'+1)=z:=⟨_,rfl⟩
   obtain ⟨b2,hb2⟩:∃ z,(!c1)=z:=⟨_,rfl⟩
   obtain ⟨nm,hnm⟩:∃ z,(if c1=true then tkT T (p'+1) else [])=z:=⟨_,rfl⟩
   have HNM:=aW (λ W (h:bW W A nT T)=>xI W A nT cap T (p'+1) false c1 h h1 (by rw [hc1];rfl));rw [hq2,hb2,hnm] at HNM;unfold tkV at HNM;have HQ2:=aW (show p'<q2/\q2<nT/\r=(if b2=true then .bad q2 else eP T (.mk 3 cS nm [x']) q2) by
    rw [hrp,← hq2,← hb2,← hnm];cases c1
    ·have hk:¬ tkK T (p'+1)=1:=by simpa using hc1
     rw [if_neg hk];exact ⟨by simp,by simpa using h1,rfl⟩
    ·have hk:tkK T (p'+1)=1:=by simpa using hc1
     rw [if_pos hk];have h2:p'+2<nT:=by have h9:=hT.next (p:=p'+1) (by rw [HL.out];exact h1) (by omega);rw [HL.out] at h9;exact h9
     exact ⟨by simp only [if_true];omega,by simpa using h2,rfl⟩)
   clear hcc hs hrp hc1 hq2 hb2 hnm HRP;go_wp2_with fail;refine HSE.out.mono ?_;rintro e w3 ⟨rfl,hb3⟩;replace HX:=aW (HX.out.keep hb3);replace HE:=aW (HE.out.bel hb3);clear hb3 HSE c0 f0 l0;obtain ⟨c0,f0,l0⟩:=HX.out.tb.rules;go_upto_region 9 with fail;rw [show ((p':Int)+1)=((p'+1:Nat):Int) from rfl];obtain ⟨W4,hW4⟩:∃ W',w3.setCell ⟨gt,1,none⟩ (Zi Zq (p'+1:Nat))=W':=⟨_,rfl⟩
   rw [hW4];replace HX:=aW (show ReX w W4 gx gt A nT T #[Zi Zq k9,Zi Zq k19,Zi Zq n19,Zt s19,Zs A19 na19 ca19,Zs B19 nb19 cb19,Zt s9,Zs A29 n29 ca29] #[Zs A nT cap,Zi Zq (p'+1:Nat),.bool false] by rw [← hW4];exact HX.out.at_ _);replace HE:=aW (show ER W4 (XF w gx gt) [Zi Zq k9,Zi Zq k19,Zi Zq n19,Zt s19,Zs A19 na19 ca19,Zs B19 nb19 cb19,Zt s9,Zs A29 n29 ca29] x' by rw [← hW4];exact XF.at_ HE.out _ _);clear hW4 c0 f0 l0;obtain ⟨c0,f0,l0⟩:=HX.out.tb.rules;go_wp2_with fail;refine (HNM.out _ HX.out.rd).mono ?_;rintro e w5 ⟨rfl,hb5⟩;replace HX:=aW (HX.out.keep hb5);replace HE:=aW (HE.out.bel hb5);clear hb5 HNM c0 f0 l0;go_upto_region 10 with fail;obtain ⟨W6,hW6⟩:∃ W',w5.alloc (.cells #[Zs A nT cap,Zi Zq q2,.bool b2] 82)=W':=⟨_,rfl⟩
   obtain ⟨g6,hg6⟩:∃ z,w5.heap.size=z:=⟨_,rfl⟩
   rw [hW6]
   try rw [hg6]
   have hb6:Below w5.heap.size w5 W6:=by rw [← hW6];exact (Below.refl _ w5).alloc (Nat.le_refl _) _
   have HN6:=aW (show Blk W6 g6 82 #[Zs A nT cap,Zi Zq q2,.bool b2] by rw [← hW6,← hg6];exact Blk.new _ _ _);replace HX:=aW (HX.out.keep hb6);replace HE:=aW (HE.out.bel hb6);clear hW6 hg6 hb6;obtain ⟨c6,f6,l6⟩:=HN6.out.rules;obtain ⟨c0,f0,l0⟩:=HX.out.tb.rules;go_upto_region 11 with fail;obtain ⟨W7,hW7⟩:∃ W',((W6.setCell ⟨gt,0,none⟩ (Zs A nT cap)).setCell ⟨gt,1,none⟩ (Zi Zq q2)).setCell ⟨gt,2,none⟩ (.bool b2)=W':=⟨_,rfl⟩
   rw [hW7];replace HX:=aW (show ReX w W7 gx gt A nT T #[Zi Zq k9,Zi Zq k19,Zi Zq n19,Zt s19,Zs A19 na19 ca19,Zs B19 nb19 cb19,Zt s9,Zs A29 n29 ca29] #[Zs A nT cap,Zi Zq q2,.bool b2] by rw [← hW7];exact HX.out.put _ _ _);replace HE:=aW (show ER W7 (XF w gx gt) [Zi Zq k9,Zi Zq k19,Zi Zq n19,Zt s19,Zs A19 na19 ca19,Zs B19 nb19 cb19,Zt s9,Zs A29 n29 ca29] x' by rw [← hW7];exact XF.put HE.out _ _ _);clear hW7 c0 f0 l0 c6 f6 l6 HN6;obtain ⟨c0,f0,l0⟩:=HX.out.xb.rules;go_wp2;go_roundg (if b2=true then 0 else nT-q2)
   case measure=>have h8:gk=nT-p':=HGK.out;have h9:=HQ2.out;split<;>omega
   case rel =>
    have hx9:=HX.out.xb.lt;have ht9:=HX.out.tb.lt;have hgg:=HG.out;obtain ⟨W8,hW8⟩:∃ W',((((((((W7.setCell ⟨gx,0,none⟩ (Zi Zq 3)).setCell ⟨gx,1,none⟩ (Zi Zq 0)).setCell ⟨gx,2,none⟩ (Zi Zq 0)).setCell ⟨gx,3,none⟩ (Zt ⟨#[]⟩)).setCell ⟨gx,4,none⟩ (Zs none 0 0)).setCell ⟨gx,5,none⟩ (Zs none 0 0)).setCell ⟨gx,6,none⟩ (Zt ⟨nm.toArray⟩)).setCell ⟨gx,7,none⟩ (Zs (some ⟨W7.heap.size,0,none⟩) 1 1))=W':=⟨_,rfl⟩
    rw [hW8];have hs8:W8.heap.size=W7.heap.size:=by rw [← hW8];simp [World.setCell]
    have HX8:=aW (show ReX w W8 gx gt A nT T #[Zi Zq 3,Zi Zq 0,Zi Zq 0,Zt ⟨#[]⟩,Zs none 0 0,Zs none 0 0,Zt ⟨nm.toArray⟩,Zs (some ⟨W7.heap.size,0,none⟩) 1 1] #[Zs A nT cap,Zi Zq q2,.bool b2] by rw [← hW8];exact HX.out.x8 _ _ _ _ _ _ _ _);have HE8:=aW (show ER W8 (XF w gx gt) [Zi Zq k9,Zi Zq k19,Zi Zq n19,Zt s19,Zs A19 na19 ca19,Zs B19 nb19 cb19,Zt s9,Zs A29 n29 ca29] x' by rw [← hW8];exact XF.x8 HE.out _ _ _ _ _ _ _ _);have HN8:=aW (Blk.new W8 45 #[Zi Zq k9,Zi Zq k19,Zi Zq n19,Zt s19,Zs A19 na19 ca19,Zs B19 nb19 cb19,Zt s9,Zs A29 n29 ca29]);rw [hs8] at HN8;clear hW8;have hz:Below W8.heap.size W8 (W8.alloc (.cells #[Zi Zq k9,Zi Zq k19,Zi Zq n19,Zt s19,Zs A19 na19 ca19,Zs B19 nb19 cb19,Zt s9,Zs A29 n29 ca29] 45)):=(Below.refl _ W8).alloc (Nat.le_refl _) _;exact ⟨q2,.mk 3 cS nm [x'],b2,3,0,0,⟨#[]⟩,none,0,0,none,0,0,⟨nm.toArray⟩,some ⟨W7.heap.size,0,none⟩,1,1,HQ2.out.2.1,rfl,aW HQ2.out.2.2,aW (HX8.out.keep hz),aW (XF.path (HE8.out.bel hz) HN8.out ⟨by omega,by omega,by omega⟩)⟩
theorem qg {T:List ap} {p:Nat} {ks:List Nat} {i k:Nat} (hn:∀ j k,j<i->ks[j]? = some k->al T p (bF (opK (k:Int)))=false) (hk:ks[i]? = some k) (hs:al T p (bF (opK (k:Int)))=true):kj T p ks=some (k:Int):=by
 obtain ⟨hi,e⟩:=List.getElem?_eq_some_iff.1 hk;rw [kl hn,List.drop_eq_getElem_cons hi,e,kj,if_pos hs]
theorem nO {T:List ap} {p:Nat} {ks:List Nat} (hn:∀ j k,j<ks.length->ks[j]? = some k->al T p (bF (opK (k:Int)))=false):kj T p ks=none:=by
 rw [kl hn,List.drop_length];rfl
theorem kg {W:World} {F:Nat->Prop} {A:Option Addr} {ks:List Nat} {i k:Nat} (h:RdF W F A (ma ks)) (hk:ks[i]? = some k):∃ b o,A=some ⟨b,o,none⟩/\b<W.heap.size/\F b/\au W ⟨b,o+i,none⟩ (Zi Zq (k:Int)):=by
 obtain ⟨hi,e⟩:=List.getElem?_eq_some_iff.1 hk;obtain ⟨b,o,h1,h2,h3,h4⟩:=h (wI (by omega));refine ⟨b,o,h1,h2,h3,?_⟩;have h9:=h4 i (by rw [ma,List.length_map];exact hi);unfold au;rw [h9];simp only [ma,List.getElem_map];rw [e]
theorem vv (A:Option Addr) (nT cap:Nat) (T:List ap) (N:Nat) (hT:WT T) (hE:pt A nT cap T N) (lvl p:Nat) (q:Int) (w:World) (hV:bW w A nT T) (h37:lvl=3∨lvl=7) (hp:p<nT) (hq:q=lvl) (hN:12*(nT-p)+(10-lvl)<=N+1) :
  Calls Tryz.prog 91 #[tkV A nT cap p false,Zi Zq q] w (RdX (eE T lvl p) A nT cap w):=by
 obtain ⟨r,hr⟩:∃ r,eE T lvl p=r:=⟨_,rfl⟩
 have HR0:=aW (show r=(match eo T lvl p with
   | some k=>(match eE T lvl (p+1) with | .ok x q=>.ok (eOp k [x]) q | .bad q=>.bad q)
   | none=>eE T (lvl+1) p) by rw [← hr];exact uu hT h37 (by rw [hV.len];exact hp))
 rw [hr];obtain ⟨ks,hks⟩:∃ ks,kds lvl 11=ks:=⟨_,rfl⟩
 have hkl:ks.length<=11:=by rw [← hks];exact oU lvl 11
 have HOP:=aW (show eo T lvl p=kj T p ks by rw [← hks];exact qf T p (by omega));have HKI:=aW (λ k (h:k ∈ ks)=>show 5<=k/\k<=15 by rw [← hks] at h;have:=uK h;omega);have HKD:=aW (λ (W:World)=>show Calls Tryz.prog 146 #[Zi Zq q] W (vZ ks W) by rw [hq,← hks];exact vo lvl W (by omega));have HC1:=aW (λ (W:World) (h:Below w.heap.size w W) (h1:p+1<nT)=>hE lvl (p+1) false q W (hV.keep h) (by omega) (by omega) h1 hq (by omega));have HC2:=aW (λ (W:World) (h:Below w.heap.size w W)=>hE (lvl+1) p false (q+1) W (hV.keep h) (by omega) (by omega) hp (by omega) (by omega));have q8:(q == 8)=false:=by rw [beq_eq_false_iff_ne];omega
 have q9:(q == 9)=false:=by rw [beq_eq_false_iff_ne];omega
 have hqw:IntKind.i64.wrap (q+1)=q+1:=by rw [IntKind.wrap_i64];omega
 have HQ3:=aW (show q=3∨q=7 by omega);have hn9:=hV.few;have HV:=aW hV;have HL:=aW hV.len;have HP:=aW hp;have HH0:=aW ((((az.nil w).push 82 #[Zs A nT cap,Zi Zq p,.bool false] (g:=w.heap.size) rfl).push 45 #[Zi Zq 0,Zi Zq 0,Zi Zq 0,Zt ⟨#[]⟩,Zs none 0 0,Zs none 0 0,Zt ⟨#[]⟩,Zs none 0 0] (g:=w.heap.size+1) (by simp)).push 82 #[Zs none 0 0,Zi Zq 0,.bool false] (g:=w.heap.size+1+1) (by simp));obtain ⟨W0,hW0⟩:∃ W0,((w.alloc (.cells #[Zs A nT cap,Zi Zq p,.bool false] 82)).alloc (.cells #[Zi Zq 0,Zi Zq 0,Zi Zq 0,Zt ⟨#[]⟩,Zs none 0 0,Zs none 0 0,Zt ⟨#[]⟩,Zs none 0 0] 45)).alloc (.cells #[Zs none 0 0,Zi Zq 0,.bool false] 82)=W0:=⟨_,rfl⟩
 have HFX0:=aW (show bT w W0 (w.heap.size+1) (w.heap.size+1+1) #[Zi Zq 0,Zi Zq 0,Zi Zq 0,Zt ⟨#[]⟩,Zs none 0 0,Zs none 0 0,Zt ⟨#[]⟩,Zs none 0 0] #[Zs none 0 0,Zi Zq 0,.bool false] by rw [← hW0];exact ⟨HH0.out.b1,HH0.out.b0,HH0.out.1,by omega,by omega,by omega⟩);have HB0:=aW (show Blk W0 w.heap.size 82 #[Zs A nT cap,Zi Zq p,.bool false] by rw [← hW0];exact HH0.out.b2);have HS0:=aW (show W0.heap.size=w.heap.size+3 by rw [← hW0];simp);have HW0:=aW hW0;clear hW0 HH0;clear hV hr hE hN h37 hq hks;unfold tkV at HC1 HC2 ⊢;simp only [Bool.false_eq_true,if_false] at HC1 HC2;go_enter Tryz.func91,Tryz.ntmps91;go_upto_region 1 with fail;rw [HW0.out];obtain ⟨c0,f0,l0⟩:=HB0.out.rules;clear HW0;go_wp2_with fail;refine (HKD.out _).mono ?_;rintro e w1 ⟨KA,kc,rfl,hkc,hkr,hb1⟩;have HB1:=aW (show Below w.heap.size w w1 from HFX0.out.bel.trans (hb1.mono HFX0.out.bel.size));have HFX1:=aW (HFX0.out.keep hb1);have HBX1:=aW (HB0.out.keep hb1);have HKR:=aW hkr;have HS1:=aW (show w.heap.size+3<=w1.heap.size by have:=hb1.size;have:=HS0.out;omega);clear c0 f0 l0 hkc hkr hb1 HFX0 HB0 HKD;obtain ⟨c0,f0,l0⟩:=HBX1.out.rules;obtain ⟨tq,htq⟩:∃ b,(q == 3)=b:=⟨_,rfl⟩
 have HT7:=aW (show tq=false->(q == 7)=true by
  intro h;rw [h] at htq;rw [beq_eq_false_iff_ne] at htq;have:=HQ3.out;simp only [beq_iff_eq];omega)
 have HBY:=aW HB1.out;clear HB1;cases tq
 focus
  have q7:=HT7.out rfl;go_wp2
 rotate_left
 focus
  go_wp2
 all_goals
  go_loopg [11] ks.length (λ gk s11 wr => ∃ i:Nat,i<=ks.length/\gk=ks.length-i/\s11=Zi Zq (i:Int)/\Hid (∀ (j k:Nat),j<i->ks[j]? = some k->al T p (bF (opK (k:Int)))=false)/\Hid (Below w1.heap.size w1 wr))
  case atStart=>exact ⟨0,Nat.zero_le _,rfl,rfl,aW (λ j k h=>by omega),aW (Below.refl _ _)⟩
  case round =>
   obtain ⟨i,hi,hgk,rfl,HNO,HBW⟩:=hrel;have HGK:=aW hgk;have HBX:=aW (HBX1.out.keep HBW.out);have HFX:=aW (HFX1.out.keep HBW.out);have HRD:=aW (HKR.out.keep (af.of_below HBW.out));have HVR:=aW (HV.out.keep HFX.out.bel);clear hgk c0 f0 l0;obtain ⟨c0,f0,l0⟩:=HBX.out.rules;by_cases hlt:i<ks.length
   ·obtain ⟨k,hk⟩:∃ k:Nat,ks[i]? = some k:=⟨ks[i],List.getElem?_eq_getElem hlt⟩
    obtain ⟨kb,ko,hka,hkb,hkF,hkc⟩:=kg HRD.out hk;have hk5:(5:Int)<=(k:Int)/\(k:Int)<=15:=by have:=HKI.out k (List.mem_of_getElem? hk);omega
    obtain ⟨wd,hwd⟩:∃ z,bF (opK (k:Int))=z:=⟨_,rfl⟩
    obtain ⟨cc,hcc⟩:∃ z,al T p wd=z:=⟨_,rfl⟩
    have HWD:=aW (λ W=>xJ (k:Int) W hk5);have HSE:=aW (λ (W:World) (h:bW W A nT T)=>bh wd cap cc h HP.out hcc);rw [hwd] at HWD;unfold tkV at HSE;have HKB:=aW (show kb<wr.heap.size/\w.heap.size+3<=kb from ⟨hkb,by have h9:W0.heap.size<=kb:=hkF;have:=HS0.out;omega⟩);have HK:=aW (λ (W:World) (h:Below wr.heap.size wr W)=>show (λ W'=>Blk W' w.heap.size 82 #[Zs A nT cap,Zi Zq p,.bool false]/\au W' ⟨kb,ko+i,none⟩ (Zi Zq (k:Int))) W from ⟨HBX.out.keep h,hkc.keep h hkb⟩);have HHK:=aW (And.intro hk (And.intro hwd hcc));have hilt:(i:Int)<(ks.length:Int):=by omega
    have HKA:=aW hka;clear hkb hkF hkc hk5 hwd hcc hk HBX HRD hka;go_upto_region 18 with fail;refine wp_region_held_drew (S:=λ W'=>Blk W' w.heap.size 82 #[Zs A nT cap,Zi Zq p,.bool false]/\au W' ⟨kb,ko+i,none⟩ (Zi Zq (k:Int))) (by kernel_rfl) (by exact HK.out _ (Below.refl _ _).drew) (λ hHeld=>?_);refine ai (λ Y0 hw=>?_);have HZ:=aW (show Below wr.heap.size wr Y0 by rw [hw];exact (Below.refl _ _).drew);clear hw hHeld c0 f0 l0;have hHeld:=HK.out _ HZ.out;refine aY 0 68 (.agg #[Zs A nT cap,Zi Zq p,.bool false]) rfl ?_ ?_
    ·intro W hSw;have hka:=HKA.out;obtain ⟨⟨c,f,l⟩,z2⟩:=And.intro hSw.1.rules hSw.2;unfold au at z2;go_simp
    refine aY 1 69 (Zs KA ks.length kc) rfl ?_ ?_
    ·intro W hSw;have hka:=HKA.out;obtain ⟨⟨c,f,l⟩,z2⟩:=And.intro hSw.1.rules hSw.2;unfold au at z2;go_simp
    refine aY 2 70 (Zi Zq (i:Int)) rfl ?_ ?_
    ·intro W hSw;have hka:=HKA.out;obtain ⟨⟨c,f,l⟩,z2⟩:=And.intro hSw.1.rules hSw.2;unfold au at z2;go_simp
    refine aY 3 71 (Zp (some ⟨kb,ko+i,none⟩)) rfl ?_ ?_
    ·intro W hSw;have hka:=HKA.out;obtain ⟨⟨c,f,l⟩,z2⟩:=And.intro hSw.1.rules hSw.2;unfold au at z2;go_simp
    refine aY 4 72 (Zi Zq (k:Int)) rfl ?_ ?_
    ·intro W hSw;have hka:=HKA.out;obtain ⟨⟨c,f,l⟩,z2⟩:=And.intro hSw.1.rules hSw.2;unfold au at z2;go_simp
    refine aV 5 73 rfl (λ K hK=>?_);go_simp;refine (HWD.out _).mono ?_;rintro e Z ⟨rfl,rfl⟩;refine hK.out _ _ (by exact hHeld) (λ hHeld=>?_);clear hK K
    try simp only [pU]
    refine aV 6 74 rfl (λ K hK=>?_);go_simp;refine (HSE.out _ (HVR.out.keep HZ.out)).mono ?_;rintro e Y1 ⟨rfl,hb⟩;have hz:=aW (HZ.out.trans (hb.mono HZ.out.size));clear HZ hb;have HZ:=hz;clear hz;refine hK.out _ _ (by exact HK.out _ HZ.out) (λ hHeld=>?_);clear hK K
    try simp only [pU]
    refine aX ?_;clear hHeld;cases cc
    ·go_wp2;go_roundg (ks.length-(i+1))
     case measure=>rw [HGK.out];omega
     case rel =>
      obtain ⟨hk,hwd,hcc⟩:=HHK.out;refine ⟨i+1,by omega,rfl,by go_num,aW (λ j k' hj hk'=>?_),aW (HBW.out.trans (HZ.out.mono HBW.out.size))⟩;rcases Nat.lt_or_ge j i with h | h
      ·exact HNO.out j k' h hk'
      ·obtain rfl:j=i:=by omega
       rw [hk] at hk';injection hk' with hk'
       rw [← hk',hwd];exact hcc
    ·have HHR:=aW (show p+1<nT/\r=(match eE T lvl (p+1) with | .ok x q=>.ok (eOp (k:Int) [x]) q | .bad q=>.bad q) by
      obtain ⟨hk,hwd,hcc⟩:=HHK.out;have hs:=hcc;rw [← hwd] at hs;have h9:=hT.next (p:=p) (by rw [HL.out];exact HP.out) (ar hs);rw [HL.out] at h9;refine ⟨h9,?_⟩;rw [HR0.out,HOP.out,qg HNO.out hk hs])
     have hp9:=HP.out;have hKZ:=HK.out _ HZ.out;have HFZ:=aW (HFX.out.keep HZ.out);have HBZ:=aW hKZ.1;have HCZ:=aW hKZ.2;have HKZ:=aW (show kb<Y1.heap.size/\w.heap.size+3<=kb/\w.heap.size+3<=Y1.heap.size from ⟨Nat.lt_of_lt_of_le HKB.out.1 HZ.out.size,HKB.out.2,by have:=HZ.out.size;have:=HKB.out;omega⟩);clear hKZ HK HHK HNO HSE HWD HFX HBX1 HFX1 HKR;obtain ⟨c0,f0,l0⟩:=HBZ.out.rules;go_upto_region 20 with fail;rw [show ((p:Int)+1)=((p+1:Nat):Int) from rfl];obtain ⟨W3,hW3⟩:∃ W',Y1.setCell ⟨w.heap.size,1,none⟩ (Zi Zq (p+1:Nat))=W':=⟨_,rfl⟩
     rw [hW3];have HF3:=aW (show bT w W3 _ _ #[Zi Zq 0,Zi Zq 0,Zi Zq 0,Zt ⟨#[]⟩,Zs none 0 0,Zs none 0 0,Zt ⟨#[]⟩,Zs none 0 0] #[Zs none 0 0,Zi Zq 0,.bool false] by rw [← hW3];exact HFZ.out.setG (.inl rfl) _ _);have HB3:=aW (show Blk W3 w.heap.size 82 #[Zs A nT cap,Zi Zq (p+1:Nat),.bool false] by rw [← hW3];exact HBZ.out.set_ 1 _);have HC3:=aW (show au W3 ⟨kb,ko+i,none⟩ (Zi Zq (k:Int)) by rw [← hW3];exact HCZ.out.far (p:=⟨w.heap.size,1,none⟩) (by have:=HKZ.out;dsimp only;omega) _);have HS3:=aW (show W3.heap.size=Y1.heap.size by rw [← hW3];simp [World.setCell]);clear hW3 c0 f0 l0 HFZ HBZ HCZ;obtain ⟨c0,f0,l0⟩:=HB3.out.rules;go_wp2_with fail;refine (HC1.out _ HF3.out.bel HHR.out.1).mono ?_;rintro e w5 ⟨cs,y,q2,b2,rfl,he5,hb5,hq5,hr5⟩;unfold tkV;obtain ⟨k9,k19,n19,s19,A19,na19,ca19,B19,nb19,cb19,s9,A29,n29,ca29,rfl⟩:=he5.form;have HR5:=aW (show q2<nT/\r=(if b2=true then .bad q2 else .ok (eOp (k:Int) [y]) q2) from ⟨hq5,by rw [HHR.out.2,hr5];cases b2<;>rfl⟩);have HF5:=aW (HF3.out.keep hb5);have HC5:=aW (HC3.out.keep hb5 (by have:=HKZ.out;have:=HS3.out;dsimp only;omega));have HS5:=aW hb5.size;have HE5:=aW (he5.mono (F':=λ b=>w.heap.size+3<=b) λ b _ hb=>by have h9:W3.heap.size<=b:=hb;have:=HKZ.out;have:=HS3.out;omega);clear he5 hb5 hq5 hr5 c0 f0 l0;go_upto_region 21 with fail;obtain ⟨W6,hW6⟩:∃ W',(w5.alloc (.cells #[Zi Zq k9,Zi Zq k19,Zi Zq n19,Zt s19,Zs A19 na19 ca19,Zs B19 nb19 cb19,Zt s9,Zs A29 n29 ca29] 45)).alloc (.cells #[Zs A nT cap,Zi Zq q2,.bool b2] 82)=W':=⟨_,rfl⟩
     rw [hW6];have hb6:Below w5.heap.size w5 W6:=by rw [← hW6];exact ((Below.refl w5.heap.size w5).alloc (Nat.le_refl _) _).alloc (by simp) _
     have HX6:=aW (show Blk W6 w5.heap.size 45 #[Zi Zq k9,Zi Zq k19,Zi Zq n19,Zt s19,Zs A19 na19 ca19,Zs B19 nb19 cb19,Zt s9,Zs A29 n29 ca29] by rw [← hW6];exact (Blk.new w5 _ _).alloc _);have HT6:=aW (show Blk W6 (w5.heap.size+1) 82 #[Zs A nT cap,Zi Zq q2,.bool b2] by rw [← hW6];exact Blk.newAt _ _ _ (by simp));have HE6:=aW (HE5.out.bel hb6);have HFX:=aW (HF5.out.keep hb6);have hkw5:kb<w5.heap.size:=by have:=HKZ.out;have:=HS3.out;have:=HS5.out;omega
     have HC6:=aW (HC5.out.keep hb6 hkw5);obtain ⟨gx,hgx⟩:∃ z,w5.heap.size=z:=⟨_,rfl⟩
     rw [hgx] at HX6 HT6 hkw5 ⊢;have HG:=aW (show w.heap.size+3<=gx/\kb<gx/\w.heap.size+3<=kb/\gx+1<W6.heap.size by have:=HKZ.out;have:=HS3.out;have:=HS5.out;have:=HT6.out.lt;omega);clear hW6 hb6 hgx HF5 HC5 HE5 HF3 HB3 HC3 HS3 HKZ;have HK:=aW (λ (W:World) (h:Below W6.heap.size W6 W)=>show (λ W'=>Blk W' gx 45 #[Zi Zq k9,Zi Zq k19,Zi Zq n19,Zt s19,Zs A19 na19 ca19,Zs B19 nb19 cb19,Zt s9,Zs A29 n29 ca29]/\Blk W' (gx+1) 82 #[Zs A nT cap,Zi Zq q2,.bool b2]/\au W' ⟨kb,ko+i,none⟩ (Zi Zq (k:Int))) W from ⟨HX6.out.keep h,HT6.out.keep h,HC6.out.keep h (by have:=HG.out;dsimp only;omega)⟩);refine wp_region_held_drew (S:=λ W'=>Blk W' gx 45 #[Zi Zq k9,Zi Zq k19,Zi Zq n19,Zt s19,Zs A19 na19 ca19,Zs B19 nb19 cb19,Zt s9,Zs A29 n29 ca29]/\Blk W' (gx+1) 82 #[Zs A nT cap,Zi Zq q2,.bool b2]/\au W' ⟨kb,ko+i,none⟩ (Zi Zq (k:Int))) (by kernel_rfl) (by exact HK.out _ (Below.refl _ _).drew) (λ hHeld=>?_);refine ai (λ Y2 hw=>?_);have HZ2:=aW (show Below W6.heap.size W6 Y2 by rw [hw];exact (Below.refl _ _).drew);clear hw hHeld;have hHeld:=HK.out _ HZ2.out;refine aY 0 85 (Zs KA ks.length kc) rfl ?_ ?_
     ·intro W hSw;have hka:=HKA.out;obtain ⟨⟨c,f,l⟩,⟨c',f',l'⟩,z2⟩:=And.intro hSw.1.rules (And.intro hSw.2.1.rules hSw.2.2);unfold au at z2;go_simp
     refine aY 1 86 (Zi Zq (i:Int)) rfl ?_ ?_
     ·intro W hSw;have hka:=HKA.out;obtain ⟨⟨c,f,l⟩,⟨c',f',l'⟩,z2⟩:=And.intro hSw.1.rules (And.intro hSw.2.1.rules hSw.2.2);unfold au at z2;go_simp
     refine aY 2 87 (Zp (some ⟨kb,ko+i,none⟩)) rfl ?_ ?_
     ·intro W hSw;have hka:=HKA.out;obtain ⟨⟨c,f,l⟩,⟨c',f',l'⟩,z2⟩:=And.intro hSw.1.rules (And.intro hSw.2.1.rules hSw.2.2);unfold au at z2;go_simp
     refine aY 3 88 (Zi Zq (k:Int)) rfl ?_ ?_
     ·intro W hSw;have hka:=HKA.out;obtain ⟨⟨c,f,l⟩,⟨c',f',l'⟩,z2⟩:=And.intro hSw.1.rules (And.intro hSw.2.1.rules hSw.2.2);unfold au at z2;go_simp
     refine aY 4 89 (.agg #[Zi Zq k9,Zi Zq k19,Zi Zq n19,Zt s19,Zs A19 na19 ca19,Zs B19 nb19 cb19,Zt s9,Zs A29 n29 ca29]) rfl ?_ ?_
     ·intro W hSw;have hka:=HKA.out;obtain ⟨⟨c,f,l⟩,⟨c',f',l'⟩,z2⟩:=And.intro hSw.1.rules (And.intro hSw.2.1.rules hSw.2.2);unfold au at z2;go_simp
     refine aY 7 92 (.agg #[Zs A nT cap,Zi Zq q2,.bool b2]) rfl ?_ ?_
     ·intro W hSw;have hka:=HKA.out;obtain ⟨⟨c,f,l⟩,⟨c',f',l'⟩,z2⟩:=And.intro hSw.1.rules (And.intro hSw.2.1.rules hSw.2.2);unfold au at z2;go_simp
     refine aV 5 90 rfl (λ K hK=>?_);go_simp;have hz9:Below Y2.heap.size Y2 (Y2.alloc (.cells #[Zi Zq k9,Zi Zq k19,Zi Zq n19,Zt s19,Zs A19 na19 ca19,Zs B19 nb19 cb19,Zt s9,Zs A29 n29 ca29] 45)):=(Below.refl _ _).alloc (Nat.le_refl _) _;have HN9:=aW (Blk.new Y2 45 #[Zi Zq k9,Zi Zq k19,Zi Zq n19,Zt s19,Zs A19 na19 ca19,Zs B19 nb19 cb19,Zt s9,Zs A29 n29 ca29]);have HZ3:=aW (HZ2.out.trans (hz9.mono HZ2.out.size));clear hz9;refine hK.out _ _ (by exact HK.out _ HZ3.out) (λ hHeld=>?_);clear hK K
     try simp only [pU]
     refine ai (λ Y3 hw=>?_);rw [← hw] at HN9 HZ3;obtain ⟨b5,hb5⟩:∃ b,Y2.heap.size=b:=⟨_,rfl⟩
     rw [hb5] at HN9 ⊢;have HB5:=aW (show w.heap.size+3<=b5 by have:=HZ2.out.size;have:=HG.out;omega);have hHeld:=HK.out _ HZ3.out;replace HFX:=aW (HFX.out.keep HZ3.out);clear hw hb5 HZ2;refine aY 6 91 (.agg #[Zi Zq (k:Int),Zi Zq 0,Zi Zq 0,Zt ⟨#[]⟩,Zs none 0 0,Zs none 0 0,Zt ⟨#[]⟩,Zs (some ⟨b5,0,none⟩) 1 1]) rfl ?_ ?_
     ·intro W hSw;have hka:=HKA.out;obtain ⟨⟨c,f,l⟩,⟨c',f',l'⟩,z2⟩:=And.intro hSw.1.rules (And.intro hSw.2.1.rules hSw.2.2);unfold au at z2;go_simp
     refine aU 8 rfl (λ K hK=>?_);obtain ⟨c9,f9,l9⟩:=HFX.out.b1.rules;go_simp;refine hK.out _ _ (by exact ⟨Blk.far8 (hHeld.1) (by have:=HG.out;omega) _ _ _ _ _ _ _ _,Blk.far8 (hHeld.2.1) (by have:=HG.out;omega) _ _ _ _ _ _ _ _,au.far8 (hHeld.2.2) (by have:=HG.out;dsimp only;omega) _ _ _ _ _ _ _ _⟩) (λ hHeld=>?_);clear hK K
     try simp only [pU]
     refine ai (λ Y1 hY1=>?_);rw [← hY1] at hHeld;replace HFX:=aW (show bT w Y1 _ _ #[Zi Zq (k:Int),Zi Zq 0,Zi Zq 0,Zt ⟨#[]⟩,Zs none 0 0,Zs none 0 0,Zt ⟨#[]⟩,Zs (some ⟨b5,0,none⟩) 1 1] _ by rw [hY1];exact HFX.out.st1 _ _ _ _ _ _ _ _);have HKF:=aW (show af (λ b=>w.heap.size+3<=b) Y3 Y1 by rw [hY1];exact ed (λ k hk=>by omega) af.refl _ _ _ _ _ _ _ _);clear hY1 c9 f9 l9;refine aU 9 rfl (λ K hK=>?_);obtain ⟨c9,f9,l9⟩:=HFX.out.b2.rules;go_simp;refine hK.out _ _ (by exact ⟨Blk.far3 (hHeld.1) (by have:=HG.out;omega) _ _ _,Blk.far3 (hHeld.2.1) (by have:=HG.out;omega) _ _ _,au.far3 (hHeld.2.2) (by have:=HG.out;dsimp only;omega) _ _ _⟩) (λ hHeld=>?_);clear hK K
     try simp only [pU]
     refine ai (λ Y2 hY2=>?_);replace HFX:=aW (show bT w Y2 _ _ _ #[Zs A nT cap,Zi Zq q2,.bool b2] by rw [hY2];exact HFX.out.st2 _ _ _);replace HKF:=aW (show af (λ b=>w.heap.size+3<=b) Y3 Y2 by rw [hY2];exact af.setC (λ k hk=>by omega) [_,_,_] 0 HKF.out);clear hY2 c9 f9 l9 hHeld;refine aX ?_;obtain ⟨c8,f8,l8⟩:=HFX.out.b1.rules;obtain ⟨c9,f9,l9⟩:=HFX.out.b2.rules;go_wp2;refine bodyPost_ret (v:=.tuple #[.agg #[Zi Zq (k:Int),Zi Zq 0,Zi Zq 0,Zt ⟨#[]⟩,Zs none 0 0,Zs none 0 0,Zt ⟨#[]⟩,Zs (some ⟨b5,0,none⟩) 1 1],.agg #[Zs A nT cap,Zi Zq q2,.bool b2]]) (by simp only [results,Tryz.results91];go_simp) rfl ?_;obtain ⟨hq5,hr5⟩:=HR5.out;exact ⟨_,_,q2,b2,rfl,((XF.pre (F:=λ b=>w.heap.size+3<=b) (HE6.out.bel HZ3.out) HN9.out HB5.out).keep HKF.out).mono λ b _ hb=>by unfold NW;omega,HFX.out.bel,hq5,hr5⟩
   ·obtain rfl:i=ks.length:=by omega
    have HR:=aW (show r=eE T (lvl+1) p by rw [HR0.out,HOP.out,nO HNO.out]);clear HNO;go_wp2_with fail;refine (HC2.out _ HFX.out.bel).mono ?_;rintro e w5 ⟨cs,y,q2,b2,rfl,he5,hb5,hq5,hr5⟩;unfold tkV;obtain ⟨k9,k19,n19,s19,A19,na19,ca19,B19,nb19,cb19,s9,A29,n29,ca29,rfl⟩:=he5.form;replace HFX:=aW (HFX.out.keep hb5);have HE5:=aW (And.intro (he5.mono (F':=λ b=>w.heap.size+3<=b) λ b _ hb=>by have h9:wr.heap.size<=b:=hb;have:=HBW.out.size;have:=HS1.out;omega) (And.intro hq5 hr5));clear he5 hb5 hq5 hr5 c0 f0 l0;obtain ⟨c8,f8,l8⟩:=HFX.out.b1.rules;obtain ⟨c9,f9,l9⟩:=HFX.out.b2.rules;go_wp2;refine bodyPost_ret (v:=.tuple #[.agg #[Zi Zq k9,Zi Zq k19,Zi Zq n19,Zt s19,Zs A19 na19 ca19,Zs B19 nb19 cb19,Zt s9,Zs A29 n29 ca29],.agg #[Zs A nT cap,Zi Zq q2,.bool b2]]) (by simp only [results,Tryz.results91];go_simp) rfl ?_;obtain ⟨he5,hq5,hr5⟩:=HE5.out;refine ⟨_,y,q2,b2,rfl,?_,((HFX.out.st1 _ _ _ _ _ _ _ _).st2 _ _ _).bel,hq5,by rw [HR.out];exact hr5⟩;exact (he5.keep (af.setC (λ k hk=>by omega) [_,_,_] 0 (ed (λ k hk=>by omega) af.refl _ _ _ _ _ _ _ _))).mono λ b _ hb=>by unfold NW;omega
end
end Go.Proofs.YtgmnmnnoahdjnaaGreatDoor
