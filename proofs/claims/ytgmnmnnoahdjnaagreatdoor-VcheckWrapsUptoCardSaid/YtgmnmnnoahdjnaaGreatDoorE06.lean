import Derived.Test.YtgmnmnnoahdjnaaGreatDoorE04
import Derived.Test.YtgmnmnnoahdjnaaGreatDoorE05
open Go.Value renaming int → Zi, slice → Zs, string → Zt, pointer → Zp
open Go.IntKind renaming i64 → Zq
set_option maxRecDepth 100000
set_option maxHeartbeats 16000000
set_option linter.unusedVariables false
set_option linter.unusedSimpArgs false
namespace Go.Proofs.YtgmnmnnoahdjnaaGreatDoor
section
open Go.RowKit
attribute [local go_sem] aa ac ae ab
def WrQ (w1:World) (rb:Nat) (l:List SJ) (Z:World):Prop:=(∃ css,SRs Z (λ k=>k<w1.heap.size∨k=rb) css l/\RdF Z (λ k=>k<w1.heap.size∨k=rb) (some ⟨rb,0,none⟩) css.flatten/\l.length=1)/\∃ cs,Blk Z rb 48 cs
theorem WrQ.bel {w1 Z Z':World} {rb:Nat} {l:List SJ} (h:WrQ w1 rb l Z) (hb:Below Z.heap.size Z Z'):WrQ w1 rb l Z':=by
 obtain ⟨⟨css,h1,h2,h3⟩,cs,h4⟩:=h;exact ⟨⟨css,RR.imp h1 λ c x hc=>hc.bel hb,h2.keep (ah.of_below hb),h3⟩,cs,h4.keep hb⟩
theorem WrQ.make {w1 Z:World} {s:List UInt8} {acs:List Value} {a:EJ} {A:Option Addr} {n ca:Nat} {l:List SJ} (ha:∀ F,ER Z F acs a) (hp:dX w1 A n ca l) (hA:A=none->ca=0) (hZ:Below w1.heap.size w1 Z) :
  WrQ w1 Z.heap.size [.mk 3 s a aM l []] (Z.alloc (.cells ([Value.int .i64 3,Zt ⟨s.toArray⟩]++acs++[Value.int .i64 0,Value.int .i64 0,Value.int .i64 0,Value.string ⟨#[]⟩,Value.slice none 0 0,Value.slice none 0 0,Value.string ⟨#[]⟩,Value.slice none 0 0]++[Value.slice A n ca,Value.slice none 0 0]).toArray 48)):=by
 obtain ⟨css,h1,h2,h3,h4⟩:=hp;have g1:SRs Z (λ k=>k<w1.heap.size∨k=Z.heap.size) css l:=RR.imp h1 λ c x hc=>(hc.mono (F':=λ k=>k<w1.heap.size∨k=Z.heap.size) λ b hb _=>.inl hb).bel hZ
 have g2:RdF Z (λ k=>k<w1.heap.size∨k=Z.heap.size) A css.flatten:=(h2.mono (F':=λ k=>k<w1.heap.size∨k=Z.heap.size) λ b hb _=>.inl hb).keep (ah.of_below hZ);have hs:SR Z (λ k=>k<w1.heap.size∨k=Z.heap.size) _ (.mk 3 s a aM l []):=SR.into (B:=none) (ha _) ER.zero g1 h3.symm (by rw [h3];exact h4) hA g2 RR.nil rfl (Nat.le_refl _) (λ _=>rfl) RdF.nil;have hb:Below Z.heap.size Z (Z.alloc (.cells ([Value.int .i64 3,Zt ⟨s.toArray⟩]++acs++[Value.int .i64 0,Value.int .i64 0,Value.int .i64 0,Value.string ⟨#[]⟩,Value.slice none 0 0,Value.slice none 0 0,Value.string ⟨#[]⟩,Value.slice none 0 0]++[Value.slice A n ca,Value.slice none 0 0]).toArray 48)):=(Below.refl _ _).alloc (Nat.le_refl _) _;refine ⟨⟨[_],RR.nil.snoc (hs.bel hb),?_,rfl⟩,_,Blk.new _ _ _⟩;rw [List.flatten_singleton];exact RdF.blkN (Blk.new Z 48 _) (.inr rfl)
mutual
theorem B7:∀ x:SJ,deS x<=eI x
 | .mk k s a b body els=>by
  have h1:=BH body;have h2:=BH els;rw [deS,eI];split<;>omega
theorem BH:∀ l:List SJ,kl l<=aA l
 | []=>Nat.le_refl _
 |x::r=>by
  have h1:=B7 x;have h2:=BH r;rw [kl,aA];omega
end
theorem BZ {p:List SJ} (h:aK p) (hn:p.length<=4194304):aK (BF [113,113,113] p):=by
 have hz:cd aM:=dS;have hd:cd (nmE [100,111,99]):=by unfold nmE cd ic;exact ⟨by decide,im,by simp,by simp,trivial⟩
 unfold BF aK fy;exact ⟨⟨by unfold iw;omega,by simp,hd,hz,hn,by simp,h,by unfold aK;trivial⟩,by unfold aK;trivial⟩
theorem B5 (p:List SJ):aA (BF [113,113,113] p)<=aA p+100:=by
 simp [BF,aA,eI,nmE,aM,bZ,bM,cn,b8,dr,dh]
 try omega
set_option maxHeartbeats 32000000 in
theorem BJ (A0:Option Addr) (ca0:Nat) (p:List SJ) (w:World) (hG:GOE w) (hS0:zn w A0 ca0 p) (hL0:∀ v ∈ p,jz 4194304 v) (hn0:p.length<=4194304) (hm0:aA p<=1048576) :
  Calls Tryz.prog 12 #[.agg #[Zs A0 p.length ca0]] w (λ e w'=>e=.returned (.bool true)/\Below w.heap.size w w'):=by
 obtain ⟨hP,hA0⟩:=zH hS0;have HCM:=aW (tT hL0);have HSM:=aW hm0;obtain ⟨n0,hln0⟩:∃ n,p.length=n:=⟨_,rfl⟩
 rw [hln0] at hP hn0 ⊢;have HP:=aW hP;have HA0:=aW hA0;have HG:=aW (λ (W:World) (h:Below w.heap.size w W)=>hG.keep h);have HWK:=aW (λ (W:World) (hb:Below w.heap.size w W)=>yk W (hG.keep hb));have HH0:=aW ((aT.nil w).push 24 #[Zs A0 n0 ca0] (g:=w.heap.size) rfl);have HLN:=aW hln0;clear hG hS0 hL0 hm0 hln0 hP hA0;go_enter Tryz.func12,Tryz.ntmps12;go_wp2_with fail;refine (HWK.out _ HH0.out.1).mono ?_;rintro e w1 ⟨rfl,hb1⟩;have HH1:=aW (HH0.out.keep hb1);clear hb1 HH0;go_upto_region 3 with fail;have HK:=aW (show ∀ W',Below w1.heap.size w1 W'->Blk W' w.heap.size 24 #[Zs A0 n0 ca0] from λ W' h=>HH1.out.b0.keep h);have HPW:=aW (show ∀ W',Below w1.heap.size w1 W'->dX W' A0 n0 ca0 p from λ W' h=>HP.out.bel (HH1.out.1.trans (h.mono HH1.out.1.size)));have HONE:=aW (show ∀ Z:World,Below w1.heap.size w1 Z->WrQ w1 Z.heap.size (BF [113,113,113] p) (Z.alloc (.cells #[Zi Zq 3,Zt ⟨#[113,113,113]⟩,Zi Zq 2,Zi Zq 0,Zi Zq 0,Zt ⟨#[]⟩,Zs none 0 0,Zs none 0 0,Zt ⟨#[100,111,99]⟩,Zs none 0 0,Zi Zq 0,Zi Zq 0,Zi Zq 0,Zt ⟨#[]⟩,Zs none 0 0,Zs none 0 0,Zt ⟨#[]⟩,Zs none 0 0,Zs A0 n0 ca0,Zs none 0 0] 48)) from λ Z h=>WrQ.make (s:=[113,113,113]) (λ F=>ER.leaf 2 [100,111,99] VR.zero) (HPW.out _ (Below.refl _ _)) HA0.out h);have HFIN:=aW (λ (Z:World) (b8 rb:Nat) (hZ:Below w1.heap.size w1 Z) (hX:Blk Z b8 24 #[Zs none 0 0]) (hb:w1.heap.size<=b8) (hL:WrQ w1 rb (BF [113,113,113] p) Z) =>
  show (λ W'=>Blk W' w.heap.size 24 #[Zs A0 n0 ca0]) (Z.setCell ⟨b8,0,none⟩ (Zs (some ⟨rb,0,none⟩) 1 1))/\Below w1.heap.size w1 (Z.setCell ⟨b8,0,none⟩ (Zs (some ⟨rb,0,none⟩) 1 1))/\Blk (Z.setCell ⟨b8,0,none⟩ (Zs (some ⟨rb,0,none⟩) 1 1)) b8 24 #[Zs (some ⟨rb,0,none⟩) 1 1]/\dX (Z.setCell ⟨b8,0,none⟩ (Zs (some ⟨rb,0,none⟩) 1 1)) (some ⟨rb,0,none⟩) 1 1 (BF [113,113,113] p) from by
  have h1:Below w1.heap.size w1 (Z.setCell ⟨b8,0,none⟩ (Zs (some ⟨rb,0,none⟩) 1 1)):=hZ.setCell (p:=⟨b8,0,none⟩) hb _;have h2:Blk (Z.setCell ⟨b8,0,none⟩ (Zs (some ⟨rb,0,none⟩) 1 1)) b8 24 #[Zs (some ⟨rb,0,none⟩) 1 1]:=by simpa using hX.set_ 0 (Zs (some ⟨rb,0,none⟩) 1 1)
  obtain ⟨⟨css,g1,g2,g3⟩,cs,g4⟩:=hL;have hne:rb≠b8:=Blk.ne_ g4 hX (by decide);have hkf:ah (λ k=>k<w1.heap.size∨k=rb) Z (Z.setCell ⟨b8,0,none⟩ (Zs (some ⟨rb,0,none⟩) 1 1)):=ah.set ah.refl (λ k hk=>by rcases hk with hk | hk;omega;rw [hk];exact hne) 0 _;exact ⟨HK.out _ h1,h1,h2,css,RR.imp g1 λ c x hc=>(hc.keep hkf).mono λ _ _ _=>trivial,(g2.keep hkf).mono λ _ _ _=>trivial,g3,Nat.le_refl _⟩)
 obtain ⟨NQ,hNQ⟩:∃ NQ:Act->World->Prop,∀ a' w',NQ a' w' ↔ (∃ (u17 u18 u19 u20 u21 u22:Value) (b8 rb:Nat),a'={ tmps:=#[.agg #[Zs A0 n0 ca0],Zp (some ⟨w.heap.size,0,none⟩),.bool false,Zp (some ⟨b8,0,none⟩),undef,undef,undef,undef,undef,undef,undef,undef,undef,undef,undef,.bool true,.bool false,u17,u18,u19,u20,u21,u22,undef,undef,undef,undef,undef,undef,undef,undef,undef,undef,undef,undef,undef,undef,undef,undef,undef,undef,undef,undef,undef,undef,undef,undef,undef,undef,undef,undef,undef,undef,undef,undef,undef,undef,undef,undef,undef,undef,undef,undef,undef,undef,undef,undef,undef,undef,undef,undef,undef,undef,undef,undef,undef,undef,undef,undef,undef,undef,undef,undef,undef,undef,undef,undef,undef,undef,undef,undef,undef,undef,undef,undef,undef,undef,undef,undef,undef],defers:=[] }/\Hid (Below w1.heap.size w1 w')/\Hid (Blk w' b8 24 #[Zs (some ⟨rb,0,none⟩) 1 1])/\Hid (dX w' (some ⟨rb,0,none⟩) 1 1 (BF [113,113,113] p))):=⟨_,λ _ _=>Iff.rfl⟩
 have HNQ:=aW hNQ;clear hNQ;refine wp_mono (Q:=λ e a' w'=>match e with | .normal=>NQ a' w' | _=>False) ?c1 ?c2
 case c1 =>
  refine wp_region_held_drew (S:=λ W'=>Blk W' w.heap.size 24 #[Zs A0 n0 ca0]) (by kernel_rfl) (by exact (HK.out _ (Below.refl _ _)).drew) (λ hHeld=>?_);refine gm (λ Z0 hw=>?_);have HZ:=aW (show Below w1.heap.size w1 Z0 by rw [hw];exact (Below.refl _ _).drew);clear hw hHeld;have hHeld:=HK.out _ HZ.out;refine tA 1 18 (Zp (some ⟨w.heap.size,0,none⟩)) rfl ?_;refine aY 2 19 (Zs A0 n0 ca0) rfl ?_ ?_
  ·intro W hSw;obtain ⟨c8,f8,l8⟩:=hSw.rules;go_simp
  refine wpAnyH_ready (rs:=[0,6]) (by kernel_rfl) (by simp) ?_;refine AllReadyH.cons (o:=⟨some 17,_,_,_,_,_⟩) rfl (λ K hK=>?_) (AllReadyH.cons (o:=⟨some 3,_,_,_,_,_⟩) rfl (λ K hK=>?_) AllReadyH.nil)
  ·go_simp;refine (jB _ Z0).mono ?_;rintro e Z1 ⟨rfl,hb⟩;replace HZ:=aW (HZ.out.trans (hb.mono HZ.out.size));clear hb;refine hK.out _ _ (by exact HK.out _ HZ.out) (λ hHeld2=>?_);clear hK K hHeld;have hHeld:=hHeld2;clear hHeld2
   try simp only [pU]
   replace hHeld:=HK.out _ HZ.out;refine wpAnyH_ready (rs:=[3,6]) (by kernel_rfl) (by simp) ?_;refine AllReadyH.cons (o:=⟨some 20,_,_,_,_,_⟩) rfl (λ K hK=>?_) (AllReadyH.cons (o:=⟨some 3,_,_,_,_,_⟩) rfl (λ K hK=>?_) AllReadyH.nil)
   ·go_simp;refine (mz _ _ _ _ _ _ _ _ _ _ _ _ _ _ _ _ _ _ Z1).mono ?_;rintro e Z2 ⟨rfl,hb⟩;replace HZ:=aW (HZ.out.trans (hb.mono HZ.out.size));clear hb;refine hK.out _ _ (by exact HK.out _ HZ.out) (λ hHeld2=>?_);clear hK K hHeld;have hHeld:=hHeld2;clear hHeld2
    try simp only [pU]
    replace hHeld:=HK.out _ HZ.out;refine wpAnyH_ready (rs:=[4,6]) (by kernel_rfl) (by simp) ?_;refine AllReadyH.cons (o:=⟨some 21,_,_,_,_,_⟩) rfl (λ K hK=>?_) (AllReadyH.cons (o:=⟨some 3,_,_,_,_,_⟩) rfl (λ K hK=>?_) AllReadyH.nil)
    ·go_simp;have hbA:=(Below.refl _ Z2).alloc (Nat.le_refl _) (.cells #[Zi Zq 3,Zt ⟨#[113,113,113]⟩,Zi Zq 2,Zi Zq 0,Zi Zq 0,Zt ⟨#[]⟩,Zs none 0 0,Zs none 0 0,Zt ⟨#[100,111,99]⟩,Zs none 0 0,Zi Zq 0,Zi Zq 0,Zi Zq 0,Zt ⟨#[]⟩,Zs none 0 0,Zs none 0 0,Zt ⟨#[]⟩,Zs none 0 0,Zs A0 n0 ca0,Zs none 0 0] 48);have HL:=aW (HONE.out Z2 HZ.out);have HRB:=aW HZ.out.size;replace HZ:=aW (HZ.out.trans (hbA.mono HZ.out.size));clear hbA;refine hK.out _ _ (by exact HK.out _ HZ.out) (λ hHeld2=>?_);clear hK K hHeld;have hHeld:=hHeld2;clear hHeld2
     try simp only [pU]
     refine gm (λ Z3 hY=>?_);obtain ⟨rb,hrb⟩:∃ b,Z2.heap.size=b:=⟨_,rfl⟩
     rw [hrb] at HL HRB ⊢;rw [← hY] at HL HZ;clear hY hrb;replace hHeld:=HK.out _ HZ.out;refine wpAnyH_ready (rs:=[5,6]) (by kernel_rfl) (by simp) ?_;refine AllReadyH.cons (o:=⟨some 22,_,_,_,_,_⟩) rfl (λ K hK=>?_) (AllReadyH.cons (o:=⟨some 3,_,_,_,_,_⟩) rfl (λ K hK=>?_) AllReadyH.nil)
     ·go_simp;refine (r8 _ _ _ Z3).mono ?_;rintro e Z4 ⟨rfl,hb⟩;replace HL:=aW (HL.out.bel hb);replace HZ:=aW (HZ.out.trans (hb.mono HZ.out.size));clear hb;refine hK.out _ _ (by exact HK.out _ HZ.out) (λ hHeld2=>?_);clear hK K hHeld;have hHeld:=hHeld2;clear hHeld2
      try simp only [pU]
      replace hHeld:=HK.out _ HZ.out;refine aV 6 3 rfl (λ K hK=>?_);go_simp;have hbA:=(Below.refl _ Z4).alloc (Nat.le_refl _) (.cells #[Zs none 0 0] 24);have HX:=aW (show Blk (Z4.alloc (.cells #[Zs none 0 0] 24)) Z4.heap.size 24 #[Zs none 0 0]/\w1.heap.size<=Z4.heap.size from ⟨Blk.new _ _ _,HZ.out.size⟩);replace HL:=aW (HL.out.bel hbA);replace HZ:=aW (HZ.out.trans (hbA.mono HZ.out.size));clear hbA;refine hK.out _ _ (by exact HK.out _ HZ.out) (λ hHeld2=>?_);clear hK K hHeld;have hHeld:=hHeld2;clear hHeld2
      try simp only [pU]
      refine gm (λ Z5 hY=>?_);obtain ⟨b8,hb8⟩:∃ b,Z4.heap.size=b:=⟨_,rfl⟩
      rw [hb8] at HX ⊢;rw [← hY] at HX HZ HL;clear hY hb8;replace hHeld:=HK.out _ HZ.out;refine aU 7 rfl (λ K hK=>?_);obtain ⟨c8,f8,l8⟩:=HX.out.1.rules;go_simp;have HF:=aW (HFIN.out Z5 b8 rb HZ.out HX.out.1 HX.out.2 HL.out);clear c8 f8 l8;refine hK.out _ _ (by exact HF.out.1) (λ hHeld2=>?_);clear hK K hHeld;have hHeld:=hHeld2;clear hHeld2
      try simp only [pU]
      refine aX ?_;exact (HNQ.out _ _).2 ⟨_,_,_,_,_,_,b8,rb,rfl,aW HF.out.2.1,aW HF.out.2.2.1,aW HF.out.2.2.2⟩
     ·go_simp;have hbA:=(Below.refl _ Z3).alloc (Nat.le_refl _) (.cells #[Zs none 0 0] 24);have HX:=aW (show Blk (Z3.alloc (.cells #[Zs none 0 0] 24)) Z3.heap.size 24 #[Zs none 0 0]/\w1.heap.size<=Z3.heap.size from ⟨Blk.new _ _ _,HZ.out.size⟩);replace HL:=aW (HL.out.bel hbA);replace HZ:=aW (HZ.out.trans (hbA.mono HZ.out.size));clear hbA;refine hK.out _ _ (by exact HK.out _ HZ.out) (λ hHeld2=>?_);clear hK K hHeld;have hHeld:=hHeld2;clear hHeld2
      try simp only [pU]
      refine gm (λ Z6 hY=>?_);obtain ⟨b8,hb8⟩:∃ b,Z3.heap.size=b:=⟨_,rfl⟩
      rw [hb8] at HX ⊢;rw [← hY] at HX HZ HL;clear hY hb8;replace hHeld:=HK.out _ HZ.out;refine aV 5 22 rfl (λ K hK=>?_);go_simp;refine (r8 _ _ _ Z6).mono ?_;rintro e Z7 ⟨rfl,hb⟩;replace HX:=aW (And.intro (HX.out.1.keep hb) HX.out.2);replace HL:=aW (HL.out.bel hb);replace HZ:=aW (HZ.out.trans (hb.mono HZ.out.size));clear hb;refine hK.out _ _ (by exact HK.out _ HZ.out) (λ hHeld2=>?_);clear hK K hHeld;have hHeld:=hHeld2;clear hHeld2
      try simp only [pU]
      replace hHeld:=HK.out _ HZ.out;refine aU 7 rfl (λ K hK=>?_);obtain ⟨c8,f8,l8⟩:=HX.out.1.rules;go_simp;have HF:=aW (HFIN.out Z7 b8 rb HZ.out HX.out.1 HX.out.2 HL.out);clear c8 f8 l8;refine hK.out _ _ (by exact HF.out.1) (λ hHeld2=>?_);clear hK K hHeld;have hHeld:=hHeld2;clear hHeld2
      try simp only [pU]
      refine aX ?_;exact (HNQ.out _ _).2 ⟨_,_,_,_,_,_,b8,rb,rfl,aW HF.out.2.1,aW HF.out.2.2.1,aW HF.out.2.2.2⟩
    ·go_simp;have hbA:=(Below.refl _ Z2).alloc (Nat.le_refl _) (.cells #[Zs none 0 0] 24);have HX:=aW (show Blk (Z2.alloc (.cells #[Zs none 0 0] 24)) Z2.heap.size 24 #[Zs none 0 0]/\w1.heap.size<=Z2.heap.size from ⟨Blk.new _ _ _,HZ.out.size⟩);replace HZ:=aW (HZ.out.trans (hbA.mono HZ.out.size));clear hbA;refine hK.out _ _ (by exact HK.out _ HZ.out) (λ hHeld2=>?_);clear hK K hHeld;have hHeld:=hHeld2;clear hHeld2
     try simp only [pU]
     refine gm (λ Z8 hY=>?_);obtain ⟨b8,hb8⟩:∃ b,Z2.heap.size=b:=⟨_,rfl⟩
     rw [hb8] at HX ⊢;rw [← hY] at HX HZ;clear hY hb8;replace hHeld:=HK.out _ HZ.out;refine aV 4 21 rfl (λ K hK=>?_);go_simp;have hbA:=(Below.refl _ Z8).alloc (Nat.le_refl _) (.cells #[Zi Zq 3,Zt ⟨#[113,113,113]⟩,Zi Zq 2,Zi Zq 0,Zi Zq 0,Zt ⟨#[]⟩,Zs none 0 0,Zs none 0 0,Zt ⟨#[100,111,99]⟩,Zs none 0 0,Zi Zq 0,Zi Zq 0,Zi Zq 0,Zt ⟨#[]⟩,Zs none 0 0,Zs none 0 0,Zt ⟨#[]⟩,Zs none 0 0,Zs A0 n0 ca0,Zs none 0 0] 48);have HL:=aW (HONE.out Z8 HZ.out);have HRB:=aW HZ.out.size;replace HX:=aW (And.intro (HX.out.1.alloc (.cells #[Zi Zq 3,Zt ⟨#[113,113,113]⟩,Zi Zq 2,Zi Zq 0,Zi Zq 0,Zt ⟨#[]⟩,Zs none 0 0,Zs none 0 0,Zt ⟨#[100,111,99]⟩,Zs none 0 0,Zi Zq 0,Zi Zq 0,Zi Zq 0,Zt ⟨#[]⟩,Zs none 0 0,Zs none 0 0,Zt ⟨#[]⟩,Zs none 0 0,Zs A0 n0 ca0,Zs none 0 0] 48)) HX.out.2);replace HZ:=aW (HZ.out.trans (hbA.mono HZ.out.size));clear hbA;refine hK.out _ _ (by exact HK.out _ HZ.out) (λ hHeld2=>?_);clear hK K hHeld;have hHeld:=hHeld2;clear hHeld2
     try simp only [pU]
     refine gm (λ Z9 hY=>?_);obtain ⟨rb,hrb⟩:∃ b,Z8.heap.size=b:=⟨_,rfl⟩
     rw [hrb] at HL HRB ⊢;rw [← hY] at HL HZ HX;clear hY hrb;replace hHeld:=HK.out _ HZ.out;refine aV 5 22 rfl (λ K hK=>?_);go_simp;refine (r8 _ _ _ Z9).mono ?_;rintro e Z10 ⟨rfl,hb⟩;replace HX:=aW (And.intro (HX.out.1.keep hb) HX.out.2);replace HL:=aW (HL.out.bel hb);replace HZ:=aW (HZ.out.trans (hb.mono HZ.out.size));clear hb;refine hK.out _ _ (by exact HK.out _ HZ.out) (λ hHeld2=>?_);clear hK K hHeld;have hHeld:=hHeld2;clear hHeld2
     try simp only [pU]
     replace hHeld:=HK.out _ HZ.out;refine aU 7 rfl (λ K hK=>?_);obtain ⟨c8,f8,l8⟩:=HX.out.1.rules;go_simp;have HF:=aW (HFIN.out Z10 b8 rb HZ.out HX.out.1 HX.out.2 HL.out);clear c8 f8 l8;refine hK.out _ _ (by exact HF.out.1) (λ hHeld2=>?_);clear hK K hHeld;have hHeld:=hHeld2;clear hHeld2
     try simp only [pU]
     refine aX ?_;exact (HNQ.out _ _).2 ⟨_,_,_,_,_,_,b8,rb,rfl,aW HF.out.2.1,aW HF.out.2.2.1,aW HF.out.2.2.2⟩
   ·go_simp;have hbA:=(Below.refl _ Z1).alloc (Nat.le_refl _) (.cells #[Zs none 0 0] 24);have HX:=aW (show Blk (Z1.alloc (.cells #[Zs none 0 0] 24)) Z1.heap.size 24 #[Zs none 0 0]/\w1.heap.size<=Z1.heap.size from ⟨Blk.new _ _ _,HZ.out.size⟩);replace HZ:=aW (HZ.out.trans (hbA.mono HZ.out.size));clear hbA;refine hK.out _ _ (by exact HK.out _ HZ.out) (λ hHeld2=>?_);clear hK K hHeld;have hHeld:=hHeld2;clear hHeld2
    try simp only [pU]
    refine gm (λ Z11 hY=>?_);obtain ⟨b8,hb8⟩:∃ b,Z1.heap.size=b:=⟨_,rfl⟩
    rw [hb8] at HX ⊢;rw [← hY] at HX HZ;clear hY hb8;replace hHeld:=HK.out _ HZ.out;refine aV 3 20 rfl (λ K hK=>?_);go_simp;refine (mz _ _ _ _ _ _ _ _ _ _ _ _ _ _ _ _ _ _ Z11).mono ?_;rintro e Z12 ⟨rfl,hb⟩;replace HX:=aW (And.intro (HX.out.1.keep hb) HX.out.2);replace HZ:=aW (HZ.out.trans (hb.mono HZ.out.size));clear hb;refine hK.out _ _ (by exact HK.out _ HZ.out) (λ hHeld2=>?_);clear hK K hHeld;have hHeld:=hHeld2;clear hHeld2
    try simp only [pU]
    replace hHeld:=HK.out _ HZ.out;refine aV 4 21 rfl (λ K hK=>?_);go_simp;have hbA:=(Below.refl _ Z12).alloc (Nat.le_refl _) (.cells #[Zi Zq 3,Zt ⟨#[113,113,113]⟩,Zi Zq 2,Zi Zq 0,Zi Zq 0,Zt ⟨#[]⟩,Zs none 0 0,Zs none 0 0,Zt ⟨#[100,111,99]⟩,Zs none 0 0,Zi Zq 0,Zi Zq 0,Zi Zq 0,Zt ⟨#[]⟩,Zs none 0 0,Zs none 0 0,Zt ⟨#[]⟩,Zs none 0 0,Zs A0 n0 ca0,Zs none 0 0] 48);have HL:=aW (HONE.out Z12 HZ.out);have HRB:=aW HZ.out.size;replace HX:=aW (And.intro (HX.out.1.alloc (.cells #[Zi Zq 3,Zt ⟨#[113,113,113]⟩,Zi Zq 2,Zi Zq 0,Zi Zq 0,Zt ⟨#[]⟩,Zs none 0 0,Zs none 0 0,Zt ⟨#[100,111,99]⟩,Zs none 0 0,Zi Zq 0,Zi Zq 0,Zi Zq 0,Zt ⟨#[]⟩,Zs none 0 0,Zs none 0 0,Zt ⟨#[]⟩,Zs none 0 0,Zs A0 n0 ca0,Zs none 0 0] 48)) HX.out.2);replace HZ:=aW (HZ.out.trans (hbA.mono HZ.out.size));clear hbA;refine hK.out _ _ (by exact HK.out _ HZ.out) (λ hHeld2=>?_);clear hK K hHeld;have hHeld:=hHeld2;clear hHeld2
    try simp only [pU]
    refine gm (λ Z13 hY=>?_);obtain ⟨rb,hrb⟩:∃ b,Z12.heap.size=b:=⟨_,rfl⟩
    rw [hrb] at HL HRB ⊢;rw [← hY] at HL HZ HX;clear hY hrb;replace hHeld:=HK.out _ HZ.out;refine aV 5 22 rfl (λ K hK=>?_);go_simp;refine (r8 _ _ _ Z13).mono ?_;rintro e Z14 ⟨rfl,hb⟩;replace HX:=aW (And.intro (HX.out.1.keep hb) HX.out.2);replace HL:=aW (HL.out.bel hb);replace HZ:=aW (HZ.out.trans (hb.mono HZ.out.size));clear hb;refine hK.out _ _ (by exact HK.out _ HZ.out) (λ hHeld2=>?_);clear hK K hHeld;have hHeld:=hHeld2;clear hHeld2
    try simp only [pU]
    replace hHeld:=HK.out _ HZ.out;refine aU 7 rfl (λ K hK=>?_);obtain ⟨c8,f8,l8⟩:=HX.out.1.rules;go_simp;have HF:=aW (HFIN.out Z14 b8 rb HZ.out HX.out.1 HX.out.2 HL.out);clear c8 f8 l8;refine hK.out _ _ (by exact HF.out.1) (λ hHeld2=>?_);clear hK K hHeld;have hHeld:=hHeld2;clear hHeld2
    try simp only [pU]
    refine aX ?_;exact (HNQ.out _ _).2 ⟨_,_,_,_,_,_,b8,rb,rfl,aW HF.out.2.1,aW HF.out.2.2.1,aW HF.out.2.2.2⟩
  ·go_simp;have hbA:=(Below.refl _ Z0).alloc (Nat.le_refl _) (.cells #[Zs none 0 0] 24);have HX:=aW (show Blk (Z0.alloc (.cells #[Zs none 0 0] 24)) Z0.heap.size 24 #[Zs none 0 0]/\w1.heap.size<=Z0.heap.size from ⟨Blk.new _ _ _,HZ.out.size⟩);replace HZ:=aW (HZ.out.trans (hbA.mono HZ.out.size));clear hbA;refine hK.out _ _ (by exact HK.out _ HZ.out) (λ hHeld2=>?_);clear hK K hHeld;have hHeld:=hHeld2;clear hHeld2
   try simp only [pU]
   refine gm (λ Z15 hY=>?_);obtain ⟨b8,hb8⟩:∃ b,Z0.heap.size=b:=⟨_,rfl⟩
   rw [hb8] at HX ⊢;rw [← hY] at HX HZ;clear hY hb8;replace hHeld:=HK.out _ HZ.out;refine aV 0 17 rfl (λ K hK=>?_);go_simp;refine (jB _ Z15).mono ?_;rintro e Z16 ⟨rfl,hb⟩;replace HX:=aW (And.intro (HX.out.1.keep hb) HX.out.2);replace HZ:=aW (HZ.out.trans (hb.mono HZ.out.size));clear hb;refine hK.out _ _ (by exact HK.out _ HZ.out) (λ hHeld2=>?_);clear hK K hHeld;have hHeld:=hHeld2;clear hHeld2
   try simp only [pU]
   replace hHeld:=HK.out _ HZ.out;refine aV 3 20 rfl (λ K hK=>?_);go_simp;refine (mz _ _ _ _ _ _ _ _ _ _ _ _ _ _ _ _ _ _ Z16).mono ?_;rintro e Z17 ⟨rfl,hb⟩;replace HX:=aW (And.intro (HX.out.1.keep hb) HX.out.2);replace HZ:=aW (HZ.out.trans (hb.mono HZ.out.size));clear hb;refine hK.out _ _ (by exact HK.out _ HZ.out) (λ hHeld2=>?_);clear hK K hHeld;have hHeld:=hHeld2;clear hHeld2
   try simp only [pU]
   replace hHeld:=HK.out _ HZ.out;refine aV 4 21 rfl (λ K hK=>?_);go_simp;have hbA:=(Below.refl _ Z17).alloc (Nat.le_refl _) (.cells #[Zi Zq 3,Zt ⟨#[113,113,113]⟩,Zi Zq 2,Zi Zq 0,Zi Zq 0,Zt ⟨#[]⟩,Zs none 0 0,Zs none 0 0,Zt ⟨#[100,111,99]⟩,Zs none 0 0,Zi Zq 0,Zi Zq 0,Zi Zq 0,Zt ⟨#[]⟩,Zs none 0 0,Zs none 0 0,Zt ⟨#[]⟩,Zs none 0 0,Zs A0 n0 ca0,Zs none 0 0] 48);have HL:=aW (HONE.out Z17 HZ.out);have HRB:=aW HZ.out.size;replace HX:=aW (And.intro (HX.out.1.alloc (.cells #[Zi Zq 3,Zt ⟨#[113,113,113]⟩,Zi Zq 2,Zi Zq 0,Zi Zq 0,Zt ⟨#[]⟩,Zs none 0 0,Zs none 0 0,Zt ⟨#[100,111,99]⟩,Zs none 0 0,Zi Zq 0,Zi Zq 0,Zi Zq 0,Zt ⟨#[]⟩,Zs none 0 0,Zs none 0 0,Zt ⟨#[]⟩,Zs none 0 0,Zs A0 n0 ca0,Zs none 0 0] 48)) HX.out.2);replace HZ:=aW (HZ.out.trans (hbA.mono HZ.out.size));clear hbA;refine hK.out _ _ (by exact HK.out _ HZ.out) (λ hHeld2=>?_);clear hK K hHeld;have hHeld:=hHeld2;clear hHeld2
   try simp only [pU]
   refine gm (λ Z18 hY=>?_);obtain ⟨rb,hrb⟩:∃ b,Z17.heap.size=b:=⟨_,rfl⟩
   rw [hrb] at HL HRB ⊢;rw [← hY] at HL HZ HX;clear hY hrb;replace hHeld:=HK.out _ HZ.out;refine aV 5 22 rfl (λ K hK=>?_);go_simp;refine (r8 _ _ _ Z18).mono ?_;rintro e Z19 ⟨rfl,hb⟩;replace HX:=aW (And.intro (HX.out.1.keep hb) HX.out.2);replace HL:=aW (HL.out.bel hb);replace HZ:=aW (HZ.out.trans (hb.mono HZ.out.size));clear hb;refine hK.out _ _ (by exact HK.out _ HZ.out) (λ hHeld2=>?_);clear hK K hHeld;have hHeld:=hHeld2;clear hHeld2
   try simp only [pU]
   replace hHeld:=HK.out _ HZ.out;refine aU 7 rfl (λ K hK=>?_);obtain ⟨c8,f8,l8⟩:=HX.out.1.rules;go_simp;have HF:=aW (HFIN.out Z19 b8 rb HZ.out HX.out.1 HX.out.2 HL.out);clear c8 f8 l8;refine hK.out _ _ (by exact HF.out.1) (λ hHeld2=>?_);clear hK K hHeld;have hHeld:=hHeld2;clear hHeld2
   try simp only [pU]
   refine aX ?_;exact (HNQ.out _ _).2 ⟨_,_,_,_,_,_,b8,rb,rfl,aW HF.out.2.1,aW HF.out.2.2.1,aW HF.out.2.2.2⟩
 case c2 =>
  intro e a' w2 h;cases e with
  |normal =>
   obtain ⟨u17,u18,u19,u20,u21,u22,b8,rb,rfl,HB,HX,HPQ⟩:=(HNQ.out _ _).1 h;clear h;have HH2:=aW (show aT [(b8,24,#[Zs (some ⟨rb,0,none⟩) 1 1]),(w.heap.size,24,#[Zs A0 n0 ca0])] w w2 from ⟨HH1.out.1.trans (HB.out.mono HH1.out.1.size),λ x hx=>by
    rcases List.mem_cons.1 hx with rfl | hx
    ·exact HX.out
    ·exact (HH1.out.keep HB.out).2 x hx⟩)
   have HP2:=aW (HP.out.bel HH2.out.1);have hcm:=BZ HCM.out (by rw [HLN.out];exact hn0);have hsm:aA (BF [113,113,113] p)<4194304:=by have:=B5 p;have:=HSM.out;omega
   have HCQ:=aW (And.intro hcm hsm);have HKP:=aW (λ (W:World) (hb:Below w2.heap.size w2 W)=>iS (HP2.out.bel hb) (HG.out _ (HH2.out.1.trans (hb.mono HH2.out.1.size))) HCM.out (by have:=HSM.out;omega));have HKQ:=aW (λ (W:World) (hb:Below w2.heap.size w2 W)=>iS (HPQ.out.bel hb) (HG.out _ (HH2.out.1.trans (hb.mono HH2.out.1.size))) HCQ.out.1 HCQ.out.2);obtain ⟨e1,he1⟩:∃ z,dQ p=z:=⟨_,rfl⟩
   obtain ⟨f1,hf1⟩:∃ z,dQ (BF [113,113,113] p)=z:=⟨_,rfl⟩
   rw [he1] at HKP;rw [hf1] at HKQ;have HE:=aW (And.intro he1 hf1);clear he1 hf1 hcm hsm HB HX HK HFIN HONE HPW HNQ HH1;go_upto_region 4 with fail;refine wp_region_held_drew (S:=λ W'=>Blk W' w.heap.size 24 #[Zs A0 n0 ca0]/\Blk W' b8 24 #[Zs (some ⟨rb,0,none⟩) 1 1]) (by kernel_rfl) (by exact ⟨HH2.out.b1.drew,HH2.out.b0.drew⟩) (λ hHeld=>?_);refine gm (λ Z0 hw=>?_);have HZ:=aW (show Below w2.heap.size w2 Z0 by rw [hw];exact (Below.refl _ _).drew);have HK:=aW (show ∀ W',Below w2.heap.size w2 W'->Blk W' w.heap.size 24 #[Zs A0 n0 ca0]/\Blk W' b8 24 #[Zs (some ⟨rb,0,none⟩) 1 1] from λ W' h=>⟨HH2.out.b1.keep h,HH2.out.b0.keep h⟩);clear hw hHeld;have hHeld:=HK.out _ HZ.out;refine aY 0 23 (.agg #[Zs A0 n0 ca0]) rfl ?_ ?_
   ·intro W hSw;obtain ⟨⟨c8,f8,l8⟩,c9,f9,l9⟩:=And.intro hSw.1.rules hSw.2.rules;go_simp
   refine aY 2 25 (.agg #[Zs (some ⟨rb,0,none⟩) 1 1]) rfl ?_ ?_
   ·intro W hSw;obtain ⟨⟨c8,f8,l8⟩,c9,f9,l9⟩:=And.intro hSw.1.rules hSw.2.rules;go_simp
   refine aV 1 24 rfl (λ K hK=>?_);go_simp;refine (HKP.out _ HZ.out).mono ?_;rintro e Y1 ⟨rfl,hb⟩;replace HZ:=aW (HZ.out.trans (hb.mono HZ.out.size));clear hb;refine hK.out _ _ (by exact HK.out _ HZ.out) (λ hHeld2=>?_);clear hK K hHeld;have hHeld:=hHeld2;clear hHeld2
   try simp only [pU]
   replace hHeld:=HK.out _ HZ.out;refine aV 3 26 rfl (λ K hK=>?_);go_simp;refine (HKQ.out _ HZ.out).mono ?_;rintro e Y2 ⟨rfl,hb⟩;replace HZ:=aW (HZ.out.trans (hb.mono HZ.out.size));clear hb;refine hK.out _ _ (by exact HK.out _ HZ.out) (λ hHeld2=>?_);clear hK K hHeld;have hHeld:=hHeld2;clear hHeld2
   try simp only [pU]
   replace hHeld:=HK.out _ HZ.out;refine tA 4 4 (Zi Zq e1) rfl ?_;refine tA 5 5 (Zi Zq f1) rfl ?_;refine aX ?_;have HH3:=aW (HH2.out.keep HZ.out);have HP3:=aW (HP2.out.bel HZ.out);have HPQ3:=aW (HPQ.out.bel HZ.out);clear hHeld HZ HK HKP HKQ HH2 HP2 HPQ;obtain ⟨c0,f0,l0⟩:=HH3.out.b0.rules;go_wp2_with fail;refine (Cf HPQ3.out (HG.out _ HH3.out.1) HCQ.out.1 (Nat.le_of_lt HCQ.out.2)).mono ?_;rintro e x4 ⟨rfl,hb⟩;clear c0 f0 l0;have HH4:=aW (HH3.out.keep hb);have HP4:=aW (HP3.out.bel hb);have HPQ4:=aW (HPQ3.out.bel hb);clear hb HH3 HP3 HPQ3;by_cases hm:fG (BF [113,113,113] p)=true;rotate_left
   ·have hg:f1=332:=by
     rw [← HE.out.2];exact Decidable.byContradiction λ h=>hm (BW.1 h)
    rw [show eq (BF [113,113,113] p)=332 by unfold eq;rw [if_neg hm]];subst hg;clear HE hm;go_wp2;go_ret;exact ⟨rfl,HH4.out.1⟩
   have HMB:=aW hm;have HMP:=aW (B4 hm);clear hm;have hpg:eq p=0:=by unfold eq;rw [HMP.out];rfl
   have hbg:eq (BF [113,113,113] p)=0:=by unfold eq;rw [HMB.out];rfl
   have HPG:=aW (And.intro hpg hbg);rw [hbg];clear hpg hbg;obtain ⟨c0,f0,l0⟩:=HH4.out.b1.rules;go_wp2_with fail;refine (vP HP4.out (HG.out _ HH4.out.1) HCM.out (by have:=HSM.out;omega)).mono ?_;rintro e x5 ⟨FA0,fn0,fc0,rfl,hrow,hb⟩;rw [HPG.out.1];rw [HMP.out,if_pos rfl] at hrow;have hfn0:fn0<=4194304:=by have h1:=hrow.1;have h2:=qr p;have h3:=wV (fX [] p);rw [iy] at h1;have:=HSM.out;omega
   have HF0:=aW (And.intro hrow.1 (And.intro hrow.2.1 (And.intro hrow.2.2.1 hrow.2.2.2.rd)));have HH5:=aW (HH4.out.keep hb);have HP5:=aW (HP4.out.bel hb);have HPQ5:=aW (HPQ4.out.bel hb);clear hb HH4 HP4 HPQ4;clear hrow c0 f0 l0;obtain ⟨c0,f0,l0⟩:=HH5.out.b1.rules;go_wp2_with fail;refine (sY HP5.out (HG.out _ HH5.out.1) HCM.out (by have:=HSM.out;omega)).mono ?_;rintro e x6 ⟨rfl,hb⟩;rw [HPG.out.1,HMP.out,if_pos rfl];have HH6:=aW (HH5.out.keep hb);have HP6:=aW (HP5.out.bel hb);have HPQ6:=aW (HPQ5.out.bel hb);replace HF0:=aW (And.intro HF0.out.1 (And.intro HF0.out.2.1 (And.intro HF0.out.2.2.1 (HF0.out.2.2.2.below hb))));clear hb HH5 HP5 HPQ5;clear c0 f0 l0;obtain ⟨c0,f0,l0⟩:=HH6.out.b0.rules;go_wp2_with fail;refine (sY HPQ6.out (HG.out _ HH6.out.1) HCQ.out.1 HCQ.out.2).mono ?_;rintro e x7 ⟨rfl,hb⟩;rw [HPG.out.2,HMB.out,if_pos rfl];have HH7:=aW (HH6.out.keep hb);have HP7:=aW (HP6.out.bel hb);have HPQ7:=aW (HPQ6.out.bel hb);replace HF0:=aW (And.intro HF0.out.1 (And.intro HF0.out.2.1 (And.intro HF0.out.2.2.1 (HF0.out.2.2.2.below hb))));clear hb HH6 HP6 HPQ6;clear c0 f0 l0;rw [BX];obtain ⟨d0,hd0⟩:∃ z,fd p=z:=⟨_,rfl⟩
   have hdb:d0<=4194304:=by rw [← hd0,uk];have:=BH p;have:=HSM.out;omega
   rw [hd0];have HD:=aW hd0;clear hd0;go_wp2_with fail;refine (jt (vr (kX p) [113,113,113] FA0 fn0 fc0 x7 HF0.out.1 hfn0 HF0.out.2.2.2 (decide ([113,113,113] ∈ kX p)) (by rw [decide_eq_true_eq]))).mono ?_;rintro e xw ⟨rfl,rfl⟩;by_cases hq:[113,113,113] ∈ kX p
   ·rw [decide_eq_true hq];go_wp2_with fail;go_ret;exact ⟨rfl,HH7.out.1⟩
   rw [decide_eq_false hq];have HQF:=aW hq;clear hq;obtain ⟨c1,f1',l1⟩:=HH7.out.b1.rules;go_wp2_with fail;obtain ⟨css,h1,h2,h3,h4⟩:=HP7.out;refine (Cd [113,113,113] 4194304 (Nat.le_refl _) p css A0 n0 ca0 xw (by have:=HSM.out;omega) h1 h3 h4 h2 hn0).mono ?_;rintro e x8 ⟨rfl,hb⟩;clear h1 h2 h3 h4 css c1 f1' l1;have HH8:=aW (HH7.out.keep hb);have HPQ8:=aW (HPQ7.out.bel hb);replace HF0:=aW (And.intro HF0.out.1 (And.intro HF0.out.2.1 (And.intro HF0.out.2.2.1 (HF0.out.2.2.2.below hb))));clear hb HH7 HP7 HPQ7;by_cases hh:hbL [113,113,113] p=true
   ·rw [hh];go_wp2_with fail;go_ret;exact ⟨rfl,HH8.out.1⟩
   have hhf:hbL [113,113,113] p=false:=by simpa using hh
   rw [hhf];have HHS:=aW (show ¬ BG [113,113,113] p from λ h=>hh ((BL _ _).2 h));clear hh hhf;have hwl:=B6 (q:=[113,113,113]) (by decide) HMB.out HMP.out HQF.out HHS.out;rw [HE.out.1,HE.out.2,HD.out] at hwl;have HWL:=aW hwl;clear hwl HQF HHS HE;obtain ⟨c0,f0,l0⟩:=HH8.out.b0.rules;go_wp2_with fail;refine (vP HPQ8.out (HG.out _ HH8.out.1) HCQ.out.1 HCQ.out.2).mono ?_;rintro e x9 ⟨FA2,fn2,fc2,rfl,hrow,hb⟩;clear c0 f0 l0;rw [HPG.out.2];rw [HMB.out,if_pos rfl] at hrow;have hfn2:fn2<=4194304:=by have h1:=hrow.1;have h2:=qr (BF [113,113,113] p);have h3:=wV (fX [] (BF [113,113,113] p));rw [iy] at h1;have:=HCQ.out.2;omega
   have HF2:=aW (And.intro hrow.1 (And.intro hrow.2.1 (And.intro hrow.2.2.1 hrow.2.2.2.rd)));have HH9:=aW (HH8.out.keep hb);replace HF0:=aW (And.intro HF0.out.1 (And.intro HF0.out.2.1 (And.intro HF0.out.2.2.1 (HF0.out.2.2.2.below hb))));clear hrow hb HH8 HPQ8;go_wp2_with fail;have HHX9:=aW HH9.out.1;have HFX9:=aW HF2.out.2.2.2;have HLF:=aW HF0.out.1;have HL2:=aW (And.intro HF2.out.1 HF2.out.2.1);refine (Ce (kX p) FA0 fn0 fc0 x9 HF0.out.1 hfn0 HF0.out.2.1 HF0.out.2.2.1 HF0.out.2.2.2).mono ?_;rintro e xA0 ⟨rv,rfl,hown,hb⟩;have HBA0:=aW (show Below x9.heap.size x9 xA0 from hb);have HO0:=aW hown;clear hown hb HH9 HF0 HF2;obtain ⟨i0,hi,hz,h1,h2⟩:=qw;have HI:=aW (And.intro hi (And.intro hz (And.intro h1 h2)));clear hi hz h1 h2;obtain ⟨gA,hgA⟩:∃ z,xA0.heap.size=z:=⟨_,rfl⟩
   obtain ⟨xA,hxA⟩:∃ z,xA0.alloc (.cells #[Zt ⟨#[100,111,99]⟩] 9)=z:=⟨_,rfl⟩
   have HBA:=aW (show Below x9.heap.size x9 xA by rw [← hxA];exact HBA0.out.alloc HBA0.out.size _);have HO:=aW (show xA.ownsRow x9.heap.size 9 1 rv fn0 (bY (kX p)) by rw [← hxA];exact HO0.out.alloc _);have HRD:=aW (show Rd xA (some ⟨gA,0,none⟩) (bY [[100,111,99]]) by rw [← hxA,← hgA];exact Rd.of_blk (Blk.new xA0 9 _));have HXA:=aW (And.intro hxA hgA);clear hxA hgA HBA0 HO0;go_upto_region 16 with (at_builtin;rw [HXA.out.1,HXA.out.2];refine cX _ rfl (.tmp 76) (.tmp 77) 40 rfl x9.heap.size 9 i0 _ 1 16 Tryz.underlying40 HI.out.1 HI.out.2.1 HI.out.2.2.1 HI.out.2.2.2 rfl (by decide) rv fn0 (bY (kX p)) (by rfl) HO.out (some ⟨gA,0,none⟩) 1 1 (λ e=>by cases e) (bY [[100,111,99]]) (by rfl) (by rfl) HRD.out (BP _) (by unfold maxLen;omega) (by omega) HBA.out.size ?_;intro row xB hownB hgr _);have hb9B:Below x9.heap.size x9 xB:=HBA.out.grown hgr HBA.out.size (λ k e=>(HO.out.lt k e).1);have HOB:=aW (show xB.ownsRow x9.heap.size 9 1 row (fn0+1) (bY (kX p++[[100,111,99]])) by rw [show bY (kX p++[[100,111,99]])=bY (kX p)++bY [[100,111,99]] by simp [bY]];exact hownB);have HBB:=aW hb9B;clear hownB hgr hb9B HO HBA HRD HXA;go_wp2_with fail;refine (yA (kX p++[[100,111,99]]) x9.heap.size row (fn0+1) xB (by rw [List.length_append,HLF.out];rfl) (by omega) HOB.out HBB.out.size).mono ?_;rintro e xC ⟨rfl,hownC,hbC⟩;have HOC:=aW hownC;have HBC:=aW (HBB.out.trans hbC);clear hownC hbC HOB HBB;go_wp2_with fail;refine (xT ((kX p++[[100,111,99]]).mergeSort λ x y=>decide (x<=y)) x9.heap.size row (fn0+1) xC (by rw [List.length_mergeSort,List.length_append,HLF.out];rfl) (by omega) HOC.out HBC.out.size).mono ?_;rintro e xD ⟨v,rfl,hownD,hbD⟩;obtain ⟨vA,vc,rfl,hvc,_,hvr⟩:=bW hownD;have hfr:Lib.compact ((kX p++[[100,111,99]]).mergeSort λ x y=>decide (x<=y))=kX (BF [113,113,113] p):=HWL.out.1;rw [hfr] at hvr;have hvl:(Lib.compact ((kX p++[[100,111,99]]).mergeSort λ x y=>decide (x<=y))).length=fn2:=by rw [hfr];exact HL2.out.1
   rw [hvl] at hvc ⊢;have hrF:Rd xD FA2 (bY (kX (BF [113,113,113] p))):=HFX9.out.below (HBC.out.trans hbD);have HWD:=aW (HHX9.out.trans ((HBC.out.trans hbD).mono HHX9.out.size));have HEQ:=aW (j4 FA2 vA fn2 fn2 fc2 vc (kX (BF [113,113,113] p)) (kX (BF [113,113,113] p)) xD HL2.out.1 HL2.out.1 hrF hvr.rd HL2.out.2 hvc hfn2 hfn2);clear hownD hbD hvr hfr hvl hrF HOC HBC;go_wp2_with fail;refine HEQ.out.mono ?_;rintro e xE ⟨rfl,q9,hq9⟩;simp only [decide_true];have HWE:=aW (show Below w.heap.size w xE by rw [← hq9];exact ai HWD.out q9);clear hq9 HWD HEQ;have hwl:=HWL.out.2;clear HWL HFX9 HHX9;by_cases hE:e1=0
   ·by_cases hD:d0<2
    ·have hF:f1=0:=hwl.2 ⟨hE,hD⟩;have hDb:(d0:Int)<2:=by omega
     clear hwl;subst hE hF;go_wp2;go_ret;exact ⟨rfl,HWE.out⟩
    ·have hF:(f1 == 0)=false:=by
      have:¬ f1=0:=λ h=>hD (hwl.1 h).2
      simpa using this
     have hDb:¬ (d0:Int)<2:=by omega
     clear hwl;subst hE;go_wp2;go_ret;exact ⟨rfl,HWE.out⟩
   ·have hF:(f1 == 0)=false:=by
     have:¬ f1=0:=λ h=>hE (hwl.1 h).1
     simpa using this
    have hEb:(e1 == 0)=false:=by simpa using hE
    clear hwl hE;go_wp2;go_ret;exact ⟨rfl,HWE.out⟩
  | _=>exact h.elim
end
end Go.Proofs.YtgmnmnnoahdjnaaGreatDoor
