import Derived.Test.YtgmnmnnoahdjnaaGreatDoorC31
open Go.Value renaming int → Zi, slice → Zs, string → Zt, pointer → Zp
open Go.IntKind renaming i64 → Zq
set_option maxRecDepth 100000
set_option maxHeartbeats 16000000
set_option linter.unusedVariables false
set_option linter.unusedSimpArgs false
namespace Go.Proofs.YtgmnmnnoahdjnaaGreatDoor
section
open Go.RowKit
attribute [local go_sem] aa ac ae ab
theorem Ai {P:Program} {md:Region.Mode} {ops:Array Oper} {Q:Exit->Act->World->Prop} {S:World->Prop} {fuel:Nat} {listed:Array Bool} {act:Nat->World->Act} {R:Nat->World->Prop} {goal:Prop}
  (hleaf:∀ b Z,R b Z->wpAnyH P md ops Q S fuel listed (act b Z) Z) (h:(∀ b Z,R b Z->wpAnyH P md ops Q S fuel listed (act b Z) Z)->goal):goal:=h hleaf
theorem sL (g:Nat) (A:Option Addr) (nT cap:Nat) (T:List ak) (N:Nat) (hT:WT T) (hE:pK g A nT cap T N) (p:Nat) (w:World) (hV:VP w g A nT cap T p) (hp:p<nT) (hn:nT<=1000) (hN:12*(nT-p)+2<=N+1) :
  Calls Tryz.prog 171 #[Zp (some ⟨g,0,none⟩),Zi Zq 8] w (dH (eE T 8 p) g A nT cap T w):=by
 obtain ⟨r,hr⟩:∃ r,eE T 8 p=r:=⟨_,rfl⟩
 have HR0:=aW (show r=(match eA T p with | .ok x q=>eP T x q | .bad q=>.bad q) by rw [← hr];exact xW hT (by rw [hV.len];exact hp));rw [hr];have HAL:=aW (λ (W:World) (h:Below w.heap.size w W)=>yM g A nT cap T N hT hE p W (hV.keep h) hp hn (by omega));have hgl:=hV.blk.lt;have hxg:w.heap.size≠g:=by omega
 have HV:=aW hV;have HP:=aW (And.intro hp hn);obtain ⟨r1,hr1⟩:∃ r1,eA T p=r1:=⟨_,rfl⟩
 rw [hr1] at HAL HR0;have HR1:=aW hr1;clear hV hr hE hp hn hN hr1;have HB0:=aW ((Below.refl w.heap.size w).alloc (Nat.le_refl _) (.cells #[Zi Zq 0,Zi Zq 0,Zi Zq 0,Zt ⟨#[]⟩,Zs none 0 0,Zs none 0 0,Zt ⟨#[]⟩,Zs none 0 0] 45));have HX0:=aW (Blk.new w 45 #[Zi Zq 0,Zi Zq 0,Zi Zq 0,Zt ⟨#[]⟩,Zs none 0 0,Zs none 0 0,Zt ⟨#[]⟩,Zs none 0 0]);cases r1 with
 |bad q =>
  have HR:=aW (show r=.bad q from HR0.out);rw [HR.out];unfold dH aL at HAL ⊢;go_enter Tryz.func171,Tryz.ntmps171;go_wp2_with fail;refine (HAL.out _ HB0.out).mono ?_;rintro e w1 ⟨rfl,hg1⟩;go_wp2;exact ⟨rfl,rfl,af (aD HB0.out (some g)) hg1⟩
 |ok x q =>
  have HR2:=aW (show r=eP T x q from HR0.out);have hq:=yU hT (by rw [HV.out.len];exact HP.out.1) HR1.out;rw [HV.out.len] at hq;unfold dH at HAL;go_enter Tryz.func171,Tryz.ntmps171;go_wp2_with fail;refine (HAL.out _ HB0.out).mono ?_;rintro e w1 ⟨cs,rfl,he1,hv1,hg1⟩;obtain ⟨k9,k19,n19,s19,A19,na19,ca19,B19,nb19,cb19,s9,A29,n29,ca29,rfl⟩:=he1.form;have HX1:=aW (HX0.out.grown hg1 (by simpa using hxg));have HG1:=aW (af (aD HB0.out (some g)) hg1);have HV1:=aW hv1;have HE1:=aW he1;have hs1:w.heap.size<w1.heap.size:=HX1.out.lt;obtain ⟨YB,hYB⟩:∃ y,w1.heap.size=y:=⟨_,rfl⟩
  have HY1:=aW (Blk.new w1 45 #[Zi Zq k9,Zi Zq k19,Zi Zq n19,Zt s19,Zs A19 na19 ca19,Zs B19 nb19 cb19,Zt s9,Zs A29 n29 ca29]);obtain ⟨W2,hW2⟩:∃ W',w1.alloc (.cells #[Zi Zq k9,Zi Zq k19,Zi Zq n19,Zt s19,Zs A19 na19 ca19,Zs B19 nb19 cb19,Zt s9,Zs A29 n29 ca29] 45)=W':=⟨_,rfl⟩
  have hb2:Below w1.heap.size w1 W2:=by rw [← hW2];exact (Below.refl _ w1).alloc (Nat.le_refl _) _
  have HB2:=aW hb2;have HW2:=aW hW2;rw [hW2,hYB] at HY1;have HYL:=aW (show w.heap.size<YB by omega);have hyg:YB≠g:=by omega
  have hyx:w.heap.size≠YB:=by omega
  have HE2a:=aW (show ER W2 (λ b=>w.heap.size<b/\b≠YB) [Zi Zq k9,Zi Zq k19,Zi Zq n19,Zt s19,Zs A19 na19 ca19,Zs B19 nb19 cb19,Zt s9,Zs A29 n29 ca29] x from (he1.mono (F':=λ b=>w.heap.size<b/\b≠YB) λ b hb hF=>by
   have h9:w.heap.size+1<=b:=by unfold NW at hF;simpa using hF
   omega).bel hb2)
  clear hv1 hg1 he1 hW2 hb2;go_wp2_with fail;rw [HW2.out]
  try rw [hYB]
  have HE2:=aW (show ER W2 (λ b=>w.heap.size<b/\b≠YB) [Zi Zq k9,Zi Zq k19,Zi Zq n19,Zt s19,Zs A19 na19 ca19,Zs B19 nb19 cb19,Zt s9,Zs A29 n29 ca29] x from HE2a.out.mono λ b _ hF=>hF);have HV2:=aW (HV1.out.keep HB2.out);have HX2:=aW (HX1.out.keep HB2.out);have HG2:=aW (af HG1.out (aD HB2.out (some g)));clear HW2 HB2 HE1 HV1 HX1 HG1;go_loopg [] (nT-q) (λ gk wr => ∃ (p':Nat) (x':EJ) (k9 k19 n19:Int) (s19:ByteArray) (A19:Option Addr) (na19 ca19:Nat) (B19:Option Addr) (nb19 cb19:Nat) (s9:ByteArray) (A29:Option Addr) (n29 ca29:Nat),p'<nT/\gk=nT-p'/\Hid (r=eP T x' p')/\Hid (VP wr g A nT cap T p')/\Hid (Blk wr w.heap.size 45 #[Zi Zq 0,Zi Zq 0,Zi Zq 0,Zt ⟨#[]⟩,Zs none 0 0,Zs none 0 0,Zt ⟨#[]⟩,Zs none 0 0])/\Hid (Blk wr YB 45 #[Zi Zq k9,Zi Zq k19,Zi Zq n19,Zt s19,Zs A19 na19 ca19,Zs B19 nb19 cb19,Zt s9,Zs A29 n29 ca29]) /\
   Hid (ER wr (λ b=>w.heap.size<b/\b≠YB) [Zi Zq k9,Zi Zq k19,Zi Zq n19,Zt s19,Zs A19 na19 ca19,Zs B19 nb19 cb19,Zt s9,Zs A29 n29 ca29] x')/\Hid (w.grownBy wr (some g)))
  case atStart=>exact ⟨q,x,k9,k19,n19,s19,A19,na19,ca19,B19,nb19,cb19,s9,A29,n29,ca29,hq.2,rfl,HR2,HV2,HX2,HY1,HE2,HG2⟩
  case round =>
   obtain ⟨p',x',k9,k19,n19,s19,A19,na19,ca19,B19,nb19,cb19,s9,A29,n29,ca29,hpn,hgk,HRP,HVP,HXP,HYP,HEP,HGP⟩:=hrel;have HGK:=aW hgk;have hn9:=HP.out.2;clear hgk HR2 HV2 HX2 HY1 HE2 HG2;by_cases hs:al T p' [46]=true
   ·have h1:p'+1<nT:=by have h9:=hT.next (p:=p') (by rw [HV.out.len];exact hpn) (au hs);rw [HV.out.len] at h9;exact h9
    have HTY:=aW (fq [46] wr g A nT cap T p' HVP.out hpn HP.out.2 hs);have HRP1:=aW (show r=if tkK T (p'+1)=1 then eP T (.mk 3 cn (tkT T (p'+1)) [x']) (p'+2) else .bad (p'+1) by rw [HRP.out,yZ hT (by rw [HV.out.len];exact hpn),if_pos hs]);clear hs;go_upto_region 11 with (go_at_call 139;refine HTY.out.mono ?_;rintro e w3 ⟨rfl,hv3,hg3⟩);have HV3:=aW hv3;have HX3:=aW (HXP.out.grown hg3 (by simpa using hxg));have HY2:=aW (HYP.out.grown hg3 (by simpa using hyg));have HE3:=aW (HEP.out.keep (ah.of_grown hg3 λ k hk e=>by injection e with e;have:=hk.1;omega));have HG2:=aW (af HGP.out hg3);have HG9:=aW hv3.blk.lt;have HYW:=aW HY2.out.lt;clear hv3 hg3 HXP HYP HEP HGP;by_cases hk1:tkK T (p'+1)=1
    ·have HR:=aW (show r=eP T (.mk 3 cn (tkT T (p'+1)) [x']) (p'+2) by rw [HRP1.out,if_pos hk1]);have HNM:=aW (λ (W:World) (h:Below w3.heap.size w3 W)=>tJ W g A nT cap T (p'+1) (HV3.out.keep h) h1 HP.out.2 hk1);have h2:p'+2<nT:=by have h9:=hT.next (p:=p'+1) (by rw [HV.out.len];exact h1) (by omega);rw [HV.out.len] at h9;exact h9
     unfold xE at HNM;obtain ⟨nm,hnm⟩:∃ t,tkT T (p'+1)=t:=⟨_,rfl⟩
     rw [hnm] at HNM HR;clear hk1 hnm;apply Ai (R:=λ (b5:Nat) (Z:World)=>Blk Z b5 45 #[Zi Zq k9,Zi Zq k19,Zi Zq n19,Zt s19,Zs A19 na19 ca19,Zs B19 nb19 cb19,Zt s9,Zs A29 n29 ca29]/\VP Z g A nT cap T (p'+1+1)/\w3.grownBy Z (some g)/\w3.heap.size<=b5)
     case h =>
      intro HL;refine wp_region_held_drew (S:=λ _=>True) (by kernel_rfl) trivial (λ hHeld=>?_);refine tA 0 36 (Zp (some ⟨g,0,none⟩)) rfl ?_;refine wpAnyH_ready (rs:=[1,2]) (by kernel_rfl) (by simp) ?_;refine AllReadyH.cons (o:=⟨some 37,_,_,_,_,_⟩) rfl (λ K hK=>?_) (AllReadyH.cons (o:=⟨some 38,_,_,_,_,_⟩) rfl (λ K hK=>?_) AllReadyH.nil)
      ·go_simp;refine (HNM.out _ ((Below.refl w3.heap.size w3).drew)).mono ?_;rintro e w4 ⟨rfl,hv4,hg4⟩;have HR4:=aW (And.intro hv4 (af (aD ((Below.refl w3.heap.size w3).drew) (some g)) hg4));have HG4:=aW hg4;clear hv4 hg4;refine hK.out _ _ trivial (λ hHeld=>?_);clear hK K
       try simp only [pU]
       refine aV 2 38 rfl (λ K hK=>?_);have HYC:=aW (((HY2.out.drew).grown HG4.out (by simp [hyg])));obtain ⟨y0,y1,y2⟩:=HYC.out.rules;go_simp;refine hK.out _ _ trivial (λ hHeld=>?_);clear hK K y0 y1 y2
       try simp only [pU]
       refine aV 3 39 rfl (λ K hK=>?_);go_simp;refine hK.out _ _ trivial (λ hHeld=>?_);clear hK K
       try simp only [pU]
       obtain ⟨b5,hb5⟩:∃ b,w4.heap.size=b:=⟨_,rfl⟩
       have HB5:=aW (Blk.new w4 45 #[Zi Zq k9,Zi Zq k19,Zi Zq n19,Zt s19,Zs A19 na19 ca19,Zs B19 nb19 cb19,Zt s9,Zs A29 n29 ca29]);refine gm (λ Z hZ=>?_);have HZZ:=aW (show Below w4.heap.size w4 Z by rw [hZ];exact (Below.refl _ w4).alloc (Nat.le_refl _) _);rw [← hZ,hb5] at HB5;rw [hb5];clear hZ;refine dB (l':=#[true,true,true,true,false,false]) (by kernel_rfl) ?_;exact HL _ _ (And.intro HB5.out (And.intro (HR4.out.1.keep HZZ.out) (And.intro (af HR4.out.2 (aD HZZ.out _)) (by rw [← hb5];exact HR4.out.2.size))))
      ·obtain ⟨y0,y1,y2⟩:=HY2.out.rules;go_simp;refine hK.out _ _ trivial (λ hHeld=>?_);clear hK K y0 y1 y2
       try simp only [pU]
       refine wpAnyH_ready (rs:=[1,3]) (by kernel_rfl) (by simp) ?_;refine AllReadyH.cons (o:=⟨some 37,_,_,_,_,_⟩) rfl (λ K hK=>?_) (AllReadyH.cons (o:=⟨some 39,_,_,_,_,_⟩) rfl (λ K hK=>?_) AllReadyH.nil)
       ·go_simp;refine (HNM.out _ ((Below.refl w3.heap.size w3).drew)).mono ?_;rintro e w4 ⟨rfl,hv4,hg4⟩;have HR4:=aW (And.intro hv4 (af (aD ((Below.refl w3.heap.size w3).drew) (some g)) hg4));have HG4:=aW hg4;clear hv4 hg4;refine hK.out _ _ trivial (λ hHeld=>?_);clear hK K
        try simp only [pU]
        refine aV 3 39 rfl (λ K hK=>?_);go_simp;refine hK.out _ _ trivial (λ hHeld=>?_);clear hK K
        try simp only [pU]
        obtain ⟨b5,hb5⟩:∃ b,w4.heap.size=b:=⟨_,rfl⟩
        have HB5:=aW (Blk.new w4 45 #[Zi Zq k9,Zi Zq k19,Zi Zq n19,Zt s19,Zs A19 na19 ca19,Zs B19 nb19 cb19,Zt s9,Zs A29 n29 ca29]);refine gm (λ Z hZ=>?_);have HZZ:=aW (show Below w4.heap.size w4 Z by rw [hZ];exact (Below.refl _ w4).alloc (Nat.le_refl _) _);rw [← hZ,hb5] at HB5;rw [hb5];clear hZ;refine dB (l':=#[true,true,true,true,false,false]) (by kernel_rfl) ?_;exact HL _ _ (And.intro HB5.out (And.intro (HR4.out.1.keep HZZ.out) (And.intro (af HR4.out.2 (aD HZZ.out _)) (by rw [← hb5];exact HR4.out.2.size))))
       ·go_simp;have HBN:=aW (show Blk (w3.drew.alloc (.cells #[Zi Zq k9,Zi Zq k19,Zi Zq n19,Zt s19,Zs A19 na19 ca19,Zs B19 nb19 cb19,Zt s9,Zs A29 n29 ca29] 45)) w3.heap.size 45 #[Zi Zq k9,Zi Zq k19,Zi Zq n19,Zt s19,Zs A19 na19 ca19,Zs B19 nb19 cb19,Zt s9,Zs A29 n29 ca29] from Blk.new w3.drew _ _);refine hK.out _ _ trivial (λ hHeld=>?_);clear hK K
        try simp only [pU]
        refine aV 1 37 rfl (λ K hK=>?_);go_simp;refine (HNM.out _ (((Below.refl w3.heap.size w3).drew.alloc (Nat.le_refl _) (.cells #[Zi Zq k9,Zi Zq k19,Zi Zq n19,Zt s19,Zs A19 na19 ca19,Zs B19 nb19 cb19,Zt s9,Zs A29 n29 ca29] 45)))).mono ?_;rintro e w4 ⟨rfl,hv4,hg4⟩;have HR4:=aW (And.intro hv4 (af (aD (((Below.refl w3.heap.size w3).drew.alloc (Nat.le_refl _) (.cells #[Zi Zq k9,Zi Zq k19,Zi Zq n19,Zt s19,Zs A19 na19 ca19,Zs B19 nb19 cb19,Zt s9,Zs A29 n29 ca29] 45))) (some g)) hg4));have HG4:=aW hg4;clear hv4 hg4;refine hK.out _ _ trivial (λ hHeld=>?_);clear hK K
        try simp only [pU]
        have HB5:=aW (HBN.out.grown HG4.out (by have:=HG9.out;simp;omega));obtain ⟨b5,hb5⟩:∃ b,w3.heap.size=b:=⟨_,rfl⟩
        rw [hb5] at HB5
        try rw [show w3.drew.heap.size=w3.heap.size from rfl]
        rw [hb5];refine dB (l':=#[true,true,true,true,false,false]) (by kernel_rfl) ?_;exact HL _ _ (And.intro HB5.out (And.intro HR4.out.1 (And.intro HR4.out.2 (Nat.le_of_eq hb5))))
     case hleaf =>
      rintro b5 Z ⟨hb5,hv5,hg5,hl5⟩;have HY5:=aW (HY2.out.grown hg5 (by simpa using hyg));have HX5:=aW (HX3.out.grown hg5 (by simpa using hxg));have HE5:=aW (HE3.out.keep (ah.of_grown hg5 λ k hk e=>by injection e with e;have:=hk.1;omega));have HB5:=aW (And.intro hb5 (And.intro hv5 (And.intro hg5 hl5)));clear hb5 hv5 hg5 hl5;have hHeld:True:=trivial;refine tA 4 40 (.agg #[Zi Zq 3,Zi Zq 0,Zi Zq 0,Zt ⟨#[]⟩,Zs none 0 0,Zs none 0 0,Zt ⟨nm.toArray⟩,Zs (some ⟨b5,0,none⟩) 1 1]) rfl ?_;refine aU 5 rfl (λ K hK=>?_);obtain ⟨y0,y1,y2⟩:=HY5.out.rules;go_simp;refine hK.out _ _ trivial (λ hHeld2=>?_);clear hK K hHeld hHeld2 y0 y1 y2
      try simp only [pU]
      refine aX ?_;have hgz:=jR (af HG2.out HB5.out.2.2.1) (Nat.le_of_lt HYL.out) (Zi Zq 3) (Zi Zq 0) (Zi Zq 0) (Zt ⟨#[]⟩) (Zs none 0 0) (Zs none 0 0) (Zt ⟨nm.toArray⟩) (Zs (some ⟨b5,0,none⟩) 1 1);have hby:b5≠YB:=by have:=HYW.out;have:=HB5.out.2.2.2;omega
      go_wp2;go_roundg (nT-(p'+2))
      case measure=>have:=HGK.out;omega
      case rel =>
       refine ⟨p'+2,.mk 3 cn nm [x'],3,0,0,⟨#[]⟩,none,0,0,none,0,0,⟨nm.toArray⟩,some ⟨b5,0,none⟩,1,1,h2,rfl,HR,aW (HV.out.step hgz (Blk.far8 HB5.out.2.1.blk (Ne.symm hyg) _ _ _ _ _ _ _ _)),aW (Blk.far8 HX5.out hyx _ _ _ _ _ _ _ _),aW (HY5.out.set8C _ _ _ _ _ _ _ _),aW ?_,aW hgz⟩;exact ER.into (s:=nm) (kids:=[x']) (css:=[[Zi Zq k9,Zi Zq k19,Zi Zq n19,Zt s19,Zs A19 na19 ca19,Zs B19 nb19 cb19,Zt s9,Zs A29 n29 ca29]]) VR.zero (RR.snoc RR.nil (HE5.out.keep (jj (λ k hk=>hk.2) ah.refl _ _ _ _ _ _ _ _))) rfl (by simp) (λ h=>by cases h) (RdF.of_blk9 (Blk.far8 HB5.out.1 hby _ _ _ _ _ _ _ _) ⟨by have:=HYW.out;have:=HB5.out.2.2.2;have:=HYL.out;omega,hby⟩)
    ·have HR:=aW (show r=.bad (p'+1) by rw [HRP1.out,if_neg hk1]);have hnm:=λ (W:World) (h:Below w3.heap.size w3 W)=>tI W g A nT cap T (p'+1) (HV3.out.keep h) h1 HP.out.2 hk1
     unfold aL at hnm;have HNM:=aW hnm;clear hnm hk1;refine wp_region_held_drew (S:=λ _=>True) (by kernel_rfl) trivial (λ hHeld=>?_);refine tA 0 36 (Zp (some ⟨g,0,none⟩)) rfl ?_;refine wpAnyH_ready (rs:=[1,2]) (by kernel_rfl) (by simp) ?_;refine AllReadyH.cons (o:=⟨some 37,_,_,_,_,_⟩) rfl (λ K hK=>?_) (AllReadyH.cons (o:=⟨some 38,_,_,_,_,_⟩) rfl (λ K hK=>?_) AllReadyH.nil)
     ·go_simp;refine (HNM.out _ ((Below.refl w3.heap.size w3).drew)).mono ?_;rintro e w4 ⟨rfl,hb4⟩;rw [HR.out];exact ⟨rfl,rfl,af HG2.out (aD (((Below.refl w3.heap.size w3).drew).trans (hb4.mono (((Below.refl w3.heap.size w3).drew).size))) (some g))⟩
     ·obtain ⟨y0,y1,y2⟩:=HY2.out.rules;go_simp;refine hK.out _ _ trivial (λ hHeld=>?_);clear hK K y0 y1 y2
      try simp only [pU]
      refine wpAnyH_ready (rs:=[1,3]) (by kernel_rfl) (by simp) ?_;refine AllReadyH.cons (o:=⟨some 37,_,_,_,_,_⟩) rfl (λ K hK=>?_) (AllReadyH.cons (o:=⟨some 39,_,_,_,_,_⟩) rfl (λ K hK=>?_) AllReadyH.nil)
      ·go_simp;refine (HNM.out _ ((Below.refl w3.heap.size w3).drew)).mono ?_;rintro e w4 ⟨rfl,hb4⟩;rw [HR.out];exact ⟨rfl,rfl,af HG2.out (aD (((Below.refl w3.heap.size w3).drew).trans (hb4.mono (((Below.refl w3.heap.size w3).drew).size))) (some g))⟩
      ·go_simp;refine hK.out _ _ trivial (λ hHeld=>?_);clear hK K
       try simp only [pU]
       refine aV 1 37 rfl (λ K hK=>?_);go_simp;refine (HNM.out _ (((Below.refl w3.heap.size w3).drew.alloc (Nat.le_refl _) (.cells #[Zi Zq k9,Zi Zq k19,Zi Zq n19,Zt s19,Zs A19 na19 ca19,Zs B19 nb19 cb19,Zt s9,Zs A29 n29 ca29] 45)))).mono ?_;rintro e w4 ⟨rfl,hb4⟩;rw [HR.out];exact ⟨rfl,rfl,af HG2.out (aD ((((Below.refl w3.heap.size w3).drew.alloc (Nat.le_refl _) (.cells #[Zi Zq k9,Zi Zq k19,Zi Zq n19,Zt s19,Zs A19 na19 ca19,Zs B19 nb19 cb19,Zt s9,Zs A29 n29 ca29] 45))).trans (hb4.mono ((((Below.refl w3.heap.size w3).drew.alloc (Nat.le_refl _) (.cells #[Zi Zq k9,Zi Zq k19,Zi Zq n19,Zt s19,Zs A19 na19 ca19,Zs B19 nb19 cb19,Zt s9,Zs A29 n29 ca29] 45))).size))) (some g))⟩
   ·have hs':al T p' [46]=false:=by simpa using hs
    have HR:=aW (show r=.ok x' p' by rw [HRP.out,yZ hT (by rw [HV.out.len];exact hpn),if_neg hs]);have HTN:=aW (fp [46] wr g A nT cap T p' HVP.out hpn HP.out.2 hs');clear hs hs';go_wp2_with (first | (go_at_call 139;refine HTN.out.mono ?_;rintro e w3 ⟨rfl,hb3⟩;obtain ⟨y0,y1,y2⟩:=(HYP.out.keep hb3).rules;obtain ⟨z0,z1,z2⟩:=(HXP.out.keep hb3).rules) | ((with_reducible refine bodyPost_ret (v:=.agg #[Zi Zq k9,Zi Zq k19,Zi Zq n19,Zt s19,Zs A19 na19 ca19,Zs B19 nb19 cb19,Zt s9,Zs A29 n29 ca29]) ?_ rfl ?_);(simp only [results,Tryz.results171];go_simp)));rw [HR.out];refine cu HV.out (HVP.out.keep hb3) (af HGP.out (aD hb3 (some g))) (HXP.out.keep hb3) _ _ _ _ _ _ _ _ ?_;exact ((HEP.out.bel hb3).keep (jj (λ k hk=>by have:=hk.1;omega) ah.refl _ _ _ _ _ _ _ _)).mono λ k _ hk=>by have:=hk.1;unfold NW;omega
def AB (o:Option Int) (p' pn:Nat) (t':List UInt8) (k l':Int):Prop:=match o with
 | none=>pn=p'/\t'=[]/\k=0/\l'=0
 | some k0=>pn=p'+1/\k=k0/\ofJ k0=(t',k,l')
theorem tQ.out9 {o:Option Int} {g:Nat} {A:Option Addr} {nT cap:Nat} {T:List ak} {p:Nat} {W:World} {e:Ending} {W':World} (hk:∀ k,o=some k->5<=k/\k<=15) (hV:VP W g A nT cap T p) (h:tQ o g A nT cap T p W e W') :
  ∃ (t':List UInt8) (k l':Int) (pn:Nat),e=.returned (.agg #[Zt ⟨t'.toArray⟩,Zi Zq k,Zi Zq l'])/\AB o p pn t' k l'/\VP W' g A nT cap T pn/\W.grownBy W' (some g):=by
 cases o with
 |none =>
  obtain ⟨h1,h2⟩:=h;exact ⟨[],0,0,p,h1,⟨rfl,rfl,rfl,rfl⟩,hV.keep h2,aD h2 _⟩
 |some k =>
  obtain ⟨h1,h2,h3⟩:=h;obtain ⟨t',l',ho,_⟩:=se (hk k rfl);rw [ho] at h1;exact ⟨t',k,l',p+1,h1,⟨rfl,rfl,ho⟩,h2,h3⟩
theorem x8 {w W:World} {r:Option Nat} (h:w.grownBy W r) {b:Nat} (hb:w.heap.size<=b) (x y z:Value):w.grownBy (((W.setCell ⟨b,0,none⟩ x).setCell ⟨b,1,none⟩ y).setCell ⟨b,2,none⟩ z) r :=
 dG (dG (dG h ⟨b,0,none⟩ x hb) ⟨b,1,none⟩ y hb) ⟨b,2,none⟩ z hb
theorem uN (g:Nat) (A:Option Addr) (nT cap:Nat) (T:List ak) (N:Nat) (hT:WT T) (hE:pK g A nT cap T N) (lvl p:Nat) (q:Int) (w:World) (hV:VP w g A nT cap T p) (h37:¬ (lvl=3∨lvl=7)) (h8:¬ 8<=lvl) (h1:1<=lvl) (hp:p<nT) (hn:nT<=1000) (hq:q=lvl) (hN:12*(nT-p)+(10-lvl)<=N+1) :
  Calls Tryz.prog 171 #[Zp (some ⟨g,0,none⟩),Zi Zq q] w (dH (eE T lvl p) g A nT cap T w):=by
 obtain ⟨r,hr⟩:∃ r,eE T lvl p=r:=⟨_,rfl⟩
 have HR0:=aW (show r=(match eE T (lvl+1) p with | .ok x q=>eB T lvl x q | .bad q=>.bad q) by rw [← hr];exact zB hT h37 h8 (by rw [hV.len];exact hp));rw [hr];have q3:(q == 3)=false:=by rw [beq_eq_false_iff_ne];omega
 have q7:(q == 7)=false:=by rw [beq_eq_false_iff_ne];omega
 have q8:(q == 8)=false:=by rw [beq_eq_false_iff_ne];omega
 have hqw:IntKind.i64.wrap (q+1)=q+1:=by rw [IntKind.wrap_i64];omega
 have HCA:=aW (λ (W:World) (h:Below w.heap.size w W)=>hE (lvl+1) p (q+1) W (hV.keep h) (by omega) (by omega) hp (by omega) (by omega));have hgl:=hV.blk.lt;have hxg:w.heap.size≠g:=by omega
 have HV:=aW hV;have HP:=aW (And.intro hp hn);have HE:=aW (λ (p':Nat) (W:World) (h:VP W g A nT cap T p') (h1:p<=p') (h2:p'<nT)=>hE (lvl+1) p' (q+1) W h (by omega) (by omega) h2 (by omega) (by omega));have HNX:=aW (λ (p':Nat) (W:World) (h:VP W g A nT cap T p') (h1:p'<nT)=>(xq lvl q W g A nT cap T p' h h1 hn hq (by omega)).mono λ e W' hnx=>tQ.out9 (λ k hk=>gG hk) h hnx);have HB:=aW (λ (x:EJ) (p':Nat) (h:p'<T.length)=>AN hT (lvl:=lvl) (x:=x) (by omega) h);have HQ:=aW hq;obtain ⟨r1,hr1⟩:∃ r1,eE T (lvl+1) p=r1:=⟨_,rfl⟩
 rw [hr1] at HCA HR0;have HR1:=aW hr1;have hq6:q<=6/\1<=q:=by omega
 clear hV hr hE hp hn hN hr1 h37 h8 h1 hq;have HB0:=aW ((Below.refl w.heap.size w).alloc (Nat.le_refl _) (.cells #[Zi Zq 0,Zi Zq 0,Zi Zq 0,Zt ⟨#[]⟩,Zs none 0 0,Zs none 0 0,Zt ⟨#[]⟩,Zs none 0 0] 45));have HX0:=aW (Blk.new w 45 #[Zi Zq 0,Zi Zq 0,Zi Zq 0,Zt ⟨#[]⟩,Zs none 0 0,Zs none 0 0,Zt ⟨#[]⟩,Zs none 0 0]);cases r1 with
 |bad q1 =>
  have HR:=aW (show r=.bad q1 from HR0.out);rw [HR.out];unfold dH aL at HCA ⊢;go_enter Tryz.func171,Tryz.ntmps171;go_wp2_with fail;refine (HCA.out _ HB0.out).mono ?_;rintro e w1 ⟨rfl,hg1⟩;go_wp2;exact ⟨rfl,rfl,af (aD HB0.out (some g)) hg1⟩
 |ok x q1 =>
  have HR2:=aW (show r=eB T lvl x q1 from HR0.out);have hq1:=d8 hT (by rw [HV.out.len];exact HP.out.1) HR1.out;rw [HV.out.len] at hq1;unfold dH at HCA;go_enter Tryz.func171,Tryz.ntmps171;go_wp2_with fail;refine (HCA.out _ HB0.out).mono ?_;rintro e w1 ⟨cs,rfl,he1,hv1,hg1⟩;obtain ⟨k9,k19,n19,s19,A19,na19,ca19,B19,nb19,cb19,s9,A29,n29,ca29,rfl⟩:=he1.form;have HX1:=aW (HX0.out.grown hg1 (by simpa using hxg));have HG1:=aW (af (aD HB0.out (some g)) hg1);have hs1:w.heap.size<w1.heap.size:=HX1.out.lt;obtain ⟨YB,hYB⟩:∃ y,w1.heap.size=y:=⟨_,rfl⟩
  have HY1:=aW (Blk.new w1 45 #[Zi Zq k9,Zi Zq k19,Zi Zq n19,Zt s19,Zs A19 na19 ca19,Zs B19 nb19 cb19,Zt s9,Zs A29 n29 ca29]);obtain ⟨W2,hW2⟩:∃ W',w1.alloc (.cells #[Zi Zq k9,Zi Zq k19,Zi Zq n19,Zt s19,Zs A19 na19 ca19,Zs B19 nb19 cb19,Zt s9,Zs A29 n29 ca29] 45)=W':=⟨_,rfl⟩
  have hb2:Below w1.heap.size w1 W2:=by rw [← hW2];exact (Below.refl _ w1).alloc (Nat.le_refl _) _
  have HW2:=aW hW2;rw [hW2,hYB] at HY1;have HYL:=aW (show w.heap.size<YB by omega);have hyg:YB≠g:=by omega
  have hyx:w.heap.size≠YB:=by omega
  have HE2:=aW (show ER W2 (λ b=>w.heap.size<b/\b≠YB) [Zi Zq k9,Zi Zq k19,Zi Zq n19,Zt s19,Zs A19 na19 ca19,Zs B19 nb19 cb19,Zt s9,Zs A29 n29 ca29] x from (he1.mono (F':=λ b=>w.heap.size<b/\b≠YB) λ b hb hF=>by
   have h9:w.heap.size+1<=b:=by unfold NW at hF;simpa using hF
   omega).bel hb2)
  have HV2:=aW (hv1.keep hb2);have HX2:=aW (HX1.out.keep hb2);have HG2:=aW (af HG1.out (aD hb2 (some g)));clear hv1 hg1 he1 hW2 hb2;go_wp2_with fail;rw [HW2.out]
  try rw [hYB]
  refine (HNX.out q1 W2 HV2.out hq1.2).mono ?_;rintro e w3 ⟨t',k,l',pn,rfl,hnq,hv3,hg3⟩;clear HW2 HX1 HG1 HCA HR0;have HV3:=aW hv3;have HX3:=aW (HX2.out.grown hg3 (by simpa using hxg));have HY3:=aW (HY1.out.grown hg3 (by simpa using hyg));have HE3:=aW (HE2.out.keep (ah.of_grown hg3 λ k hk e=>by injection e with e;have:=hk.1;omega));have HG3:=aW (af HG2.out hg3);have HNQ:=aW hnq;have hY3:YB<w3.heap.size:=HY3.out.lt;obtain ⟨OB,hOB⟩:∃ y,w3.heap.size=y:=⟨_,rfl⟩
  obtain ⟨W4,hW4⟩:∃ W',w3.alloc (.cells #[Zt ⟨t'.toArray⟩,Zi Zq k,Zi Zq l'] 154)=W':=⟨_,rfl⟩
  have hb4:Below w3.heap.size w3 W4:=by rw [← hW4];exact (Below.refl _ w3).alloc (Nat.le_refl _) _
  have HO4:=aW (show Blk W4 OB 154 #[Zt ⟨t'.toArray⟩,Zi Zq k,Zi Zq l'] by rw [← hW4,← hOB];exact Blk.new _ _ _);have HV4:=aW (hv3.keep hb4);have HX4:=aW (HX3.out.keep hb4);have HY4:=aW (HY3.out.keep hb4);have HE4:=aW (HE3.out.bel hb4);have HG4:=aW (af HG3.out (aD hb4 (some g)));have HOY:=aW (show YB<OB by omega);have HW4:=aW hW4;clear hv3 hg3 hnq hb4 hW4 HV3 HX3 HY3 HE3 HG3 HV2 HX2 HY1 HE2 HG2;go_wp2_with fail;rw [HW4.out]
  try rw [hOB]
  clear HW4 hOB hY3 hYB;go_loopg [8] (nT-q1) (λ gk s8 wr => ∃ (p' pn OB:Nat) (x':EJ) (t':List UInt8) (k l':Int) (k9 k19 n19:Int) (s19:ByteArray) (A19:Option Addr) (na19 ca19:Nat) (B19:Option Addr) (nb19 cb19:Nat) (s9:ByteArray) (A29:Option Addr) (n29 ca29:Nat),s8=Zp (some ⟨OB,0,none⟩)/\p<=p'/\p'<nT/\YB<OB/\gk=nT-p' /\
   Hid (AB (dx T lvl p') p' pn t' k l')/\Hid (r=eB T lvl x' p')/\Hid (VP wr g A nT cap T pn)/\Hid (Blk wr w.heap.size 45 #[Zi Zq 0,Zi Zq 0,Zi Zq 0,Zt ⟨#[]⟩,Zs none 0 0,Zs none 0 0,Zt ⟨#[]⟩,Zs none 0 0])/\Hid (Blk wr YB 45 #[Zi Zq k9,Zi Zq k19,Zi Zq n19,Zt s19,Zs A19 na19 ca19,Zs B19 nb19 cb19,Zt s9,Zs A29 n29 ca29])/\Hid (Blk wr OB 154 #[Zt ⟨t'.toArray⟩,Zi Zq k,Zi Zq l']) /\
   Hid (ER wr (λ b=>w.heap.size<b/\b≠YB) [Zi Zq k9,Zi Zq k19,Zi Zq n19,Zt s19,Zs A19 na19 ca19,Zs B19 nb19 cb19,Zt s9,Zs A29 n29 ca29] x')/\Hid (w.grownBy wr (some g)))
  case atStart=>exact ⟨q1,pn,OB,x,t',k,l',k9,k19,n19,s19,A19,na19,ca19,B19,nb19,cb19,s9,A29,n29,ca29,rfl,Nat.le_of_lt hq1.1,hq1.2,HOY.out,rfl,HNQ,HR2,HV4,HX4,HY4,HO4,HE4,HG4⟩
  case round =>
   clear HV4 HX4 HY4 HO4 HE4 HG4 HNQ HOY HR2;obtain ⟨p',pn,OB,x',t',k,l',k9,k19,n19,s19,A19,na19,ca19,B19,nb19,cb19,s9,A29,n29,ca29,rfl,hpp,hpn,hoyl,hgk,HNQ,HRP,HV2,HXP,HY2,HO2,HEP,HG2⟩:=hrel;have HGK:=aW hgk;have hn9:=HP.out.2;have hog:OB≠g:=by have:=HYL.out;omega
   have hoy:OB≠YB:=by omega
   have hox:OB≠w.heap.size:=by have:=HYL.out;omega
   clear hgk;have hg:=HV2.out.goe;have hg0:=hg.c0;have hg1:=hg.c1;have hg2:=hg.c2;obtain ⟨o0,o1,o2⟩:=HO2.out.rules;clear hg;obtain ⟨oo,hoo⟩:∃ o,dx T lvl p'=o:=⟨_,rfl⟩
   have hrp:=HRP.out;rw [HB.out x' p' (by rw [HV.out.len];exact hpn),hoo] at hrp;rw [hoo] at HNQ;cases oo with
   |none =>
    obtain ⟨rfl,rfl,rfl,rfl⟩:=HNQ.out;have HR:=aW (show r=.ok x' pn from hrp);obtain ⟨y0,y1,y2⟩:=HY2.out.rules;obtain ⟨z0,z1,z2⟩:=HXP.out.rules;clear hrp hoo;go_wp2_with ((with_reducible refine bodyPost_ret (v:=.agg #[Zi Zq k9,Zi Zq k19,Zi Zq n19,Zt s19,Zs A19 na19 ca19,Zs B19 nb19 cb19,Zt s9,Zs A29 n29 ca29]) ?_ rfl ?_);(simp only [results,Tryz.results171];go_simp));rw [HR.out];refine cu HV.out HV2.out HG2.out HXP.out _ _ _ _ _ _ _ _ ?_;exact (HEP.out.keep (jj (λ k hk=>by have:=hk.1;omega) ah.refl _ _ _ _ _ _ _ _)).mono λ k _ hk=>by have:=hk.1;unfold NW;omega
   |some k0 =>
    obtain ⟨rfl,rfl,hof⟩:=HNQ.out;have hkk:=gG hoo;have ea:(k == 0)=false:=by rw [beq_eq_false_iff_ne];omega
    have hp1:p'+1<nT:=by have h9:=hT.next (p:=p') (by rw [HV.out.len];exact hpn) (fD hoo);rw [HV.out.len] at h9;exact h9
    obtain ⟨r2,hr2⟩:∃ r2,eE T (lvl+1) (p'+1)=r2:=⟨_,rfl⟩
    have HCE:=aW (λ (W:World) (h:VP W g A nT cap T (p'+1))=>HE.out (p'+1) W h (by omega) hp1);simp only at hrp;rw [hr2] at HCE hrp;have HR2:=aW hr2;have HRR:=aW hrp;clear hoo hof hr2 hrp hkk;cases r2 with
    |bad q2 =>
     have HR:=aW (show r=.bad q2 from HRR.out);go_upto_region 17 with fail;refine wp_region_held_drew (S:=λ w'=>w'.cell? ⟨OB,1,none⟩=some (Zi Zq k)) (by kernel_rfl) (by exact (HO2.out.cell 1).trans rfl) (λ hHeld=>?_);refine tA 0 55 (Zp (some ⟨OB,1,none⟩)) rfl ?_;refine tA 1 56 (Zi Zq k) rfl ?_;refine tA 3 58 (Zp (some ⟨g,0,none⟩)) rfl ?_;refine tA 4 59 (Zi Zq q) rfl ?_;refine tA 5 60 (Zi Zq (q+1)) rfl ?_;refine wpAnyH_ready (rs:=[2,6]) (by kernel_rfl) (by simp) ?_;refine AllReadyH.cons (o:=⟨some 57,_,_,_,_,_⟩) rfl (λ K hK=>?_) (AllReadyH.cons (o:=⟨some 61,_,_,_,_,_⟩) rfl (λ K hK=>?_) AllReadyH.nil)
     ·obtain ⟨y0,y1,y2⟩:=HY2.out.rules;go_simp;refine hK.out _ _ ((HO2.out.cell 1).trans rfl) (λ hHeld=>?_);clear hK K y0 y1 y2
      try simp only [pU]
      refine aV 6 61 rfl (λ K hK=>?_);go_simp;refine (HCE.out _ (HV2.out.keep ((Below.refl _ _).drew))).mono ?_;unfold dH aL;rintro e w4 ⟨rfl,hg4⟩;rw [HR.out];exact ⟨rfl,rfl,af HG2.out (af (aD ((Below.refl wr.heap.size wr).drew) (some g)) hg4)⟩
     ·go_simp;refine (HCE.out _ (HV2.out.keep ((Below.refl _ _).drew))).mono ?_;unfold dH aL;rintro e w4 ⟨rfl,hg4⟩;rw [HR.out];exact ⟨rfl,rfl,af HG2.out (af (aD ((Below.refl wr.heap.size wr).drew) (some g)) hg4)⟩
    |ok y q2 =>
     have hq2:=d8 hT (by rw [HV.out.len];exact hp1) HR2.out;rw [HV.out.len] at hq2;have HRQ:=aW (show r=if lvl=4 then .ok (eOp k [x',y]) q2 else eB T lvl (eOp k [x',y]) q2 from HRR.out);unfold dH at HCE;go_upto_region 17 with fail;clear hg0 hg1 hg2 o0 o1 o2;apply tB (R:=λ k7 k17 n17 s17 A17 na17 ca17 B17 nb17 cb17 s7 A27 n27 ca27 Z=>ER Z (NW wr.drew) [Zi Zq k7,Zi Zq k17,Zi Zq n17,Zt s17,Zs A17 na17 ca17,Zs B17 nb17 cb17,Zt s7,Zs A27 n27 ca27] y/\VP Z g A nT cap T q2/\wr.drew.grownBy Z (some g))
     case h =>
      intro HL;refine wp_region_held_drew (S:=λ w'=>w'.cell? ⟨OB,1,none⟩=some (Zi Zq k)) (by kernel_rfl) (by exact (HO2.out.cell 1).trans rfl) (λ hHeld=>?_);refine tA 0 55 (Zp (some ⟨OB,1,none⟩)) rfl ?_;refine tA 1 56 (Zi Zq k) rfl ?_;refine tA 3 58 (Zp (some ⟨g,0,none⟩)) rfl ?_;refine tA 4 59 (Zi Zq q) rfl ?_;refine tA 5 60 (Zi Zq (q+1)) rfl ?_;refine wpAnyH_ready (rs:=[2,6]) (by kernel_rfl) (by simp) ?_;refine AllReadyH.cons (o:=⟨some 57,_,_,_,_,_⟩) rfl (λ K hK=>?_) (AllReadyH.cons (o:=⟨some 61,_,_,_,_,_⟩) rfl (λ K hK=>?_) AllReadyH.nil)
      ·obtain ⟨y0,y1,y2⟩:=HY2.out.rules;go_simp;refine hK.out _ _ ((HO2.out.cell 1).trans rfl) (λ hHeld=>?_);clear hK K y0 y1 y2
       try simp only [pU]
       refine aV 6 61 rfl (λ K hK=>?_);go_simp;refine (HCE.out _ (HV2.out.keep ((Below.refl _ _).drew))).mono ?_;unfold dH;rintro e w4 ⟨cs,rfl,he4,hv4,hg4⟩;obtain ⟨k7,k17,n17,s17,A17,na17,ca17,B17,nb17,cb17,s7,A27,n27,ca27,rfl⟩:=he4.form;have HR4:=aW (And.intro he4 (And.intro hv4 hg4));have HO4:=aW ((HO2.out.drew).grown hg4 (by simp [hog]));have HYC:=aW ((HY2.out.drew).grown hg4 (by simp [hyg]));clear he4 hv4 hg4;refine hK.out _ _ ((HO4.out.cell 1).trans rfl) (λ hHeld=>?_);clear hK K
       try simp only [pU]
       refine dB (l':=#[true,true,true,true,true,true,true,false,false,false]) (by kernel_rfl) ?_;exact HL _ _ _ _ _ _ _ _ _ _ _ _ _ _ _ HR4.out
      ·go_simp;refine (HCE.out _ (HV2.out.keep ((Below.refl _ _).drew))).mono ?_;unfold dH;rintro e w4 ⟨cs,rfl,he4,hv4,hg4⟩;obtain ⟨k7,k17,n17,s17,A17,na17,ca17,B17,nb17,cb17,s7,A27,n27,ca27,rfl⟩:=he4.form;have HR4:=aW (And.intro he4 (And.intro hv4 hg4));have HO4:=aW ((HO2.out.drew).grown hg4 (by simp [hog]));have HYC:=aW ((HY2.out.drew).grown hg4 (by simp [hyg]));clear he4 hv4 hg4;refine hK.out _ _ ((HO4.out.cell 1).trans rfl) (λ hHeld=>?_);clear hK K
       try simp only [pU]
       refine aV 2 57 rfl (λ K hK=>?_);obtain ⟨y0,y1,y2⟩:=HYC.out.rules;go_simp;refine hK.out _ _ ((HO4.out.cell 1).trans rfl) (λ hHeld=>?_);clear hK K y0 y1 y2
       try simp only [pU]
       refine dB (l':=#[true,true,true,true,true,true,true,false,false,false]) (by kernel_rfl) ?_;exact HL _ _ _ _ _ _ _ _ _ _ _ _ _ _ _ HR4.out
     case hleaf =>
      rintro k7 k17 n17 s17 A17 na17 ca17 B17 nb17 cb17 s7 A27 n27 ca27 Z ⟨he4,hv4,hg4⟩;have hZL:=hg4.size;have HO4:=aW ((HO2.out.drew).grown hg4 (by simp [hog]));have HY4:=aW ((HY2.out.drew).grown hg4 (by simp [hyg]));have HX4:=aW ((HXP.out.drew).grown hg4 (by simp [hxg]));have HG4:=aW (af HG2.out (af (aD ((Below.refl wr.heap.size wr).drew) (some g)) hg4));have HEX:=aW (HEP.out.keep (ah.of_grown (af (aD ((Below.refl wr.heap.size wr).drew) (some g)) hg4) λ k hk e=>by injection e with e;have:=hk.1;omega));have HEY:=aW (he4.mono (F':=λ b=>w.heap.size<b/\b≠YB) λ b hb hF=>by
       have h9:wr.heap.size<=b:=hF;have:=HO2.out.lt;have:=HYL.out;omega)
      have HV4:=aW hv4;have HZL:=aW (show wr.heap.size<=Z.heap.size from hZL);have HOL:=aW HO2.out.lt;have hHeld:Z.cell? ⟨OB,1,none⟩=some (Zi Zq k):=(HO4.out.cell 1).trans rfl;clear he4 hv4 hg4 hZL;refine aV 7 62 rfl (λ K hK=>?_);go_simp;have HO5:=aW (HO4.out.alloc (.cells #[Zi Zq k9,Zi Zq k19,Zi Zq n19,Zt s19,Zs A19 na19 ca19,Zs B19 nb19 cb19,Zt s9,Zs A29 n29 ca29,Zi Zq k7,Zi Zq k17,Zi Zq n17,Zt s17,Zs A17 na17 ca17,Zs B17 nb17 cb17,Zt s7,Zs A27 n27 ca27] 45));refine hK.out _ _ ((HO5.out.cell 1).trans rfl) (λ hHeld=>?_);clear hK K
      try simp only [pU]
      obtain ⟨b5,hb5⟩:∃ b,Z.heap.size=b:=⟨_,rfl⟩
      have HB5:=aW (Blk.new Z 45 #[Zi Zq k9,Zi Zq k19,Zi Zq n19,Zt s19,Zs A19 na19 ca19,Zs B19 nb19 cb19,Zt s9,Zs A29 n29 ca29,Zi Zq k7,Zi Zq k17,Zi Zq n17,Zt s17,Zs A17 na17 ca17,Zs B17 nb17 cb17,Zt s7,Zs A27 n27 ca27]);refine gm (λ Y hY=>?_);have HYZ:=aW (show Below Z.heap.size Z Y by rw [hY];exact (Below.refl _ Z).alloc (Nat.le_refl _) _);rw [← hY,hb5] at HB5;rw [← hY] at HO5;rw [← hY] at hHeld;rw [hb5];clear hY;refine tA 8 63 (.agg #[Zi Zq k,Zi Zq 0,Zi Zq 0,Zt ⟨#[]⟩,Zs none 0 0,Zs none 0 0,Zt ⟨#[]⟩,Zs (some ⟨b5,0,none⟩) 2 2]) rfl ?_;refine aU 9 rfl (λ K hK=>?_);have HY5:=aW (HY4.out.keep HYZ.out);obtain ⟨y0,y1,y2⟩:=HY5.out.rules;go_simp;refine hK.out _ _ ((Blk.cell (Blk.far8 HO5.out hoy _ _ _ _ _ _ _ _) 1).trans rfl) (λ hHeld2=>?_);clear hK K hHeld hHeld2 y0 y1 y2
      try simp only [pU]
      refine aX ?_;have hby:b5≠YB:=by have:=HOL.out;have:=HZL.out;omega
      have hb5l:w.heap.size<b5:=by have:=HOL.out;have:=HZL.out;have:=HYL.out;omega
      obtain ⟨W9,hW9⟩:∃ W',((((((((Y.setCell ⟨YB,0,none⟩ (Zi Zq k)).setCell ⟨YB,1,none⟩ (Zi Zq 0)).setCell ⟨YB,2,none⟩ (Zi Zq 0)).setCell ⟨YB,3,none⟩ (Zt ⟨#[]⟩)).setCell ⟨YB,4,none⟩ (Zs none 0 0)).setCell ⟨YB,5,none⟩ (Zs none 0 0)).setCell ⟨YB,6,none⟩ (Zt ⟨#[]⟩)).setCell ⟨YB,7,none⟩ (Zs (some ⟨b5,0,none⟩) 2 2))=W':=⟨_,rfl⟩
      rw [hW9];have hg9:w.grownBy W9 (some g):=by rw [← hW9];exact jR (af HG4.out (aD HYZ.out _)) (Nat.le_of_lt HYL.out) _ _ _ _ _ _ _ _
      have HV9:=aW (show VP W9 g A nT cap T q2 from HV.out.step hg9 (by rw [← hW9];exact Blk.far8 (HV4.out.keep HYZ.out).blk (Ne.symm hyg) _ _ _ _ _ _ _ _));have HX9:=aW (show Blk W9 w.heap.size 45 #[Zi Zq 0,Zi Zq 0,Zi Zq 0,Zt ⟨#[]⟩,Zs none 0 0,Zs none 0 0,Zt ⟨#[]⟩,Zs none 0 0] by rw [← hW9];exact Blk.far8 (HX4.out.keep HYZ.out) hyx _ _ _ _ _ _ _ _);have HY9:=aW (show Blk W9 YB 45 #[Zi Zq k,Zi Zq 0,Zi Zq 0,Zt ⟨#[]⟩,Zs none 0 0,Zs none 0 0,Zt ⟨#[]⟩,Zs (some ⟨b5,0,none⟩) 2 2] by rw [← hW9];exact HY5.out.set8C _ _ _ _ _ _ _ _);have HO9:=aW (show Blk W9 OB 154 #[Zt ⟨t'.toArray⟩,Zi Zq k,Zi Zq l'] by rw [← hW9];exact Blk.far8 HO5.out hoy _ _ _ _ _ _ _ _);have HE9:=aW (show ER W9 (λ b=>w.heap.size<b/\b≠YB) [Zi Zq k,Zi Zq 0,Zi Zq 0,Zt ⟨#[]⟩,Zs none 0 0,Zs none 0 0,Zt ⟨#[]⟩,Zs (some ⟨b5,0,none⟩) 2 2] (eOp k [x',y]) by
       have hk8:=jj (F:=λ b=>w.heap.size<b/\b≠YB) (a:=Y) (w:=Y) (b:=YB) (λ k hk=>hk.2) ah.refl (Zi Zq k) (Zi Zq 0) (Zi Zq 0) (Zt ⟨#[]⟩) (Zs none 0 0) (Zs none 0 0) (Zt ⟨#[]⟩) (Zs (some ⟨b5,0,none⟩) 2 2);have hx9:=(HEX.out.bel HYZ.out).keep hk8;have hy9:=(HEY.out.bel HYZ.out).keep hk8;have hb9:=Blk.far8 HB5.out hby (Zi Zq k) (Zi Zq 0) (Zi Zq 0) (Zt ⟨#[]⟩) (Zs none 0 0) (Zs none 0 0) (Zt ⟨#[]⟩) (Zs (some ⟨b5,0,none⟩) 2 2);rw [hW9] at hx9 hy9 hb9;exact ER.into (s:=[]) (kids:=[x',y]) (css:=[[Zi Zq k9,Zi Zq k19,Zi Zq n19,Zt s19,Zs A19 na19 ca19,Zs B19 nb19 cb19,Zt s9,Zs A29 n29 ca29],[Zi Zq k7,Zi Zq k17,Zi Zq n17,Zt s17,Zs A17 na17 ca17,Zs B17 nb17 cb17,Zt s7,Zs A27 n27 ca27]]) VR.zero (RR.snoc (RR.snoc RR.nil hx9) hy9) rfl (by simp) (λ h=>by cases h) (RdF.of_blk9 hb9 ⟨hb5l,hby⟩))
      have HG9:=aW hg9;clear hW9 hg9 HO4 HY4 HX4 HG4 HEX HEY HV4 HZL HB5 HO5 HY5 HYZ;by_cases h4:lvl=4
      ·have q4:(q == 4)=true:=by rw [beq_iff_eq];have:=HQ.out;omega
       have HR:=aW (show r=.ok (eOp k [x',y]) q2 by rw [HRQ.out,if_pos h4]);obtain ⟨y0,y1,y2⟩:=HY9.out.rules;obtain ⟨z0,z1,z2⟩:=HX9.out.rules;clear h4;go_wp2_with ((with_reducible refine bodyPost_ret (v:=.agg #[Zi Zq k,Zi Zq 0,Zi Zq 0,Zt ⟨#[]⟩,Zs none 0 0,Zs none 0 0,Zt ⟨#[]⟩,Zs (some ⟨b5,0,none⟩) 2 2]) ?_ rfl ?_);(simp only [results,Tryz.results171];go_simp));rw [HR.out];refine cu HV.out HV9.out HG9.out HX9.out _ _ _ _ _ _ _ _ ?_;exact (HE9.out.keep (jj (λ k hk=>by have:=hk.1;omega) ah.refl _ _ _ _ _ _ _ _)).mono λ k _ hk=>by have:=hk.1;unfold NW;omega
      ·have q4:(q == 4)=false:=by rw [beq_eq_false_iff_ne];have:=HQ.out;omega
       have HR:=aW (show r=eB T lvl (eOp k [x',y]) q2 by rw [HRQ.out,if_neg h4]);clear h4;obtain ⟨y0,y1,y2⟩:=HO9.out.rules;go_wp2_with fail;refine (HNX.out q2 _ (HV9.out.keep ((Below.refl _ W9).alloc (Nat.le_refl _) _)) hq2.2).mono ?_;rintro e w11 ⟨t'',k'',l'',pn',rfl,hnq,hv11,hg11⟩;have hOL9:=HO9.out.lt;have hYL9:=HY9.out.lt;have hb10:Below W9.heap.size W9 (W9.alloc (.cells #[Zt ⟨t'.toArray⟩,Zi Zq k,Zi Zq l'] 154)):=(Below.refl _ W9).alloc (Nat.le_refl _) _;have h9g:W9.heap.size≠g:=by have:=HYL.out;omega
       have HO11:=aW ((Blk.new W9 154 #[Zt ⟨t'.toArray⟩,Zi Zq k,Zi Zq l']).grown hg11 (by simpa using h9g));have HV11:=aW hv11;have HG11:=aW (af HG9.out (af (aD hb10 (some g)) hg11));have HX11:=aW ((HX9.out.keep hb10).grown hg11 (by simpa using hxg));have HY11:=aW ((HY9.out.keep hb10).grown hg11 (by simpa using hyg));have HE11:=aW (((HE9.out.mono (F':=λ b=>(w.heap.size<b/\b≠YB)/\b≠W9.heap.size) λ b hb hF=>⟨hF,Nat.ne_of_lt hb⟩).bel hb10).keep (ah.of_grown hg11 λ k hk e=>by injection e with e;have:=hk.1.1;omega));have HNQ11:=aW hnq;have hw9:w.heap.size<W9.heap.size:=by have:=HYL.out;omega
       have HW9:=aW (And.intro hw9 hYL9);obtain ⟨z0,z1,z2⟩:=HO11.out.rules;clear hnq hv11 hg11 hb10 y0 y1 y2 hOL9 hYL9 hw9;obtain ⟨OB2,hOB2⟩:∃ b,W9.heap.size=b:=⟨_,rfl⟩
       rw [hOB2] at z0 z1 z2 HO11 HW9 HE11 h9g ⊢;go_wp2;have hgz:=x8 HG11.out (Nat.le_of_lt HW9.out.1) (Zt ⟨t''.toArray⟩) (Zi Zq k'') (Zi Zq l'');go_roundg (nT-q2)
       case measure=>have:=HGK.out;omega
       case rel =>
        refine ⟨q2,pn',OB2,eOp k [x',y],t'',k'',l'',k,0,0,⟨#[]⟩,none,0,0,none,0,0,⟨#[]⟩,some ⟨b5,0,none⟩,2,2,rfl,by omega,hq2.2,HW9.out.2,rfl,HNQ11,HR,aW (HV.out.step hgz (Blk.far3 HV11.out.blk (Ne.symm h9g) _ _ _)),aW (Blk.far3 HX11.out (Nat.ne_of_lt HW9.out.1) _ _ _),aW (Blk.far3 HY11.out (Nat.ne_of_lt HW9.out.2) _ _ _),aW (((HO11.out.set_ 0 _).set_ 1 _).set_ 2 _),aW ?_,aW hgz⟩;exact (HE11.out.keep (((ah.refl.set (λ k hk=>hk.2) 0 _).set (λ k hk=>hk.2) 1 _).set (λ k hk=>hk.2) 2 _)).mono λ b _ hb=>hb.1
theorem pG (g:Nat) (A:Option Addr) (nT cap:Nat) (T:List ak) (hT:WT T) (hn:nT<=1000):∀ N,pK g A nT cap T N
 | 0=>λ lvl p q W hV h1 h8 hp hq hN=>by omega
 |N+1=>λ lvl p q W hV h1 h8 hp hq hN=>by
  have ih:=pG g A nT cap T hT hn N;by_cases h37:lvl=3∨lvl=7
  ·exact uO g A nT cap T N hT ih lvl p q W hV h37 hp hn hq hN
  ·by_cases h88:8<=lvl
   ·obtain rfl:lvl=8:=by omega
    rw [hq];exact sL g A nT cap T N hT ih p W hV hp hn (by omega)
   ·exact uN g A nT cap T N hT ih lvl p q W hV h37 h88 h1 hp hn hq hN
end
end Go.Proofs.YtgmnmnnoahdjnaaGreatDoor
