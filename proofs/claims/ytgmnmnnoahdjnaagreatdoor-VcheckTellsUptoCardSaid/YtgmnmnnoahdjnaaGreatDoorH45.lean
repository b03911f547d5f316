import Derived.Test.YtgmnmnnoahdjnaaGreatDoorH44
import Derived.Test.YtgmnmnnoahdjnaaGreatDoorH43
open Go.Value renaming int → Zi, slice → Zs, string → Zt, pointer → Zp
open Go.IntKind renaming i64 → Zq
set_option maxRecDepth 100000
set_option maxHeartbeats 16000000
set_option linter.unusedVariables false
set_option linter.unusedSimpArgs false
namespace Go.Proofs.YtgmnmnnoahdjnaaGreatDoor
section
open Go.RowKit
attribute [local go_sem] ab ae af ac
theorem wm {p:List SJ} {A:Option Addr} {n ca:Nat} {W:World} (h:di W A n ca p) (hs:ap p<4194304):Calls Tryz.prog 32 #[.agg #[Zs A n ca]] W (rS (gM p) W):=by
 have HG:=aW (λ (w:World) (hb:Below W.heap.size W w)=>show Calls Tryz.prog 68 #[Zs A n ca,Zs none 0 0,Zs none 0 0] w (rS (gM p) w) from by
  obtain ⟨css,h1,h2,h3,h4⟩:=h.bel hb;have hn:n<=4194304:=by have:=bD p;omega
  rw [← lI];exact tx 4194304 (Nat.le_refl _) p css A n ca [] none 0 0 [] none 0 0 w hs h1 h3 h4 h2 hn rfl (by omega) Rd.nil rfl (by omega) (Nat.le_refl _) (λ _=>rfl) Rd.nil)
 have HH0:=aW ((aH.nil W).push 24 #[Zs A n ca] (g:=W.heap.size) rfl);clear h hs;obtain ⟨c0,f0,l0⟩:=HH0.out.b0.rules;go_enter Tryz.func32,Tryz.ntmps32;go_wp2_with fail;refine (HG.out _ HH0.out.1).mono ?_;rintro e w1 ⟨RA,rn,rc,rfl,h1,h2,h3,h4,hb1⟩;have HE:=aW (HH0.out.1.trans (hb1.mono HH0.out.1.size));have HR:=aW (And.intro h1 (And.intro h3 h4));clear hb1 c0 f0 l0 h1 h3 h4;go_wp2;go_ret;exact ⟨RA,rn,rc,rfl,HR.out.1,h2,HR.out.2.1,HR.out.2.2,HE.out⟩
set_option maxHeartbeats 32000000 in
theorem jP (A0:Option Addr) (ca0:Nat) (p:List SJ) (w:World) (hG:GOE w) (hS0:vP w A0 ca0 p) (hL0:∀ v ∈ p,gW 4194304 v) (hn0:p.length<=4194304) (hm0:ap p<=1048576) :
  Calls Tryz.prog 9 #[.agg #[Zs A0 p.length ca0]] w (λ e w'=>e=.returned (.bool true)/\Below w.heap.size w w'):=by
 obtain ⟨hP,hA0⟩:=ws hS0;have HCM:=aW (qR hL0);have HSM:=aW hm0;obtain ⟨n0,hln0⟩:∃ n,p.length=n:=⟨_,rfl⟩
 rw [hln0] at hP hn0 ⊢;have HP:=aW hP;have HG:=aW (λ (W:World) (h:Below w.heap.size w W)=>hG.keep h);have HWK:=aW (λ (W:World) (hb:Below w.heap.size w W)=>uM W (hG.keep hb));have HH0:=aW ((aH.nil w).push 24 #[Zs A0 n0 ca0] (g:=w.heap.size) rfl);clear hG hS0 hL0 hm0 hln0 hP hA0;go_enter Tryz.func9,Tryz.ntmps9;go_wp2_with fail;refine (HWK.out _ HH0.out.1).mono ?_;rintro e w1 ⟨rfl,hb1⟩;have HH1:=aW (HH0.out.keep hb1);clear hb1 HH0;have HP1:=aW (HP.out.bel HH1.out.1);have HKP:=aW (λ (W:World) (hb:Below w1.heap.size w1 W)=>iB (HP1.out.bel hb) (HG.out _ (HH1.out.1.trans (hb.mono HH1.out.1.size))) HCM.out (by have:=HSM.out;omega));have HKQ:=aW (λ (W:World) (hb:Below w1.heap.size w1 W)=>wl (HP1.out.bel hb) HCM.out (by have:=HSM.out;omega));obtain ⟨e1,he1⟩:∃ z,cX p=z:=⟨_,rfl⟩
 rw [he1] at HKP HKQ;clear he1;go_upto_region 3 with fail;refine wp_region_held_drew (S:=λ W'=>Blk W' w.heap.size 24 #[Zs A0 n0 ca0]) (by kernel_rfl) (by exact HH1.out.b0.drew) (λ hHeld=>?_);refine bA (λ Z0 hw=>?_);have HZ:=aW (show Below w1.heap.size w1 Z0 by rw [hw];exact (Below.refl _ _).drew);have HK:=aW (show ∀ W',Below w1.heap.size w1 W'->Blk W' w.heap.size 24 #[Zs A0 n0 ca0] from λ W' h=>HH1.out.b0.keep h);clear hw hHeld;have hHeld:=HK.out _ HZ.out;refine aY 0 9 (.agg #[Zs A0 n0 ca0]) rfl ?_ ?_
 ·intro W hSw;obtain ⟨c8,f8,l8⟩:=hSw.rules;go_simp
 refine aY 2 11 (.agg #[Zs A0 n0 ca0]) rfl ?_ ?_
 ·intro W hSw;obtain ⟨c8,f8,l8⟩:=hSw.rules;go_simp
 refine aV 1 10 rfl (λ K hK=>?_);go_simp;refine (HKP.out _ HZ.out).mono ?_;rintro e Y1 ⟨rfl,hb⟩;replace HZ:=aW (HZ.out.trans (hb.mono HZ.out.size));clear hb;refine hK.out _ _ (by exact HK.out _ HZ.out) (λ hHeld2=>?_);clear hK K hHeld;have hHeld:=hHeld2;clear hHeld2
 try simp only [pU]
 replace hHeld:=HK.out _ HZ.out;refine aV 3 12 rfl (λ K hK=>?_);go_simp;refine (HKQ.out _ HZ.out).mono ?_;rintro e Y2 ⟨rfl,hb⟩;replace HZ:=aW (HZ.out.trans (hb.mono HZ.out.size));clear hb;refine hK.out _ _ (by exact HK.out _ HZ.out) (λ hHeld2=>?_);clear hK K hHeld;have hHeld:=hHeld2;clear hHeld2
 try simp only [pU]
 replace hHeld:=HK.out _ HZ.out;refine tA 4 13 (.bool (e1 != e1)) rfl ?_;refine aX ?_;have HH3:=aW (HH1.out.keep HZ.out);have HP3:=aW (HP1.out.bel HZ.out);clear hHeld HZ HK HKP HKQ HH1 HP1;have hee:(e1 != e1)=false:=by simp
 obtain ⟨c0,f0,l0⟩:=HH3.out.b0.rules;go_wp2_with fail;refine (sM HP3.out (HG.out _ HH3.out.1) HCM.out (by have:=HSM.out;omega)).mono ?_;rintro e x4 ⟨FA,fn,fc,rfl,hrow,hb⟩;have hfn:fn<=4194304:=by
  have h1:=hrow.1;have:=HSM.out;split at h1
  ·have h2:=nJ p;have h3:=tC (bB [] p);rw [iv] at h1;omega
  ·simp at h1;omega
 have HF:=aW (And.intro hrow.1 (And.intro hrow.2.1 (And.intro hrow.2.2.1 hrow.2.2.2.rd)));have HH4:=aW (HH3.out.keep hb);have HP4:=aW (HP3.out.bel hb);clear hrow hb c0 f0 l0 HH3 HP3 hee;obtain ⟨c0,f0,l0⟩:=HH4.out.b0.rules;go_wp2_with fail;refine (qi HP4.out (HG.out _ HH4.out.1) HCM.out (by have:=HSM.out;omega)).mono ?_;rintro e x5 ⟨rfl,hb⟩;have HH5:=aW (HH4.out.keep hb);have HP5:=aW (HP4.out.bel hb);replace HF:=aW (And.intro HF.out.1 (And.intro HF.out.2.1 (And.intro HF.out.2.2.1 (HF.out.2.2.2.below hb))));clear hb c0 f0 l0 HH4 HP4;have HRG:=aW (sL HP5.out HCM.out (by have:=HSM.out;omega));by_cases hm:ff p=true;rotate_left
 ·have hmf:ff p=false:=by simpa using hm
  rw [show dV p=332 by unfold dV;rw [if_neg hm]];rw [if_neg hm] at HF;rw [if_neg hm];rw [hmf] at HRG;obtain rfl:fn=0:=by have:=HF.out.1;simpa using this.symm
  clear hm hmf HF;obtain ⟨c0,f0,l0⟩:=HH5.out.b0.rules;go_wp2_with fail;refine HRG.out.mono ?_;rintro e x6 ⟨rfl,hb⟩;have HE:=aW (HH5.out.1.trans (hb.mono HH5.out.1.size));clear hb c0 f0 l0;go_wp2;go_ret;exact ⟨rfl,HE.out⟩
 rw [show dV p=0 by unfold dV;rw [if_pos hm]];rw [if_pos hm] at HF;rw [if_pos hm];rw [hm] at HRG;clear hm;obtain ⟨c0,f0,l0⟩:=HH5.out.b0.rules;go_wp2_with fail;refine HRG.out.mono ?_;rintro e x6 ⟨rfl,hb⟩;have HH6:=aW (HH5.out.keep hb);have HP6:=aW (HP5.out.bel hb);replace HF:=aW (And.intro HF.out.1 (And.intro HF.out.2.1 (And.intro HF.out.2.2.1 (HF.out.2.2.2.below hb))));clear hb c0 f0 l0 HH5 HP5 HRG;obtain ⟨d0,hd0⟩:∃ z,dJ p=z:=⟨_,rfl⟩
 have HLO:=aW (λ (W:World) (hb:Below x6.heap.size x6 W)=>show Calls Tryz.prog 33 #[.agg #[Zs A0 n0 ca0]] W (λ e w'=>e=.returned (Zi Zq (d0:Int))/\Below W.heap.size W w') by rw [← hd0];exact wn (HP6.out.bel hb) (by have:=HSM.out;omega));rw [hd0];clear hd0;obtain ⟨c0,f0,l0⟩:=HH6.out.b0.rules;go_wp2_with fail;refine (wm HP6.out (by have:=HSM.out;omega)).mono ?_;rintro e x7 ⟨RA,rn,rc,rfl,hr1,hr2,hr3,hr4,hb⟩;have HH7:=aW (HH6.out.keep hb);have hrn4:rn<=4194304:=by have:=HF.out.1;omega
 have HEQ:=aW (iM FA RA fn rn fc rc (gM p) (gM p) x7 HF.out.1 hr1 (HF.out.2.2.2.below hb) hr4 HF.out.2.1 hr2 hfn hrn4);have HB7:=aW (show Below x6.heap.size x6 x7 from hb);clear hb c0 f0 l0 hr1 hr3 hr4 HF HP6 HH6;go_wp2_with fail;refine HEQ.out.mono ?_;rintro e xE ⟨rfl,q9,hq9⟩;simp only [decide_true];have HHE:=aW (HH7.out.keep (show Below x7.heap.size x7 xE by rw [← hq9];exact ah (Below.refl _ _) q9));have HBE:=aW (show Below x6.heap.size x6 xE by rw [← hq9];exact ah HB7.out q9);clear hq9 HEQ HH7 HB7;obtain ⟨c0,f0,l0⟩:=HHE.out.b0.rules;go_wp2_with fail;refine (HLO.out _ HBE.out).mono ?_;rintro e xF ⟨rfl,hb⟩;have HE:=aW (HHE.out.1.trans (hb.mono HHE.out.1.size));clear hb c0 f0 l0 HHE HBE HLO;go_wp2;go_ret;exact ⟨rfl,HE.out⟩
end
end Go.Proofs.YtgmnmnnoahdjnaaGreatDoor
