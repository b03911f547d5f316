import Derived.Test.YtgmnmnnoahdjnaaGreatDoorQ16
import Derived.Test.YtgmnmnnoahdjnaaGreatDoorQ15
import Derived.Test.YtgmnmnnoahdjnaaGreatDoorQ14
open Go.Value renaming int → Zi, slice → Zs, string → Zt, pointer → Zp
open Go.IntKind renaming i64 → Zq
set_option maxRecDepth 100000
set_option maxHeartbeats 16000000
set_option linter.unusedVariables false
set_option linter.unusedSimpArgs false
namespace Go.Proofs.YtgmnmnnoahdjnaaGreatDoor
section
open Go.RowKit
attribute [local go_sem] aa ac ae ab
theorem yc (s:List UInt8):(ByteArray.toList ⟨s.toArray⟩).isEmpty=(s == []):=by
 rw [ByteArray.toList_eq];cases s<;>rfl
theorem xS (cs:List Value) (k n:Int) (s:List UInt8) (kids:List JV) (keys:List (List UInt8)) (F:Nat->Prop) (w:World) (hv:VR w F cs (.mk k n s kids keys)) (hc:cW (.mk k n s kids keys)) :
  Calls Tryz.prog 214 #[.agg cs.toArray] w (cC (bO k n s kids.length keys) w):=by
 obtain ⟨A,B,ca,cb,css,rfl,h1,h2,h3,h4,h5,h6,h7⟩:=hv.out;obtain ⟨b1,b2,b3,b4,b5,b6,b7⟩:=hc.out;obtain ⟨sb,hsb⟩:∃ sb:ByteArray,(⟨s.toArray⟩:ByteArray)=sb:=⟨_,rfl⟩
 rw [hsb];have HSN:=aW (show sb.toList.isEmpty=(s == []) by rw [← hsb];exact yc s);have HVS:=aW (λ W=>by have h:=m8 s W b3;rw [hsb] at h;exact h);clear hsb;obtain ⟨r,hr⟩:∃ r,bO k n s kids.length keys=r:=⟨_,rfl⟩
 rw [hr];have HK:=aW (show RdF w (λ _=>True) B (jF keys) from h7.mono λ _ _ _=>trivial);have HTS:=aW b6;have HS:=aW b3;obtain ⟨ny,hny⟩:∃ ny,keys.length=ny:=⟨_,rfl⟩
 obtain ⟨nk,hnk⟩:∃ nk,kids.length=nk:=⟨_,rfl⟩
 have HNY:=aW hny;rw [hnk] at hr b4 h2 ⊢;rw [hny] at b5 h3 ⊢;have HR:=aW hr;have hyn:(keys == [])=decide (ny=0):=by rw [← hny];cases keys<;>rfl
 have HYN:=aW hyn;have HBW:=aW ((Below.refl w.heap.size w).alloc (Nat.le_refl _) (.cells #[Zi Zq k,Zi Zq n,Zt sb,Zs A nk ca,Zs B ny cb] 42));clear hv hc h1 h6 h7 hny hnk h4 h5 b1 b2 b3 b6 b7 hr hyn;go_enter Tryz.func214,Tryz.ntmps214;go_wp2;go_loopg [3] ny (λ gk s3 wr => ∃ i:Nat,i<=ny/\gk=ny-i/\s3=Zi Zq i/\Blk wr w.heap.size 42 #[Zi Zq k,Zi Zq n,Zt sb,Zs A nk ca,Zs B ny cb]/\Below w.heap.size w wr/\Hid (cK keys=dH keys i))
 case atStart=>exact ⟨0,Nat.zero_le _,rfl,rfl,Blk.new w _ _,HBW.out,aW (qA keys).symm⟩
 case round =>
  obtain ⟨i,hi,hgk,rfl,hb1,hbw,HQ⟩:=hrel;have HG:=aW hgk;clear hgk;obtain ⟨c1,f1,l1⟩:=hb1.rules;have g4:=c1 4;simp at g4;have HB1:=aW hb1;have HBW1:=aW hbw;by_cases hlt:i<ny
  ·obtain ⟨b,o,rfl,hb⟩:=oM HK.out (by rw [HNY.out];omega);obtain ⟨t,ht⟩:∃ t,keys[i]? = some t:=⟨_,List.getElem?_eq_getElem (by rw [HNY.out];exact hlt)⟩
   have HV:=aW (m8 t wr.drew (HTS.out t (List.mem_of_getElem? ht)));have HC:=aW (λ W (h:Below w.heap.size w W)=>jd (n:=0) (HK.out.keep (ah.of_below h)) ht);have x0:=HC.out wr hbw;have hTT:=aW ht;have hbad:cK keys=false->r=false:=λ h=>by
    rw [← HR.out];unfold bO;have hne:(keys == [])=false:=by rw [HYN.out];simp;omega
    rw [h,hne];simp
   have HBAD:=aW hbad;clear ht hbad;by_cases h0:0<i
   ·obtain ⟨j,rfl⟩:∃ j,i=j+1:=⟨i-1,by omega⟩
    obtain ⟨u,hu⟩:∃ u,keys[j]? = some u:=⟨_,List.getElem?_eq_getElem (by rw [HNY.out];omega)⟩
    have HST:=aW (lh hu hTT.out);have HD:=aW (λ W (h:Below w.heap.size w W)=>jd (n:=0) (HK.out.keep (ah.of_below h)) hu);have x1:=HD.out wr hbw;clear hTT hu;obtain ⟨i,hij⟩:∃ i,j+1=i:=⟨_,rfl⟩
    rw [show j+2=i+1 by omega] at HST;rw [hij] at hi HG hlt HQ HST HC x0 h0 ⊢;have i1:(0:Int)<=(j:Int):=by omega
    have i2:(j:Int)<(ny:Int):=by omega
    have i3:(0:Int)<=(i:Int):=by omega
    have i4:(i:Int)<(ny:Int):=by omega
    have i5:(0:Int)<(i:Int):=by omega
    have i6:IntKind.i64.wrap ((i:Int)-1)=(i:Int)-1:=IntWalk.i64_in _ (by omega);have i8:(0:Int)<=(i:Int)-1:=by omega
    have i9:(i:Int)-1<(ny:Int):=by omega
    have i10:((i:Int)-1).toNat=j:=by omega
    have i11:¬ (i:Int)<1:=by omega
    clear hij;by_cases htx:cc t=true
    ·rw [htx] at HV;by_cases hlb:ltB u t=true
     ·have hup:Op.bytesLess u t=true:=hlb;have HQ2:=aW (show cK keys=dH keys (i+1) by rw [HQ.out,HST.out,htx,hlb];rfl);clear htx hlb;go_wp2;refine wp_region_held_drew (S:=λ w'=>w'.cell? ⟨w.heap.size,4,none⟩=some (Zs (some ⟨b,o,none⟩) ny cb)/\w'.cell? ⟨b,o+i,none⟩=some (Zt ⟨t.toArray⟩)/\w'.cell? ⟨b,o+j,none⟩=some (Zt ⟨u.toArray⟩)) (by kernel_rfl) (by exact ⟨g4,x0,x1⟩) (λ hHeld=>?_);refine tA 0 13 (Zp (some ⟨w.heap.size,4,none⟩)) rfl ?_;refine tA 1 14 (Zs (some ⟨b,o,none⟩) ny cb) rfl ?_;refine tA 2 15 (Zi Zq i) rfl ?_;refine tA 3 16 (Zp (some ⟨b,o+i,none⟩)) rfl ?_;refine tA 4 17 (Zt ⟨t.toArray⟩) rfl ?_;refine aV 5 18 rfl (λ K hK=>?_);go_simp;refine HV.out.mono ?_;rintro e w2 ⟨rfl,hb2⟩;have hbl2:=HB1.out.drew.keep hb2;have hbw2:=HBW1.out.drew.trans (hb2.mono HBW1.out.drew.size);have z0:=hbl2.cell 4;have z1:=HC.out w2 hbw2;have z2:=HD.out w2 hbw2;simp at z0;refine hK.out _ _ (⟨z0,z1,z2⟩) (λ hHeld2=>?_);clear hK K hHeld
      try simp only [pU]
      refine tA 6 19 (.bool false) rfl ?_;refine tA 7 20 (.bool false) rfl ?_;refine tA 8 21 (Zi Zq i) rfl ?_;refine tA 9 22 (.bool true) rfl ?_;refine tA 10 23 (.bool true) rfl ?_;refine tA 11 24 (Zp (some ⟨w.heap.size,4,none⟩)) rfl ?_;refine tA 12 25 (Zs (some ⟨b,o,none⟩) ny cb) rfl ?_;refine tA 13 26 (Zi Zq i) rfl ?_;refine tA 14 27 (Zi Zq ((i:Int)-1)) rfl ?_;refine tA 15 28 (Zp (some ⟨b,o+j,none⟩)) rfl ?_;refine tA 16 29 (Zt ⟨u.toArray⟩) rfl ?_;refine tA 17 30 (Zp (some ⟨w.heap.size,4,none⟩)) rfl ?_;refine tA 18 31 (Zs (some ⟨b,o,none⟩) ny cb) rfl ?_;refine tA 19 32 (Zi Zq i) rfl ?_;refine tA 20 33 (Zp (some ⟨b,o+i,none⟩)) rfl ?_;refine tA 21 34 (Zt ⟨t.toArray⟩) rfl ?_;refine tA 22 35 (.bool false) rfl ?_;refine tA 23 36 (.bool false) rfl ?_;refine tA 24 37 (.bool false) rfl ?_;refine aX ?_;have HL2:=aW hbl2;have HM2:=aW hbw2;clear hbl2 hbw2 z0 z1 z2;go_wp2;go_roundg (ny-(i+1))
      case measure=>rw [HG.out];omega
      case rel=>exact ⟨i+1,hlt,rfl,by go_num,HL2.out,HM2.out,HQ2⟩
     ·have hup:Op.bytesLess u t=false:=Bool.eq_false_iff.2 hlb;obtain rfl:r=false:=HBAD.out (by rw [HQ.out,HST.out,htx,Bool.eq_false_iff.2 hlb];rfl);clear htx hlb;go_wp2;refine wp_region_held_drew (S:=λ w'=>w'.cell? ⟨w.heap.size,4,none⟩=some (Zs (some ⟨b,o,none⟩) ny cb)/\w'.cell? ⟨b,o+i,none⟩=some (Zt ⟨t.toArray⟩)/\w'.cell? ⟨b,o+j,none⟩=some (Zt ⟨u.toArray⟩)) (by kernel_rfl) (by exact ⟨g4,x0,x1⟩) (λ hHeld=>?_);refine tA 0 13 (Zp (some ⟨w.heap.size,4,none⟩)) rfl ?_;refine tA 1 14 (Zs (some ⟨b,o,none⟩) ny cb) rfl ?_;refine tA 2 15 (Zi Zq i) rfl ?_;refine tA 3 16 (Zp (some ⟨b,o+i,none⟩)) rfl ?_;refine tA 4 17 (Zt ⟨t.toArray⟩) rfl ?_;refine aV 5 18 rfl (λ K hK=>?_);go_simp;refine HV.out.mono ?_;rintro e w2 ⟨rfl,hb2⟩;have hbl2:=HB1.out.drew.keep hb2;have hbw2:=HBW1.out.drew.trans (hb2.mono HBW1.out.drew.size);have z0:=hbl2.cell 4;have z1:=HC.out w2 hbw2;have z2:=HD.out w2 hbw2;simp at z0;refine hK.out _ _ (⟨z0,z1,z2⟩) (λ hHeld2=>?_);clear hK K hHeld
      try simp only [pU]
      refine tA 6 19 (.bool false) rfl ?_;refine tA 7 20 (.bool false) rfl ?_;refine tA 8 21 (Zi Zq i) rfl ?_;refine tA 9 22 (.bool true) rfl ?_;refine tA 10 23 (.bool true) rfl ?_;refine tA 11 24 (Zp (some ⟨w.heap.size,4,none⟩)) rfl ?_;refine tA 12 25 (Zs (some ⟨b,o,none⟩) ny cb) rfl ?_;refine tA 13 26 (Zi Zq i) rfl ?_;refine tA 14 27 (Zi Zq ((i:Int)-1)) rfl ?_;refine tA 15 28 (Zp (some ⟨b,o+j,none⟩)) rfl ?_;refine tA 16 29 (Zt ⟨u.toArray⟩) rfl ?_;refine tA 17 30 (Zp (some ⟨w.heap.size,4,none⟩)) rfl ?_;refine tA 18 31 (Zs (some ⟨b,o,none⟩) ny cb) rfl ?_;refine tA 19 32 (Zi Zq i) rfl ?_;refine tA 20 33 (Zp (some ⟨b,o+i,none⟩)) rfl ?_;refine tA 21 34 (Zt ⟨t.toArray⟩) rfl ?_;refine tA 22 35 (.bool true) rfl ?_;refine tA 23 36 (.bool true) rfl ?_;refine tA 24 37 (.bool true) rfl ?_;refine aX ?_;have HM2:=aW hbw2;clear hbl2 hbw2 z0 z1 z2;go_wp2;go_ret;exact ⟨rfl,HM2.out⟩
    ·rw [Bool.eq_false_iff.2 htx] at HV;obtain rfl:r=false:=HBAD.out (by rw [HQ.out,HST.out,Bool.eq_false_iff.2 htx];rfl);clear htx;go_wp2;refine wp_region_held_drew (S:=λ w'=>w'.cell? ⟨w.heap.size,4,none⟩=some (Zs (some ⟨b,o,none⟩) ny cb)/\w'.cell? ⟨b,o+i,none⟩=some (Zt ⟨t.toArray⟩)/\w'.cell? ⟨b,o+j,none⟩=some (Zt ⟨u.toArray⟩)) (by kernel_rfl) (by exact ⟨g4,x0,x1⟩) (λ hHeld=>?_);refine tA 0 13 (Zp (some ⟨w.heap.size,4,none⟩)) rfl ?_;refine tA 1 14 (Zs (some ⟨b,o,none⟩) ny cb) rfl ?_;refine tA 2 15 (Zi Zq i) rfl ?_;refine tA 3 16 (Zp (some ⟨b,o+i,none⟩)) rfl ?_;refine tA 4 17 (Zt ⟨t.toArray⟩) rfl ?_;refine aV 5 18 rfl (λ K hK=>?_);go_simp;refine HV.out.mono ?_;rintro e w2 ⟨rfl,hb2⟩;have hbl2:=HB1.out.drew.keep hb2;have hbw2:=HBW1.out.drew.trans (hb2.mono HBW1.out.drew.size);have z0:=hbl2.cell 4;have z1:=HC.out w2 hbw2;have z2:=HD.out w2 hbw2;simp at z0;refine hK.out _ _ (⟨z0,z1,z2⟩) (λ hHeld2=>?_);clear hK K hHeld
     try simp only [pU]
     refine tA 6 19 (.bool true) rfl ?_;refine tA 7 20 (.bool true) rfl ?_;refine tN 8 21 undef rfl ?_;refine tN 9 22 undef rfl ?_;refine tN 10 23 undef rfl ?_;refine tN 11 24 undef rfl ?_;refine tN 12 25 undef rfl ?_;refine tN 13 26 undef rfl ?_;refine tN 14 27 undef rfl ?_;refine tN 15 28 undef rfl ?_;refine tN 16 29 undef rfl ?_;refine tN 17 30 undef rfl ?_;refine tN 18 31 undef rfl ?_;refine tN 19 32 undef rfl ?_;refine tN 20 33 undef rfl ?_;refine tN 21 34 undef rfl ?_;refine tN 22 35 undef rfl ?_;refine tN 23 36 undef rfl ?_;refine tA 24 37 (.bool true) rfl ?_;refine aX ?_;have HM2:=aW hbw2;clear hbl2 hbw2 z0 z1 z2;go_wp2;go_ret;exact ⟨rfl,HM2.out⟩
   ·obtain rfl:i=0:=by omega
    have i4:(0:Int)<(ny:Int):=by omega
    have HST:=aW (j0 hTT.out);rw [Nat.add_zero] at x0;clear hTT h0;by_cases htx:cc t=true
    ·rw [htx] at HV;have HQ2:=aW (show cK keys=dH keys (0+1) by rw [HQ.out,HST.out,htx];rfl);clear htx;go_wp2;refine wp_region_held_drew (S:=λ w'=>w'.cell? ⟨w.heap.size,4,none⟩=some (Zs (some ⟨b,o,none⟩) ny cb)/\w'.cell? ⟨b,o,none⟩=some (Zt ⟨t.toArray⟩)) (by kernel_rfl) (by exact ⟨g4,x0⟩) (λ hHeld=>?_);refine tA 0 13 (Zp (some ⟨w.heap.size,4,none⟩)) rfl ?_;refine tA 1 14 (Zs (some ⟨b,o,none⟩) ny cb) rfl ?_;refine tA 2 15 (Zi Zq 0) rfl ?_;refine tA 3 16 (Zp (some ⟨b,o,none⟩)) rfl ?_;refine tA 4 17 (Zt ⟨t.toArray⟩) rfl ?_;refine aV 5 18 rfl (λ K hK=>?_);go_simp;refine HV.out.mono ?_;rintro e w2 ⟨rfl,hb2⟩;have hbl2:=HB1.out.drew.keep hb2;have hbw2:=HBW1.out.drew.trans (hb2.mono HBW1.out.drew.size);have z0:=hbl2.cell 4;have z1:=HC.out w2 hbw2;simp at z0;rw [Nat.add_zero] at z1;refine hK.out _ _ (⟨z0,z1⟩) (λ hHeld2=>?_);clear hK K hHeld
     try simp only [pU]
     refine tA 6 19 (.bool false) rfl ?_;refine tA 7 20 (.bool false) rfl ?_;refine tA 8 21 (Zi Zq 0) rfl ?_;refine tA 9 22 (.bool false) rfl ?_;refine tA 10 23 (.bool false) rfl ?_;refine tN 11 24 undef rfl ?_;refine tN 12 25 undef rfl ?_;refine tN 13 26 undef rfl ?_;refine tN 14 27 undef rfl ?_;refine tN 15 28 undef rfl ?_;refine tN 16 29 undef rfl ?_;refine tN 17 30 undef rfl ?_;refine tN 18 31 undef rfl ?_;refine tN 19 32 undef rfl ?_;refine tN 20 33 undef rfl ?_;refine tN 21 34 undef rfl ?_;refine tN 22 35 undef rfl ?_;refine tA 23 36 (.bool false) rfl ?_;refine tA 24 37 (.bool false) rfl ?_;refine aX ?_;have HL2:=aW hbl2;have HM2:=aW hbw2;clear hbl2 hbw2 z0 z1;go_wp2;go_roundg (ny-(0+1))
     case measure=>rw [HG.out];omega
     case rel=>exact ⟨0+1,hlt,rfl,by go_num,HL2.out,HM2.out,HQ2⟩
    ·rw [Bool.eq_false_iff.2 htx] at HV;obtain rfl:r=false:=HBAD.out (by rw [HQ.out,HST.out,Bool.eq_false_iff.2 htx];rfl);clear htx;go_wp2;refine wp_region_held_drew (S:=λ w'=>w'.cell? ⟨w.heap.size,4,none⟩=some (Zs (some ⟨b,o,none⟩) ny cb)/\w'.cell? ⟨b,o,none⟩=some (Zt ⟨t.toArray⟩)) (by kernel_rfl) (by exact ⟨g4,x0⟩) (λ hHeld=>?_);refine tA 0 13 (Zp (some ⟨w.heap.size,4,none⟩)) rfl ?_;refine tA 1 14 (Zs (some ⟨b,o,none⟩) ny cb) rfl ?_;refine tA 2 15 (Zi Zq 0) rfl ?_;refine tA 3 16 (Zp (some ⟨b,o,none⟩)) rfl ?_;refine tA 4 17 (Zt ⟨t.toArray⟩) rfl ?_;refine aV 5 18 rfl (λ K hK=>?_);go_simp;refine HV.out.mono ?_;rintro e w2 ⟨rfl,hb2⟩;have hbl2:=HB1.out.drew.keep hb2;have hbw2:=HBW1.out.drew.trans (hb2.mono HBW1.out.drew.size);have z0:=hbl2.cell 4;have z1:=HC.out w2 hbw2;simp at z0;rw [Nat.add_zero] at z1;refine hK.out _ _ (⟨z0,z1⟩) (λ hHeld2=>?_);clear hK K hHeld
     try simp only [pU]
     refine tA 6 19 (.bool true) rfl ?_;refine tA 7 20 (.bool true) rfl ?_;refine tN 8 21 undef rfl ?_;refine tN 9 22 undef rfl ?_;refine tN 10 23 undef rfl ?_;refine tN 11 24 undef rfl ?_;refine tN 12 25 undef rfl ?_;refine tN 13 26 undef rfl ?_;refine tN 14 27 undef rfl ?_;refine tN 15 28 undef rfl ?_;refine tN 16 29 undef rfl ?_;refine tN 17 30 undef rfl ?_;refine tN 18 31 undef rfl ?_;refine tN 19 32 undef rfl ?_;refine tN 20 33 undef rfl ?_;refine tN 21 34 undef rfl ?_;refine tN 22 35 undef rfl ?_;refine tN 23 36 undef rfl ?_;refine tA 24 37 (.bool true) rfl ?_;refine aX ?_;have HM2:=aW hbw2;clear hbl2 hbw2 z0 z1;go_wp2;go_ret;exact ⟨rfl,HM2.out⟩
  ·obtain rfl:i=ny:=by omega
   have hko:cK keys=true:=by rw [HQ.out,← HNY.out,mB]
   have g0:=c1 0;have g1:=c1 1;have g2:=c1 2;have g3:=c1 3;simp at g0 g1 g2 g3;have hr:=HR.out;unfold bO at hr;rw [hko,HYN.out,HNY.out] at hr;have HR2:=aW hr;have HSN2:=HSN.out;clear hr hko HQ HG HNY HYN HK HTS HS HR HSN c1;go_wp2;go_region_held3 (λ w'=>w'.cell? ⟨w.heap.size,0,none⟩=some (Zi Zq k)/\w'.cell? ⟨w.heap.size,1,none⟩=some (Zi Zq n)/\w'.cell? ⟨w.heap.size,2,none⟩=some (Zt sb)/\w'.cell? ⟨w.heap.size,3,none⟩=some (Zs A nk ca)/\w'.cell? ⟨w.heap.size,4,none⟩=some (Zs B i cb)) (go_keep) (fail)
   all_goals
    clear hlt;by_cases k1:k=1
    ·subst k1;cases q_n0:(n == 0)
     ·obtain rfl:r=false:=by rw [← HR2.out];simp [q_n0];try omega
      go_wp2;go_ret;exact ⟨rfl,HBW1.out.drew⟩
     ·cases q_s:(s == [])
      ·have p1:sb.toList.isEmpty=false:=by rw [HSN2,q_s]
       have p1b:decide (sb.toList=[])=false:=by rw [← p1];cases sb.toList<;>simp
       simp only [decide_eq_true_eq,decide_eq_false_iff_not] at p1b;obtain rfl:r=false:=by rw [← HR2.out];simp [q_n0,q_s];try omega
       go_wp2;go_ret;exact ⟨rfl,HBW1.out.drew⟩
      ·have p1:sb.toList.isEmpty=true:=by rw [HSN2,q_s]
       have p1b:decide (sb.toList=[])=true:=by rw [← p1];cases sb.toList<;>simp
       simp only [decide_eq_true_eq,decide_eq_false_iff_not] at p1b;cases q_nk:(nk == 0)
       ·have p2:((nk:Int) == 0)=false:=by simp at q_nk ⊢;omega
        obtain rfl:r=false:=by rw [← HR2.out];simp [q_n0,q_s,q_nk];try omega
        go_wp2;go_ret;exact ⟨rfl,HBW1.out.drew⟩
       ·have p2:((nk:Int) == 0)=true:=by simp at q_nk ⊢;omega
        cases q_ny:(decide (i=0))
        ·have p3:((i:Int) == 0)=false:=by simp at q_ny ⊢;omega
         obtain rfl:r=false:=by rw [← HR2.out];simp [q_n0,q_s,q_nk,q_ny];try omega
         go_wp2;go_ret;exact ⟨rfl,HBW1.out.drew⟩
        ·have p3:((i:Int) == 0)=true:=by simp at q_ny ⊢;omega
         obtain rfl:r=true:=by rw [← HR2.out];simp [q_n0,q_s,q_nk,q_ny];try omega
         go_wp2;go_ret;exact ⟨rfl,HBW1.out.drew⟩
    have m1:(k == 1)=false:=by simp [k1]
    by_cases k2:k=2
    ·subst k2;cases q_n0:(n == 0)
     ·cases q_n1:(n == 1)
      ·obtain rfl:r=false:=by rw [← HR2.out];simp [q_n0,q_n1];try omega
       go_wp2;go_ret;exact ⟨rfl,HBW1.out.drew⟩
      ·cases q_s:(s == [])
       ·have p1:sb.toList.isEmpty=false:=by rw [HSN2,q_s]
        have p1b:decide (sb.toList=[])=false:=by rw [← p1];cases sb.toList<;>simp
        simp only [decide_eq_true_eq,decide_eq_false_iff_not] at p1b;obtain rfl:r=false:=by rw [← HR2.out];simp [q_n0,q_n1,q_s];try omega
        go_wp2;go_ret;exact ⟨rfl,HBW1.out.drew⟩
       ·have p1:sb.toList.isEmpty=true:=by rw [HSN2,q_s]
        have p1b:decide (sb.toList=[])=true:=by rw [← p1];cases sb.toList<;>simp
        simp only [decide_eq_true_eq,decide_eq_false_iff_not] at p1b;cases q_nk:(nk == 0)
        ·have p2:((nk:Int) == 0)=false:=by simp at q_nk ⊢;omega
         obtain rfl:r=false:=by rw [← HR2.out];simp [q_n0,q_n1,q_s,q_nk];try omega
         go_wp2;go_ret;exact ⟨rfl,HBW1.out.drew⟩
        ·have p2:((nk:Int) == 0)=true:=by simp at q_nk ⊢;omega
         cases q_ny:(decide (i=0))
         ·have p3:((i:Int) == 0)=false:=by simp at q_ny ⊢;omega
          obtain rfl:r=false:=by rw [← HR2.out];simp [q_n0,q_n1,q_s,q_nk,q_ny];try omega
          go_wp2;go_ret;exact ⟨rfl,HBW1.out.drew⟩
         ·have p3:((i:Int) == 0)=true:=by simp at q_ny ⊢;omega
          obtain rfl:r=true:=by rw [← HR2.out];simp [q_n0,q_n1,q_s,q_nk,q_ny];try omega
          go_wp2;go_ret;exact ⟨rfl,HBW1.out.drew⟩
     ·cases q_s:(s == [])
      ·have p1:sb.toList.isEmpty=false:=by rw [HSN2,q_s]
       have p1b:decide (sb.toList=[])=false:=by rw [← p1];cases sb.toList<;>simp
       simp only [decide_eq_true_eq,decide_eq_false_iff_not] at p1b;obtain rfl:r=false:=by rw [← HR2.out];simp [q_n0,q_s];try omega
       go_wp2;go_ret;exact ⟨rfl,HBW1.out.drew⟩
      ·have p1:sb.toList.isEmpty=true:=by rw [HSN2,q_s]
       have p1b:decide (sb.toList=[])=true:=by rw [← p1];cases sb.toList<;>simp
       simp only [decide_eq_true_eq,decide_eq_false_iff_not] at p1b;cases q_nk:(nk == 0)
       ·have p2:((nk:Int) == 0)=false:=by simp at q_nk ⊢;omega
        obtain rfl:r=false:=by rw [← HR2.out];simp [q_n0,q_s,q_nk];try omega
        go_wp2;go_ret;exact ⟨rfl,HBW1.out.drew⟩
       ·have p2:((nk:Int) == 0)=true:=by simp at q_nk ⊢;omega
        cases q_ny:(decide (i=0))
        ·have p3:((i:Int) == 0)=false:=by simp at q_ny ⊢;omega
         obtain rfl:r=false:=by rw [← HR2.out];simp [q_n0,q_s,q_nk,q_ny];try omega
         go_wp2;go_ret;exact ⟨rfl,HBW1.out.drew⟩
        ·have p3:((i:Int) == 0)=true:=by simp at q_ny ⊢;omega
         obtain rfl:r=true:=by rw [← HR2.out];simp [q_n0,q_s,q_nk,q_ny];try omega
         go_wp2;go_ret;exact ⟨rfl,HBW1.out.drew⟩
    have m2:(k == 2)=false:=by simp [k2]
    by_cases k3:k=3
    ·subst k3;cases q_s:(s == [])
     ·have p1:sb.toList.isEmpty=false:=by rw [HSN2,q_s]
      have p1b:decide (sb.toList=[])=false:=by rw [← p1];cases sb.toList<;>simp
      simp only [decide_eq_true_eq,decide_eq_false_iff_not] at p1b;obtain rfl:r=false:=by rw [← HR2.out];simp [q_s];try omega
      go_wp2;go_ret;exact ⟨rfl,HBW1.out.drew⟩
     ·have p1:sb.toList.isEmpty=true:=by rw [HSN2,q_s]
      have p1b:decide (sb.toList=[])=true:=by rw [← p1];cases sb.toList<;>simp
      simp only [decide_eq_true_eq,decide_eq_false_iff_not] at p1b;cases q_nk:(nk == 0)
      ·have p2:((nk:Int) == 0)=false:=by simp at q_nk ⊢;omega
       obtain rfl:r=false:=by rw [← HR2.out];simp [q_s,q_nk];try omega
       go_wp2;go_ret;exact ⟨rfl,HBW1.out.drew⟩
      ·have p2:((nk:Int) == 0)=true:=by simp at q_nk ⊢;omega
       cases q_ny:(decide (i=0))
       ·have p3:((i:Int) == 0)=false:=by simp at q_ny ⊢;omega
        obtain rfl:r=false:=by rw [← HR2.out];simp [q_s,q_nk,q_ny];try omega
        go_wp2;go_ret;exact ⟨rfl,HBW1.out.drew⟩
       ·have p3:((i:Int) == 0)=true:=by simp at q_ny ⊢;omega
        obtain rfl:r=true:=by rw [← HR2.out];simp [q_s,q_nk,q_ny];try omega
        go_wp2;go_ret;exact ⟨rfl,HBW1.out.drew⟩
    have m3:(k == 3)=false:=by simp [k3]
    by_cases k4:k=4
    ·subst k4;cases q_n0:(n == 0)
     ·obtain rfl:r=false:=by rw [← HR2.out];simp [q_n0];try omega
      go_wp2;go_ret;exact ⟨rfl,HBW1.out.drew⟩
     ·cases q_v:cc s
      ·rw [q_v] at HVS;obtain rfl:r=false:=by rw [← HR2.out];simp [q_n0,q_v];try omega
       go_wp2_with fail;refine (HVS.out _).mono ?_;rintro e w2 ⟨rfl,hb2⟩;have HB2:=aW (HBW1.out.drew.trans (hb2.mono HBW1.out.drew.size));clear hb2;go_wp2;go_ret;exact ⟨rfl,HB2.out⟩
      ·rw [q_v] at HVS;cases q_nk:(nk == 0)
       ·have p2:((nk:Int) == 0)=false:=by simp at q_nk ⊢;omega
        obtain rfl:r=false:=by rw [← HR2.out];simp [q_n0,q_v,q_nk];try omega
        go_wp2_with fail;refine (HVS.out _).mono ?_;rintro e w2 ⟨rfl,hb2⟩;have HB2:=aW (HBW1.out.drew.trans (hb2.mono HBW1.out.drew.size));clear hb2;go_wp2;go_ret;exact ⟨rfl,HB2.out⟩
       ·have p2:((nk:Int) == 0)=true:=by simp at q_nk ⊢;omega
        cases q_ny:(decide (i=0))
        ·have p3:((i:Int) == 0)=false:=by simp at q_ny ⊢;omega
         obtain rfl:r=false:=by rw [← HR2.out];simp [q_n0,q_v,q_nk,q_ny];try omega
         go_wp2_with fail;refine (HVS.out _).mono ?_;rintro e w2 ⟨rfl,hb2⟩;have HB2:=aW (HBW1.out.drew.trans (hb2.mono HBW1.out.drew.size));clear hb2;go_wp2;go_ret;exact ⟨rfl,HB2.out⟩
        ·have p3:((i:Int) == 0)=true:=by simp at q_ny ⊢;omega
         obtain rfl:r=true:=by rw [← HR2.out];simp [q_n0,q_v,q_nk,q_ny];try omega
         go_wp2_with fail;refine (HVS.out _).mono ?_;rintro e w2 ⟨rfl,hb2⟩;have HB2:=aW (HBW1.out.drew.trans (hb2.mono HBW1.out.drew.size));clear hb2;go_wp2;go_ret;exact ⟨rfl,HB2.out⟩
    have m4:(k == 4)=false:=by simp [k4]
    by_cases k5:k=5
    ·subst k5;cases q_n0:(n == 0)
     ·obtain rfl:r=false:=by rw [← HR2.out];simp [q_n0];try omega
      go_wp2;go_ret;exact ⟨rfl,HBW1.out.drew⟩
     ·cases q_s:(s == [])
      ·have p1:sb.toList.isEmpty=false:=by rw [HSN2,q_s]
       have p1b:decide (sb.toList=[])=false:=by rw [← p1];cases sb.toList<;>simp
       simp only [decide_eq_true_eq,decide_eq_false_iff_not] at p1b;obtain rfl:r=false:=by rw [← HR2.out];simp [q_n0,q_s];try omega
       go_wp2;go_ret;exact ⟨rfl,HBW1.out.drew⟩
      ·have p1:sb.toList.isEmpty=true:=by rw [HSN2,q_s]
       have p1b:decide (sb.toList=[])=true:=by rw [← p1];cases sb.toList<;>simp
       simp only [decide_eq_true_eq,decide_eq_false_iff_not] at p1b;cases q_ny:(decide (i=0))
       ·have p3:((i:Int) == 0)=false:=by simp at q_ny ⊢;omega
        obtain rfl:r=false:=by rw [← HR2.out];simp [q_n0,q_s,q_ny];try omega
        go_wp2;go_ret;exact ⟨rfl,HBW1.out.drew⟩
       ·have p3:((i:Int) == 0)=true:=by simp at q_ny ⊢;omega
        obtain rfl:r=true:=by rw [← HR2.out];simp [q_n0,q_s,q_ny];try omega
        go_wp2;go_ret;exact ⟨rfl,HBW1.out.drew⟩
    have m5:(k == 5)=false:=by simp [k5]
    by_cases k6:k=6
    ·subst k6;cases q_n0:(n == 0)
     ·obtain rfl:r=false:=by rw [← HR2.out];simp [q_n0];try omega
      go_wp2;go_ret;exact ⟨rfl,HBW1.out.drew⟩
     ·cases q_s:(s == [])
      ·have p1:sb.toList.isEmpty=false:=by rw [HSN2,q_s]
       have p1b:decide (sb.toList=[])=false:=by rw [← p1];cases sb.toList<;>simp
       simp only [decide_eq_true_eq,decide_eq_false_iff_not] at p1b;obtain rfl:r=false:=by rw [← HR2.out];simp [q_n0,q_s];try omega
       go_wp2;go_ret;exact ⟨rfl,HBW1.out.drew⟩
      ·have p1:sb.toList.isEmpty=true:=by rw [HSN2,q_s]
       have p1b:decide (sb.toList=[])=true:=by rw [← p1];cases sb.toList<;>simp
       simp only [decide_eq_true_eq,decide_eq_false_iff_not] at p1b;cases q_nkny:(decide (nk=i))
       ·have p4:((nk:Int) == (i:Int))=false:=by simp at q_nkny ⊢;omega
        have p5:=of_decide_eq_false q_nkny;obtain rfl:r=false:=by rw [← HR2.out];simp [q_n0,q_s,q_nkny];try omega
        go_wp2;go_ret;exact ⟨rfl,HBW1.out.drew⟩
       ·have p4:((nk:Int) == (i:Int))=true:=by simp at q_nkny ⊢;omega
        have p5:=of_decide_eq_true q_nkny;obtain rfl:r=true:=by rw [← HR2.out];simp [q_n0,q_s,q_nkny];try omega
        go_wp2;go_ret;exact ⟨rfl,HBW1.out.drew⟩
    have m6:(k == 6)=false:=by simp [k6]
    obtain rfl:r=false:=by rw [← HR2.out];simp [k1,k2,k3,k4,k5,k6];try omega
    go_wp2;go_ret;exact ⟨rfl,HBW1.out.drew⟩
theorem rT {W:World} {F:Nat->Prop} {css:List (List Value)} {xs:List JV} {A:Option Addr} (h:VRs W F css xs) (hr:RdF W F A css.flatten) {i:Nat} {x:JV} (hx:xs[i]? = some x) :
  ∃ (b o:Nat) (k n:Int) (s:ByteArray) (A':Option Addr) (na ca:Nat) (B':Option Addr) (nb cb:Nat),A=some ⟨b,o,none⟩/\b<W.heap.size/\VR W F [Zi Zq k,Zi Zq n,Zt s,Zs A' na ca,Zs B' nb cb] x /\
   ∀ W',Below W.heap.size W W'->W'.cell? ⟨b,o+i*5,none⟩=some (Zi Zq k)/\W'.cell? ⟨b,o+i*5+1,none⟩=some (Zi Zq n)/\W'.cell? ⟨b,o+i*5+2,none⟩=some (Zt s)/\W'.cell? ⟨b,o+i*5+3,none⟩=some (Zs A' na ca)/\W'.cell? ⟨b,o+i*5+4,none⟩=some (Zs B' nb cb):=by
 obtain ⟨b,o,c,rfl,hb,_,hv,hc⟩:=h.cell hr hx;obtain ⟨k,n,s,A',na,ca,B',nb,cb,rfl⟩:=hv.form;refine ⟨b,o,k,n,s,A',na,ca,B',nb,cb,rfl,hb,hv,λ W' hW=>?_⟩;have z:=λ (j:Nat) u (hj:j<5) hu=>(hW.cell (p:=⟨b,o+(i*5+j),none⟩) hb).trans (hc j u hj hu)
 exact ⟨z 0 _ (by decide) rfl,z 1 _ (by decide) rfl,z 2 _ (by decide) rfl,z 3 _ (by decide) rfl,z 4 _ (by decide) rfl⟩
def cB (d most:Nat) (v:JV):Nat:=if ef d v=true/\bf v<=most then bf v else 0
theorem rp {d most:Nat} {k n:Int} {s:List UInt8} {kids:List JV} {keys:List (List UInt8)} (h:bO k n s kids.length keys=false):cB d most (.mk k n s kids keys)=0:=by
 unfold cB;rw [if_neg];rintro ⟨h1,_⟩;rw [(fm h1).1] at h;cases h
theorem pY {most:Nat} {k n:Int} {s:List UInt8} {kids:List JV} {keys:List (List UInt8)} (h:5<=k):cB 0 most (.mk k n s kids keys)=0:=by
 unfold cB;rw [if_neg];rintro ⟨h1,_⟩;exact (fm h1).2.1 h rfl
theorem rq {d most i:Nat} {k n:Int} {s:List UInt8} {kids:List JV} {keys:List (List UInt8)} {x:JV} (hx:kids[i]? = some x) (h:cB (d-1) (most-(1+bg (kids.take i))) x=0):cB d most (.mk k n s kids keys)=0:=by
 unfold cB;rw [if_neg];rintro ⟨h1,h2⟩;obtain ⟨_,_,h3⟩:=fm h1;obtain ⟨hn1,hn2⟩:=iY hx;unfold bf at h2;have hp:=dS x;unfold cB at h;rw [if_pos ⟨kA.1 h3 x (List.mem_of_getElem? hx),by omega⟩] at h;omega
theorem p6 {d m:Nat} {x:JV} {r:Nat} (h:cB d m x=r) (hr:r≠0):ef d x=true/\bf x=r/\r<=m:=by
 unfold cB at h;split at h
 ·rename_i hh;exact ⟨hh.1,h,by omega⟩
 ·exact absurd h.symm hr
theorem ro {d most:Nat} {k n:Int} {s:List UInt8} {kids:List JV} {keys:List (List UInt8)} (ha:bO k n s kids.length keys=true) (hd:5<=k->d≠0) (hk:∀ x ∈ kids,ef (d-1) x=true) (hm:1+bg kids<=most):cB d most (.mk k n s kids keys)=1+bg kids:=by
 unfold cB;have:ef d (.mk k n s kids keys)=true:=by
  unfold ef;rw [ha,decide_eq_true hd,kA.2 hk];rfl
 rw [if_pos ⟨this,by unfold bf;exact hm⟩];unfold bf;rfl
theorem qX:∀ (N:Nat) (v:JV),bf v<=N->∀ (d most:Nat) (cs:List Value) (F:Nat->Prop) (w:World),VR w F cs v->cW v->most<=256->d<=8 ->
  Calls Tryz.prog 202 #[.agg cs.toArray,Zi Zq d,Zi Zq most] w λ e w'=>e=.returned (Zi Zq (cB d most v))/\Below w.heap.size w w'
 | 0,v,h,_,_,_,_,_,_,_,_,_=>by have:=dS v;omega
 |N+1,.mk k n s kids keys,hN,d,most,cs,F,w,hv,hR,hm,hd=>by
  have ih:=qX N;unfold bf at hN;have hAL:=λ W (h:Below w.heap.size w W)=>xS cs k n s kids keys F W (hv.bel h) hR
  obtain ⟨b1,b2,b3,hkl,b5,b6,hck⟩:=hR.out;obtain ⟨A,B,ca,cb,css,rfl,h1,h2,h3,h4,h5,h6,h7⟩:=hv.out;have HIH:=aW (λ (i:Nat) (x:JV) (hx:kids[i]? = some x)=>rT h1 h6 hx);have HCK:=aW hck;have HI:=aW ih;have HAL:=aW hAL;obtain ⟨rr,hrr⟩:∃ rr,cB d most (.mk k n s kids keys)=rr:=⟨_,rfl⟩
  rw [hrr];have HRR:=aW hrr;have HKID:=aW (λ (i:Nat) (x:JV) (hx:kids[i]? = some x)=>rq (d:=d) (most:=most) (k:=k) (n:=n) (s:=s) (keys:=keys) hx);have HALL:=aW (ro (d:=d) (most:=most) (k:=k) (n:=n) (s:=s) (kids:=kids) (keys:=keys));have HBAD:=aW (rp (d:=d) (most:=most) (k:=k) (n:=n) (s:=s) (kids:=kids) (keys:=keys));have HDEEP:=aW (pY (most:=most) (k:=k) (n:=n) (s:=s) (kids:=kids) (keys:=keys));have HLEAF:=aW (λ (h:bO k n s kids.length keys=true) (h5:k<5)=>(jv h h5).1);have hz0:most=0->rr=0:=λ h=>by
   rw [← hrr];unfold cB;rw [if_neg];rintro ⟨_,h2⟩;have:=dS (.mk k n s kids keys);omega
  obtain ⟨g,hg⟩:∃ g,bO k n s kids.length keys=g:=⟨_,rfl⟩
  rw [hg] at HAL HALL HBAD HLEAF;obtain ⟨nk,hnk⟩:∃ nk,kids.length=nk:=⟨_,rfl⟩
  obtain ⟨ny,hny⟩:∃ ny,keys.length=ny:=⟨_,rfl⟩
  rw [hnk,hny] at HAL;rw [hnk] at h2 hkl HLEAF ⊢;rw [hny] at h3 ⊢;have HNK:=aW hnk;have HBW:=aW ((Below.refl w.heap.size w).alloc (Nat.le_refl _) (.cells #[Zi Zq k,Zi Zq n,Zt ⟨s.toArray⟩,Zs A nk ca,Zs B ny cb] 42));clear hv hR h1 h4 h5 h6 h7 hnk hny ih hAL hrr hg hck b1 b2 b3 b5 b6;by_cases hm0:most=0
  ·obtain rfl:=hz0 hm0;subst hm0;clear hz0;go_enter Tryz.func202,Tryz.ntmps202;go_wp2;go_ret;exact ⟨rfl,HBW.out⟩
  have hm1:¬ (most:Int)<1:=by omega
  clear hz0;cases g with
  |false =>
   have h0:=HBAD.out rfl;rw [HRR.out] at h0;subst h0;go_enter Tryz.func202,Tryz.ntmps202;go_wp2_with fail;refine (HAL.out _ HBW.out).mono ?_;rintro e w1 ⟨rfl,hb1⟩;have HB1:=aW (HBW.out.trans (hb1.mono HBW.out.size));clear hb1;go_wp2;go_ret;exact ⟨rfl,HB1.out⟩
  | true =>
  by_cases hdeep:5<=k/\d=0
  ·obtain ⟨h5,rfl⟩:=hdeep;have h0:=HDEEP.out h5;rw [HRR.out] at h0;subst h0;go_enter Tryz.func202,Tryz.ntmps202;go_wp2_with fail;refine (HAL.out _ HBW.out).mono ?_;rintro e w1 ⟨rfl,hb1⟩;have hbk:=(Blk.new w 42 #[Zi Zq k,Zi Zq n,Zt ⟨s.toArray⟩,Zs A nk ca,Zs B ny cb]).keep hb1;have HB1:=aW (HBW.out.trans (hb1.mono HBW.out.size));obtain ⟨c1,f1,l1⟩:=hbk.rules;clear hb1 hbk;have z0:=c1 0;simp at z0;go_wp2;go_ret;exact ⟨rfl,HB1.out⟩
  have hcs:(5<=k/\((d:Int) == 0)=false)∨¬ 5<=k:=by
   by_cases h:5<=k
   ·exact .inl ⟨h,by simp;omega⟩
   ·exact .inr h
  rcases hcs with ⟨h5,hdi⟩ | h5
  all_goals
   go_enter Tryz.func202,Tryz.ntmps202;go_wp2_with fail;refine (HAL.out _ HBW.out).mono ?_;rintro e w1 ⟨rfl,hb1⟩;have hbk:=(Blk.new w 42 #[Zi Zq k,Zi Zq n,Zt ⟨s.toArray⟩,Zs A nk ca,Zs B ny cb]).keep hb1;have HB1:=aW (HBW.out.trans (hb1.mono HBW.out.size));obtain ⟨c1,f1,l1⟩:=hbk.rules;have HBK:=aW hbk;clear hb1 hbk;have z0:=c1 0;simp at z0;go_wp2;clear c1 f1 l1 z0;go_loopg [7,8] nk (λ gk s7 s8 wr => ∃ i m1:Nat,i<=nk/\gk=nk-i/\s7=Zi Zq m1/\s8=Zi Zq i/\1<=m1/\m1<=most/\Hid (m1=1+bg (kids.take i))/\Hid (∀ y ∈ kids.take i,ef (d-1) y=true)/\Hid (Blk wr w.heap.size 42 #[Zi Zq k,Zi Zq n,Zt ⟨s.toArray⟩,Zs A nk ca,Zs B ny cb])/\Hid (Below w.heap.size w wr))
   case atStart=>exact ⟨0,1,Nat.zero_le _,rfl,by go_num,by go_num,Nat.le_refl _,by omega,aW rfl,aW (λ y hy=>by simp at hy),HBK,HB1⟩
   case round =>
    obtain ⟨i,m1,hi,hgk,rfl,rfl,hm0,hm9,HM,HGD,HBK,HB1⟩:=hrel;have HG:=aW hgk;clear hgk;obtain ⟨c1,f1,l1⟩:=HBK.out.rules;have z3:=c1 3;simp at z3;by_cases hlt:i<nk
    ·obtain ⟨x,hx⟩:∃ x,kids[i]? = some x:=⟨_,List.getElem?_eq_getElem (by rw [HNK.out];exact hlt)⟩
     obtain ⟨b,o,k',n',s',A',na,ca',B',nb,cb',rfl,hb,hvx,hz⟩:=HIH.out i x hx;obtain ⟨q0,q1,q2,q3,q4⟩:=hz _ HB1.out;have hd1:1<=d:=by
      rcases (show 5<=k∨k<5 by omega) with h | h
      ·omega
      ·have:=HLEAF.out (by trivial) h;omega
     obtain ⟨hn1,hn2⟩:=iY hx;have hn3:=HM.out;have hcl:=HI.out x (by omega) (d-1) (most-m1) _ F _ (hvx.bel HB1.out) (HCK.out x (List.mem_of_getElem? hx)) (by omega) (by omega);obtain ⟨r,hr⟩:∃ r,cB (d-1) (most-m1) x=r:=⟨_,rfl⟩
     rw [hr,show (((d-1:Nat)):Int)=(d:Int)-1 by omega,show (((most-m1:Nat)):Int)=(most:Int)-(m1:Int) by omega] at hcl;have HCL:=aW hcl;by_cases hr0:r=0
     ·have h0:=HKID.out i x hx (by rw [← hn3,hr];exact hr0);rw [HRR.out] at h0;subst h0;subst hr0;clear hz hvx hx hcl hr hn1 hn2 hn3 HM;go_wp2_with fail;refine HCL.out.mono ?_;rintro e w2 ⟨rfl,hb2⟩;have HB2:=aW (HB1.out.trans (hb2.mono HB1.out.size));clear hb2;go_wp2;go_ret;exact ⟨rfl,HB2.out⟩
     obtain ⟨hgx,hnx,hrm⟩:=p6 hr hr0;rw [hnx] at hn1 hn2;have HM2:=aW (show m1+r=1+bg (kids.take (i+1)) by omega);have HGD2:=aW (show ∀ y ∈ kids.take (i+1),ef (d-1) y=true from λ y hy=>by
      rw [List.take_add_one,hx] at hy;rcases List.mem_append.1 hy with hy | hy
      ·exact HGD.out y hy
      ·obtain rfl:y=x:=by simpa using hy
       exact hgx)
     have hmr:m1+r<=most:=by omega
     have hrb:((r:Int) == 0)=false:=by simp;omega
     clear hz hvx hx hcl hr hn1 hn2 hn3 HM hgx hnx;go_wp2_with fail;refine HCL.out.mono ?_;rintro e w2 ⟨rfl,hb2⟩;have HBK2:=aW (HBK.out.keep hb2);have HB2:=aW (HB1.out.trans (hb2.mono HB1.out.size));clear hb2;go_wp2;go_roundg (nk-(i+1))
     case measure=>rw [HG.out];omega
     case rel=>exact ⟨i+1,m1+r,hlt,rfl,by go_num,by go_num,by omega,hmr,HM2,HGD2,HBK2,HB2⟩
    ·obtain rfl:i=nk:=by omega
     have hn3:=HM.out;have hgd:=HGD.out;rw [List.take_of_length_le (by rw [HNK.out];exact Nat.le_refl _)] at hn3 hgd;have h0:=HALL.out (by trivial) (λ h e=>hdeep ⟨h,e⟩) hgd (by omega);rw [HRR.out,← hn3] at h0;subst h0;go_wp2;go_ret;exact ⟨rfl,HB1.out⟩
theorem pZ (v:JV):good v=decide (0<cB 8 256 v):=by
 unfold good cB;have:=dS v;by_cases h:ef 8 v=true/\bf v<=256
 ·rw [if_pos h,h.1,decide_eq_true h.2,decide_eq_true (by omega)];rfl
 ·rw [if_neg h];rw [Bool.eq_iff_iff];simp only [Bool.and_eq_true,decide_eq_true_eq];exact ⟨λ h'=>absurd h' h,λ h'=>absurd h' (by omega)⟩
theorem xT (v:JV) (cs:List Value) (F:Nat->Prop) (w:World) (hv:VR w F cs v) (hc:cW v) :
  Calls Tryz.prog 188 #[.agg cs.toArray] w (cC (good v) w):=by
 have hW:=λ W (h:Below w.heap.size w W)=>qX _ v (Nat.le_refl _) 8 256 cs F W (hv.bel h) hc (Nat.le_refl _) (Nat.le_refl _)
 obtain ⟨k0,n0,s0,A0,na0,ca0,B0,nb0,cb0,rfl⟩:=hv.form;have hp:=pZ v;obtain ⟨r,hr⟩:∃ r,cB 8 256 v=r:=⟨_,rfl⟩
 rw [hr,show ((8:Nat):Int)=8 from rfl,show ((256:Nat):Int)=256 from rfl] at hW;rw [hr] at hp;rw [hp];have HW:=aW hW;have HBW:=aW ((Below.refl w.heap.size w).alloc (Nat.le_refl _) (.cells #[Zi Zq k0,Zi Zq n0,Zt s0,Zs A0 na0 ca0,Zs B0 nb0 cb0] 42));clear hW hr hv hc hp;by_cases hr0:r=0
 ·subst hr0;go_enter Tryz.func188,Tryz.ntmps188;go_wp2_with fail;refine (HW.out _ HBW.out).mono ?_;rintro e w1 ⟨rfl,hb1⟩;have HB1:=aW (HBW.out.trans (hb1.mono HBW.out.size));clear hb1;go_wp2;go_ret;exact ⟨rfl,HB1.out⟩
 ·have hr1:(0:Int)<(r:Int):=by omega
  rw [decide_eq_true (show 0<r by omega)];go_enter Tryz.func188,Tryz.ntmps188;go_wp2_with fail;refine (HW.out _ HBW.out).mono ?_;rintro e w1 ⟨rfl,hb1⟩;have HB1:=aW (HBW.out.trans (hb1.mono HBW.out.size));clear hb1;go_wp2;go_ret;refine ⟨am ?_,HB1.out⟩;simp;omega
end
section
open Go.RowKit Go.Shelf
attribute [local go_sem] aa ac ae ab
theorem oO {W:World} {F:Nat->Prop} {B:Option Addr} {keys:List (List UInt8)} (h:RdF W F B (jF keys)) {i:Nat} {x:List UInt8} (hx:keys[i]? = some x):∃ b o,B=some ⟨b,o,none⟩/\b<W.heap.size/\W.cell? ⟨b,o+i,none⟩=some (Zt ⟨x.toArray⟩):=by
 have hx2:(jF keys)[i]? = some (Zt ⟨x.toArray⟩):=by unfold jF;simp [hx]
 obtain ⟨hi,e⟩:=List.getElem?_eq_some_iff.1 hx2;obtain ⟨b,o,rfl,hb,_,hc⟩:=h (by intro e9;rw [e9] at hi;exact absurd hi (Nat.not_lt_zero _));exact ⟨b,o,rfl,hb,by rw [hc i hi,e]⟩
theorem tu:∀ (N:Nat) (v v':JV),bf v<=N->∀ (cs cs':List Value) (F F':Nat->Prop) (w:World),VR w F cs v->VR w F' cs' v'->cW v->cW v'->Calls Tryz.prog 83 #[.agg cs.toArray,.agg cs'.toArray] w (EqX (v=v') w)
 | 0,v,_,h,_,_,_,_,_,_,_,_,_=>by have:=dS v;omega
 |N+1,.mk k n s kids keys,.mk kq nq sq kidsq keysq,hN,cs,cs',F,F',w,hv,hv',hC,hC'=>by
  have ih:=tu N;unfold bf at hN;obtain ⟨_,_,hsl,hkl,hyl,_,hck⟩:=hC.out;obtain ⟨_,_,hsl',hkl',hyl',_,hck'⟩:=hC'.out;obtain ⟨A,B,ca,cb,css,rfl,h1,h2,h3,h4,h5,h6,h7⟩:=hv.out;obtain ⟨A',B',ca',cb',css',rfl,h1',h2',h3',h4',h5',h6',h7'⟩:=hv'.out;have HIH:=aW (λ (i:Nat) (x:JV) (hx:kids[i]? = some x)=>mD h1 h6 hx);have HIH':=aW (λ (i:Nat) (x:JV) (hx:kidsq[i]? = some x)=>mD h1' h6' hx);have HYS:=aW (And.intro h7 h7');have HEQ:=aW (λ (x y:JV) (c c':List Value) (W2:World) (hx:x ∈ kids) (hy:y ∈ kidsq) (hc:VR W2 F c x) (hc':VR W2 F' c' y)=>show Calls Tryz.prog 83 #[.agg c.toArray,.agg c'.toArray] W2 (EqX (x=y) W2) from by
   obtain ⟨i,hi⟩:=List.mem_iff_getElem?.1 hx;obtain ⟨hn1,hn2⟩:=iY hi;exact ih x y (by omega) c c' F F' W2 hc hc' (hck x hx) (hck' y hy))
  have HT0:=aW (jj.new w 42 #[Zi Zq k,Zi Zq n,Zt ⟨s.toArray⟩,Zs A kids.length ca,Zs B keys.length cb] #[Zi Zq kq,Zi Zq nq,Zt ⟨sq.toArray⟩,Zs A' kidsq.length ca',Zs B' keysq.length cb']);obtain ⟨nk,hnk⟩:∃ nk,kids.length=nk:=⟨_,rfl⟩
  obtain ⟨ny,hny⟩:∃ ny,keys.length=ny:=⟨_,rfl⟩
  obtain ⟨nkq,hnkq⟩:∃ nkq,kidsq.length=nkq:=⟨_,rfl⟩
  obtain ⟨nyq,hnyq⟩:∃ nyq,keysq.length=nyq:=⟨_,rfl⟩
  rw [hnk,hny,hnkq,hnyq] at HT0 ⊢;rw [hnk] at hkl h2;rw [hny] at hyl h3;rw [hnkq] at hkl' h2';rw [hnyq] at hyl' h3';have HNK:=aW (And.intro (And.intro hnk hnkq) (And.intro hny hnyq));have y1:w.heap.size≠w.heap.size+1:=by omega
  have y2:w.heap.size+1≠w.heap.size:=by omega
  clear hv hv' hC hC' hck hck' h1 h1' h4 h4' h5 h5' h6 h6' h7 h7' hnk hny hnkq hnyq ih hN;obtain ⟨PP,hPP⟩:∃ PP:Prop,(JV.mk k n s kids keys=JV.mk kq nq sq kidsq keysq)=PP:=⟨_,rfl⟩
  rw [hPP];have HPN:=aW (show (k≠kq∨n≠nq∨s≠sq∨kids≠kidsq∨keys≠keysq)->¬ PP by
   rw [← hPP];intro h e;injection e with e1 e2 e3 e4 e5
   rcases h with h | h | h | h | h
   ·exact h e1
   ·exact h e2
   ·exact h e3
   ·exact h e4
   ·exact h e5)
  have HPY:=aW (show k=kq->n=nq->s=sq->kids=kidsq->keys=keysq->PP by rw [← hPP];rintro rfl rfl rfl rfl rfl;rfl);clear hPP;obtain ⟨c1,f1,l1⟩:=HT0.out.1.rules;obtain ⟨c2,f2,l2⟩:=HT0.out.2.1.rules;by_cases ek:k=kq
  case neg =>
   have HNO:=aW (HPN.out (.inl ek));have hb1:(k != kq)=true:=by simp [ek]
   go_enter Tryz.func83,Tryz.ntmps83;go_wp2;go_ret;exact EqX.no HNO.out HT0.out.2.2
  by_cases en:n=nq
  case neg =>
   have HNO:=aW (HPN.out (.inr (.inl en)));have hb1:(n != nq)=true:=by simp [en]
   subst ek;go_enter Tryz.func83,Tryz.ntmps83;go_wp2;go_ret;exact EqX.no HNO.out HT0.out.2.2
  by_cases es:s=sq
  case neg =>
   have HNO:=aW (HPN.out (.inr (.inr (.inl es))));have hb1:(s != sq)=true:=by simp [es]
   subst ek en;go_enter Tryz.func83,Tryz.ntmps83;go_wp2;go_ret;exact EqX.no HNO.out HT0.out.2.2
  by_cases elk:nk=nkq
  case neg =>
   have HNO:=aW (HPN.out (.inr (.inr (.inr (.inl λ e=>elk (by rw [← HNK.out.1.1,← HNK.out.1.2,e]))))));have hb1:((nk:Int) != nkq)=true:=by simp;omega
   subst ek en es;go_enter Tryz.func83,Tryz.ntmps83;go_wp2;go_ret;exact EqX.no HNO.out HT0.out.2.2
  by_cases ely:ny=nyq
  case neg =>
   have HNO:=aW (HPN.out (.inr (.inr (.inr (.inr λ e=>ely (by rw [← HNK.out.2.1,← HNK.out.2.2,e]))))));have hb1:((ny:Int) != nyq)=true:=by simp;omega
   subst ek en es elk;go_enter Tryz.func83,Tryz.ntmps83;go_wp2;go_ret;exact EqX.no HNO.out HT0.out.2.2
  subst ek en es elk ely;have HQ0:=aW (Below.refl ((w.alloc (.cells #[Zi Zq k,Zi Zq n,Zt ⟨s.toArray⟩,Zs A nk ca,Zs B ny cb] 42)).alloc (.cells #[Zi Zq k,Zi Zq n,Zt ⟨s.toArray⟩,Zs A' nk ca',Zs B' ny cb'] 42)).heap.size ((w.alloc (.cells #[Zi Zq k,Zi Zq n,Zt ⟨s.toArray⟩,Zs A nk ca,Zs B ny cb] 42)).alloc (.cells #[Zi Zq k,Zi Zq n,Zt ⟨s.toArray⟩,Zs A' nk ca',Zs B' ny cb'] 42)));go_enter Tryz.func83,Tryz.ntmps83;go_wp2;clear c1 f1 l1 c2 f2 l2;go_loopg [5] ny (λ gk s5 wr => ∃ i:Nat,i<=ny/\gk=ny-i/\s5=Zi Zq (i:Int)/\Hid (keys.take i=keysq.take i)/\Hid (jj w 42 #[Zi Zq k,Zi Zq n,Zt ⟨s.toArray⟩,Zs A nk ca,Zs B ny cb] #[Zi Zq k,Zi Zq n,Zt ⟨s.toArray⟩,Zs A' nk ca',Zs B' ny cb'] wr))
  case atStart=>exact ⟨0,Nat.zero_le _,rfl,by go_num,aW rfl,HT0⟩
  case round =>
   obtain ⟨i,hi,hgk,rfl,HSM,HT⟩:=hrel;have HGK:=aW hgk;clear hgk;obtain ⟨c1,f1,l1⟩:=HT.out.1.rules;obtain ⟨c2,f2,l2⟩:=HT.out.2.1.rules;have HB0:=aW HT.out.2.2;by_cases hlt:i<ny
   ·obtain ⟨x,hx⟩:∃ x,keys[i]? = some x:=⟨_,List.getElem?_eq_getElem (by rw [HNK.out.2.1];exact hlt)⟩
    obtain ⟨y,hy⟩:∃ y,keysq[i]? = some y:=⟨_,List.getElem?_eq_getElem (by rw [HNK.out.2.2];exact hlt)⟩
    obtain ⟨b,o,rfl,hlb0,hz0⟩:=oO HYS.out.1 hx;obtain ⟨b',o',rfl,hlb0',hz0'⟩:=oO HYS.out.2 hy;have hlb:b<wr.heap.size:=Nat.lt_of_lt_of_le hlb0 HB0.out.size;have hlb':b'<wr.heap.size:=Nat.lt_of_lt_of_le hlb0' HB0.out.size;have hz:=(HB0.out.cell (p:=⟨b,o+i,none⟩) hlb0).trans hz0;have hz':=(HB0.out.cell (p:=⟨b',o'+i,none⟩) hlb0').trans hz0';have HXY:=aW (show x=y->keys.take (i+1)=keysq.take (i+1) from λ e=>by rw [List.take_add_one,List.take_add_one,HSM.out,hx,hy,e]);have HXN:=aW (show x≠y->keys≠keysq from λ e h=>e (by rw [h,hy] at hx;exact (Option.some.inj hx).symm));obtain ⟨bb,hbb⟩:∃ bb,(x != y)=bb:=⟨_,rfl⟩
    have e1:(x == y) = !bb:=by rw [← hbb];simp [bne]
    have e2:((⟨x.toArray⟩:ByteArray).toList == (⟨y.toArray⟩:ByteArray).toList) = !bb:=by rw [d5,← hbb];by_cases h:x=y<;>simp [h]
    have HBB:=aW hbb;clear hz0 hz0' hx hy hlb0 hlb0';go_upto_region 6 with fail;clear c1 f1 l1 c2 f2 l2;refine wp_region_held_drew (S:=λ W'=>Below wr.heap.size wr W') (by kernel_rfl) (by exact (Below.refl _ _).drew) (λ hHeld=>?_);refine ap (λ w2 hw2=>?_);have HW2:=aW (show Below wr.heap.size wr w2 by rw [hw2];exact (Below.refl _ _).drew);clear hw2;refine tA 0 51 (Zp (some ⟨w.heap.size,4,none⟩)) rfl ?_;refine aY 1 52 (Zs (some ⟨b,o,none⟩) ny cb) rfl ?_ ?_
    ·intro W hSw;obtain ⟨c8,f8,l8⟩:=(HT.out.keep hSw).1.rules;go_simp
    refine tA 2 53 (Zi Zq (i:Int)) rfl ?_;refine tA 3 54 (Zp (some ⟨b,o+i,none⟩)) rfl ?_;refine aY 4 55 (Zt ⟨x.toArray⟩) rfl ?_ ?_
    ·intro W hSw;have z8:=(Below.cell hSw (p:=⟨b,o+i,none⟩) hlb).trans hz;go_simp
    refine tA 5 56 (Zp (some ⟨w.heap.size+1,4,none⟩)) rfl ?_;refine aY 6 57 (Zs (some ⟨b',o',none⟩) ny cb') rfl ?_ ?_
    ·intro W hSw;obtain ⟨c8,f8,l8⟩:=(HT.out.keep hSw).2.1.rules;go_simp
    refine tA 7 58 (Zi Zq (i:Int)) rfl ?_;refine tA 8 59 (Zp (some ⟨b',o'+i,none⟩)) rfl ?_;refine aY 9 60 (Zt ⟨y.toArray⟩) rfl ?_ ?_
    ·intro W hSw;have z8:=(Below.cell hSw (p:=⟨b',o'+i,none⟩) hlb').trans hz';go_simp
    refine tA 10 61 (.bool bb) rfl ?_;refine aX ?_;have HT2:=aW (HT.out.keep HW2.out);cases bb with
    |true =>
     have HNO:=aW (HPN.out (.inr (.inr (.inr (.inr (HXN.out (by have:=HBB.out;simpa using this)))))));go_wp2;go_ret;exact EqX.no HNO.out HT2.out.2.2
    |false =>
     have HK:=aW (HXY.out (by have:=HBB.out;simpa using this));go_wp2;go_roundg (ny-(i+1))
     case measure=>have:=HGK.out;omega
     case rel=>exact ⟨i+1,hlt,rfl,by go_num,HK,HT2⟩
   ·obtain rfl:ny=i:=by omega
    have HKY:=aW (show keys=keysq by
     have e1:=HSM.out;rwa [List.take_of_length_le (Nat.le_of_eq HNK.out.2.1),List.take_of_length_le (Nat.le_of_eq HNK.out.2.2)] at e1)
    have HT9:=HT;clear HSM HT HB0 HT0 HQ0 HGK;go_wp2;clear c1 f1 l1 c2 f2 l2;obtain ⟨wo,hwo⟩:∃ wo:World,wo=wr:=⟨_,rfl⟩
    rw [← hwo] at HT9 ⊢;clear hwo;go_loopg [6] nk (λ gk s6 wr => ∃ i:Nat,i<=nk/\gk=nk-i/\s6=Zi Zq (i:Int)/\Hid (kids.take i=kidsq.take i)/\Hid (jj w 42 #[Zi Zq k,Zi Zq n,Zt ⟨s.toArray⟩,Zs A nk ca,Zs B ny cb] #[Zi Zq k,Zi Zq n,Zt ⟨s.toArray⟩,Zs A' nk ca',Zs B' ny cb'] wr))
    case atStart=>exact ⟨0,Nat.zero_le _,rfl,by go_num,aW rfl,HT9⟩
    case round =>
     obtain ⟨i,hi,hgk,rfl,HSM,HT⟩:=hrel;have HGK:=aW hgk;clear hgk;obtain ⟨c1,f1,l1⟩:=HT.out.1.rules;obtain ⟨c2,f2,l2⟩:=HT.out.2.1.rules;have HB0:=aW HT.out.2.2;by_cases hlt:i<nk
     ·obtain ⟨x,hx⟩:∃ x,kids[i]? = some x:=⟨_,List.getElem?_eq_getElem (by rw [HNK.out.1.1];exact hlt)⟩
      obtain ⟨y,hy⟩:∃ y,kidsq[i]? = some y:=⟨_,List.getElem?_eq_getElem (by rw [HNK.out.1.2];exact hlt)⟩
      obtain ⟨b,o,kx,nx,sx,Ax,nax,cax,Bx,nbx,cbx,rfl,hb,hvx,hz⟩:=HIH.out i x hx;obtain ⟨b',o',ky,ny_,sy,Ay,nay,cay,By,nby,cby,rfl,hb',hvx',hz'⟩:=HIH'.out i y hy;have HCL:=aW (λ (W:World) (h:Below wr.heap.size wr W)=>have hh:=HB0.out.trans (h.mono HB0.out.size);HEQ.out x y _ _ W (List.mem_of_getElem? hx) (List.mem_of_getElem? hy) (hvx.bel hh) (hvx'.bel hh));have HXY:=aW (show x=y->kids.take (i+1)=kidsq.take (i+1) from λ e=>by rw [List.take_add_one,List.take_add_one,HSM.out,hx,hy,e]);have HXN:=aW (show x≠y->kids≠kidsq from λ e h=>e (by rw [h,hy] at hx;exact (Option.some.inj hx).symm));clear hvx hvx' hx hy hb hb';go_upto_region 11 with fail;clear c1 f1 l1 c2 f2 l2;refine wp_region_held_drew (S:=λ W'=>Below wr.heap.size wr W') (by kernel_rfl) (by exact (Below.refl _ _).drew) (λ hHeld=>?_);refine ap (λ w2 hw2=>?_);have HW2:=aW (show Below wr.heap.size wr w2 by rw [hw2];exact (Below.refl _ _).drew);clear hw2;refine tA 0 69 (Zp (some ⟨w.heap.size,3,none⟩)) rfl ?_;refine aY 1 70 (Zs (some ⟨b,o,none⟩) nk ca) rfl ?_ ?_
      ·intro W hSw;obtain ⟨c8,f8,l8⟩:=(HT.out.keep hSw).1.rules;go_simp
      refine tA 2 71 (Zi Zq (i:Int)) rfl ?_;refine tA 3 72 (Zp (some ⟨b,o+i*5,none⟩)) rfl ?_;refine aY 4 73 (.agg #[Zi Zq kx,Zi Zq nx,Zt sx,Zs Ax nax cax,Zs Bx nbx cbx]) rfl ?_ ?_
      ·intro W hSw;obtain ⟨z0,z1,z2,z3,z4⟩:=hz W (HB0.out.trans (hSw.mono HB0.out.size));go_simp
      refine tA 5 74 (Zp (some ⟨w.heap.size+1,3,none⟩)) rfl ?_;refine aY 6 75 (Zs (some ⟨b',o',none⟩) nk ca') rfl ?_ ?_
      ·intro W hSw;obtain ⟨c8,f8,l8⟩:=(HT.out.keep hSw).2.1.rules;go_simp
      refine tA 7 76 (Zi Zq (i:Int)) rfl ?_;refine tA 8 77 (Zp (some ⟨b',o'+i*5,none⟩)) rfl ?_;refine aY 9 78 (.agg #[Zi Zq ky,Zi Zq ny_,Zt sy,Zs Ay nay cay,Zs By nby cby]) rfl ?_ ?_
      ·intro W hSw;obtain ⟨z0,z1,z2,z3,z4⟩:=hz' W (HB0.out.trans (hSw.mono HB0.out.size));go_simp
      refine aV 10 79 rfl (λ K hK=>?_);go_simp;refine (HCL.out _ HW2.out).mono ?_;rintro e w3 ⟨tt,rfl,htt,hb3⟩;have HW3:=aW (HW2.out.trans (hb3.mono HW2.out.size));have HTT:=aW htt;clear hb3 htt;refine hK.out _ _ (by exact HW3.out) (λ hHeld2=>?_);clear hK K hHeld;have hHeld:=hHeld2;clear hHeld2
      try simp only [pU]
      refine tA 11 80 (.bool (!tt)) rfl ?_;refine aX ?_;have HT2:=aW (HT.out.keep HW3.out);cases tt with
      |true =>
       have HK:=aW (HXY.out (HTT.out.1 (by trivial)));go_wp2;go_roundg (nk-(i+1))
       case measure=>have:=HGK.out;omega
       case rel=>exact ⟨i+1,hlt,rfl,by go_num,HK,HT2⟩
      |false =>
       have HNO:=aW (HPN.out (.inr (.inr (.inr (.inl (HXN.out λ e=>by have:=HTT.out.2 e;cases this))))));go_wp2;go_ret;exact EqX.no HNO.out HT2.out.2.2
     ·obtain rfl:i=nk:=by omega
      have HKK:=aW (show kids=kidsq by
       have e1:=HSM.out;rwa [List.take_of_length_le (Nat.le_of_eq HNK.out.1.1),List.take_of_length_le (Nat.le_of_eq HNK.out.1.2)] at e1)
      go_wp2;go_ret;exact EqX.yes (HPY.out (by trivial) (by trivial) (by trivial) HKK.out HKY.out) HT.out.2.2
end
end Go.Proofs.YtgmnmnnoahdjnaaGreatDoor
