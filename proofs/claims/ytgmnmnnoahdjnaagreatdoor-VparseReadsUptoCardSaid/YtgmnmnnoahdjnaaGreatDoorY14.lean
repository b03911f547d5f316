import Derived.Test.YtgmnmnnoahdjnaaGreatDoorY12
open Go.Value renaming int → Zi, slice → Zs, string → Zt, pointer → Zp
open Go.IntKind renaming i64 → Zq
set_option maxRecDepth 100000
set_option maxHeartbeats 16000000
set_option linter.unusedVariables false
set_option linter.unusedSimpArgs false
namespace Go.Proofs.YtgmnmnnoahdjnaaGreatDoor
section
open Go.RowKit
attribute [local go_sem] aa ac ae ab
theorem xe (s:List UInt8):(ByteArray.toList ⟨s.toArray⟩).isEmpty=(s == []):=by
 rw [ByteArray.toList_eq];cases s<;>rfl
theorem wU (cs:List Value) (k n:Int) (s:List UInt8) (kids:List JV) (keys:List (List UInt8)) (F:Nat->Prop) (w:World) (hv:VR w F cs (.mk k n s kids keys)) (hc:dc (.mk k n s kids keys)) :
  Calls Tryz.prog 214 #[.agg cs.toArray] w (dl (cz k n s kids.length keys) w):=by
 obtain ⟨A,B,ca,cb,css,rfl,h1,h2,h3,h4,h5,h6,h7⟩:=hv.out;obtain ⟨b1,b2,b3,b4,b5,b6,b7⟩:=hc.out;obtain ⟨sb,hsb⟩:∃ sb:ByteArray,(⟨s.toArray⟩:ByteArray)=sb:=⟨_,rfl⟩
 rw [hsb];have HSN:=aW (show sb.toList.isEmpty=(s == []) by rw [← hsb];exact xe s);have HVS:=aW (λ W=>by have h:=mu s W b3;rw [hsb] at h;exact h);clear hsb;obtain ⟨r,hr⟩:∃ r,cz k n s kids.length keys=r:=⟨_,rfl⟩
 rw [hr];have HK:=aW (show RdF w (λ _=>True) B (kw keys) from h7.mono λ _ _ _=>trivial);have HTS:=aW b6;have HS:=aW b3;obtain ⟨ny,hny⟩:∃ ny,keys.length=ny:=⟨_,rfl⟩
 obtain ⟨nk,hnk⟩:∃ nk,kids.length=nk:=⟨_,rfl⟩
 have HNY:=aW hny;rw [hnk] at hr b4 h2 ⊢;rw [hny] at b5 h3 ⊢;have HR:=aW hr;have hyn:(keys == [])=decide (ny=0):=by rw [← hny];cases keys<;>rfl
 have HYN:=aW hyn;have HBW:=aW ((Below.refl w.heap.size w).alloc (Nat.le_refl _) (.cells #[Zi Zq k,Zi Zq n,Zt sb,Zs A nk ca,Zs B ny cb] 42));clear hv hc h1 h6 h7 hny hnk h4 h5 b1 b2 b3 b6 b7 hr hyn;go_enter Tryz.func214,Tryz.ntmps214;go_wp2;go_loopg [3] ny (λ gk s3 wr => ∃ i:Nat,i<=ny/\gk=ny-i/\s3=Zi Zq i/\Blk wr w.heap.size 42 #[Zi Zq k,Zi Zq n,Zt sb,Zs A nk ca,Zs B ny cb]/\Below w.heap.size w wr/\Hid (df keys=dA keys i))
 case atStart=>exact ⟨0,Nat.zero_le _,rfl,rfl,Blk.new w _ _,HBW.out,aW (pV keys).symm⟩
 case round =>
  obtain ⟨i,hi,hgk,rfl,hb1,hbw,HQ⟩:=hrel;have HG:=aW hgk;clear hgk;obtain ⟨c1,f1,l1⟩:=hb1.rules;have g4:=c1 4;simp at g4;have HB1:=aW hb1;have HBW1:=aW hbw;by_cases hlt:i<ny
  ·obtain ⟨b,o,rfl,hb⟩:=od HK.out (by rw [HNY.out];omega);obtain ⟨t,ht⟩:∃ t,keys[i]? = some t:=⟨_,List.getElem?_eq_getElem (by rw [HNY.out];exact hlt)⟩
   have HV:=aW (mu t wr.drew (HTS.out t (List.mem_of_getElem? ht)));have HC:=aW (λ W (h:Below w.heap.size w W)=>iQ (n:=0) (HK.out.keep (af.of_below h)) ht);have x0:=HC.out wr hbw;have hTT:=aW ht;have hbad:df keys=false->r=false:=λ h=>by
    rw [← HR.out];unfold cz;have hne:(keys == [])=false:=by rw [HYN.out];simp;omega
    rw [h,hne];simp
   have HBAD:=aW hbad;clear ht hbad;by_cases htx:cA t=true;rotate_left
   ·have hkf:df keys=false:=by
     rcases Nat.eq_zero_or_pos i with rfl | h0
     ·rw [HQ.out,gO hTT.out,Bool.eq_false_iff.2 htx];rfl
     ·obtain ⟨j,rfl⟩:∃ j,i=j+1:=⟨i-1,by omega⟩
      obtain ⟨u,hu⟩:∃ u,keys[j]? = some u:=⟨_,List.getElem?_eq_getElem (by rw [HNY.out];omega)⟩
      rw [HQ.out,ip hu hTT.out,Bool.eq_false_iff.2 htx];rfl
    obtain rfl:r=false:=HBAD.out hkf;rw [Bool.eq_false_iff.2 htx] at HV;have i3:(0:Int)<=(i:Int):=by omega
    have i4:(i:Int)<(ny:Int):=by omega
    clear htx hTT hkf;go_wp2;refine wp_region_held_drew (S:=λ w'=>w'.cell? ⟨w.heap.size,4,none⟩=some (Zs (some ⟨b,o,none⟩) ny cb)/\w'.cell? ⟨b,o+i,none⟩=some (Zt ⟨t.toArray⟩)) (by kernel_rfl) (by exact ⟨g4,x0⟩) (λ hHeld=>?_);refine tA 0 13 (Zp (some ⟨w.heap.size,4,none⟩)) rfl ?_;refine tA 1 14 (Zs (some ⟨b,o,none⟩) ny cb) rfl ?_;refine tA 2 15 (Zi Zq i) rfl ?_;refine tA 3 16 (Zp (some ⟨b,o+i,none⟩)) rfl ?_;refine tA 4 17 (Zt ⟨t.toArray⟩) rfl ?_;refine aV 5 18 rfl (λ K hK=>?_);go_simp;refine HV.out.mono ?_;rintro e w2 ⟨rfl,hb2⟩;have hbl2:=HB1.out.drew.keep hb2;have hbw2:=HBW1.out.drew.trans (hb2.mono HBW1.out.drew.size);have z0:=hbl2.cell 4;have z1:=HC.out w2 hbw2;simp at z0;refine hK.out _ _ (⟨z0,z1⟩) (λ hHeld2=>?_);clear hK K hHeld
    try simp only [pU]
    refine tA 6 19 (.bool true) rfl ?_;refine tA 7 20 (.bool true) rfl ?_;refine tN 8 21 undef rfl ?_;refine tN 9 22 undef rfl ?_;refine tN 10 23 undef rfl ?_;refine tN 11 24 undef rfl ?_;refine tN 12 25 undef rfl ?_;refine tN 13 26 undef rfl ?_;refine tN 14 27 undef rfl ?_;refine tN 15 28 undef rfl ?_;refine tN 16 29 undef rfl ?_;refine tN 17 30 undef rfl ?_;refine tN 18 31 undef rfl ?_;refine tN 19 32 undef rfl ?_;refine tN 20 33 undef rfl ?_;refine tN 21 34 undef rfl ?_;refine tN 22 35 undef rfl ?_;refine tN 23 36 undef rfl ?_;refine tA 24 37 (.bool true) rfl ?_;refine aX ?_;have HM2:=aW hbw2;clear hbl2 hbw2 z0 z1;go_wp2;go_ret;exact ⟨rfl,HM2.out⟩
   by_cases h0:0<i
   ·obtain ⟨j,rfl⟩:∃ j,i=j+1:=⟨i-1,by omega⟩
    obtain ⟨u,hu⟩:∃ u,keys[j]? = some u:=⟨_,List.getElem?_eq_getElem (by rw [HNY.out];omega)⟩
    have HST:=aW (ip hu hTT.out);have HD:=aW (λ W (h:Below w.heap.size w W)=>iQ (n:=0) (HK.out.keep (af.of_below h)) hu);have x1:=HD.out wr hbw;clear hTT hu;obtain ⟨i,hij⟩:∃ i,j+1=i:=⟨_,rfl⟩
    rw [show j+2=i+1 by omega] at HST;rw [hij] at hi HG hlt HQ HST HC x0 h0 ⊢;have i1:(0:Int)<=(j:Int):=by omega
    have i2:(j:Int)<(ny:Int):=by omega
    have i3:(0:Int)<=(i:Int):=by omega
    have i4:(i:Int)<(ny:Int):=by omega
    have i5:(0:Int)<(i:Int):=by omega
    have i6:IntKind.i64.wrap ((i:Int)-1)=(i:Int)-1:=IntWalk.i64_in _ (by omega);have i8:(0:Int)<=(i:Int)-1:=by omega
    have i9:(i:Int)-1<(ny:Int):=by omega
    have i10:((i:Int)-1).toNat=j:=by omega
    have i11:¬ (i:Int)<1:=by omega
    clear hij
    ·rw [htx] at HV;obtain ⟨lb,hlb⟩:∃ c,ltB u t=c:=⟨_,rfl⟩
     have hup:Op.bytesLess u t=lb:=hlb;have HLB:=aW (And.intro htx hlb);clear htx hlb;go_wp2;refine wp_region_held_drew (S:=λ w'=>w'.cell? ⟨w.heap.size,4,none⟩=some (Zs (some ⟨b,o,none⟩) ny cb)/\w'.cell? ⟨b,o+i,none⟩=some (Zt ⟨t.toArray⟩)/\w'.cell? ⟨b,o+j,none⟩=some (Zt ⟨u.toArray⟩)) (by kernel_rfl) (by exact ⟨g4,x0,x1⟩) (λ hHeld=>?_);refine tA 0 13 (Zp (some ⟨w.heap.size,4,none⟩)) rfl ?_;refine tA 1 14 (Zs (some ⟨b,o,none⟩) ny cb) rfl ?_;refine tA 2 15 (Zi Zq i) rfl ?_;refine tA 3 16 (Zp (some ⟨b,o+i,none⟩)) rfl ?_;refine tA 4 17 (Zt ⟨t.toArray⟩) rfl ?_;refine aV 5 18 rfl (λ K hK=>?_);go_simp;refine HV.out.mono ?_;rintro e w2 ⟨rfl,hb2⟩;have hbl2:=HB1.out.drew.keep hb2;have hbw2:=HBW1.out.drew.trans (hb2.mono HBW1.out.drew.size);have z0:=hbl2.cell 4;have z1:=HC.out w2 hbw2;have z2:=HD.out w2 hbw2;simp at z0;refine hK.out _ _ (⟨z0,z1,z2⟩) (λ hHeld2=>?_);clear hK K hHeld
     try simp only [pU]
     refine tA 6 19 (.bool false) rfl ?_;refine tA 7 20 (.bool false) rfl ?_;refine tA 8 21 (Zi Zq i) rfl ?_;refine tA 9 22 (.bool true) rfl ?_;refine tA 10 23 (.bool true) rfl ?_;refine tA 11 24 (Zp (some ⟨w.heap.size,4,none⟩)) rfl ?_;refine tA 12 25 (Zs (some ⟨b,o,none⟩) ny cb) rfl ?_;refine tA 13 26 (Zi Zq i) rfl ?_;refine tA 14 27 (Zi Zq ((i:Int)-1)) rfl ?_;refine tA 15 28 (Zp (some ⟨b,o+j,none⟩)) rfl ?_;refine tA 16 29 (Zt ⟨u.toArray⟩) rfl ?_;refine tA 17 30 (Zp (some ⟨w.heap.size,4,none⟩)) rfl ?_;refine tA 18 31 (Zs (some ⟨b,o,none⟩) ny cb) rfl ?_;refine tA 19 32 (Zi Zq i) rfl ?_;refine tA 20 33 (Zp (some ⟨b,o+i,none⟩)) rfl ?_;refine tA 21 34 (Zt ⟨t.toArray⟩) rfl ?_;refine tA 22 35 (.bool (!lb)) rfl ?_;refine tA 23 36 (.bool (!lb)) rfl ?_;refine tA 24 37 (.bool (!lb)) rfl ?_;refine aX ?_;have HL2:=aW hbl2;have HM2:=aW hbw2;clear hbl2 hbw2 z0 z1 z2;cases lb
     ·obtain rfl:r=false:=HBAD.out (by rw [HQ.out,HST.out,HLB.out.1,HLB.out.2];rfl);go_wp2;go_ret;exact ⟨rfl,HM2.out⟩
     ·have HQ2:=aW (show df keys=dA keys (i+1) by rw [HQ.out,HST.out,HLB.out.1,HLB.out.2];rfl);go_wp2;go_roundg (ny-(i+1))
      case measure=>rw [HG.out];omega
      case rel=>exact ⟨i+1,hlt,rfl,by go_num,HL2.out,HM2.out,HQ2⟩
   ·obtain rfl:i=0:=by omega
    have i4:(0:Int)<(ny:Int):=by omega
    have HST:=aW (gO hTT.out);rw [Nat.add_zero] at x0;clear hTT h0
    ·rw [htx] at HV;have HQ2:=aW (show df keys=dA keys (0+1) by rw [HQ.out,HST.out,htx];rfl);clear htx;go_wp2;refine wp_region_held_drew (S:=λ w'=>w'.cell? ⟨w.heap.size,4,none⟩=some (Zs (some ⟨b,o,none⟩) ny cb)/\w'.cell? ⟨b,o,none⟩=some (Zt ⟨t.toArray⟩)) (by kernel_rfl) (by exact ⟨g4,x0⟩) (λ hHeld=>?_);refine tA 0 13 (Zp (some ⟨w.heap.size,4,none⟩)) rfl ?_;refine tA 1 14 (Zs (some ⟨b,o,none⟩) ny cb) rfl ?_;refine tA 2 15 (Zi Zq 0) rfl ?_;refine tA 3 16 (Zp (some ⟨b,o,none⟩)) rfl ?_;refine tA 4 17 (Zt ⟨t.toArray⟩) rfl ?_;refine aV 5 18 rfl (λ K hK=>?_);go_simp;refine HV.out.mono ?_;rintro e w2 ⟨rfl,hb2⟩;have hbl2:=HB1.out.drew.keep hb2;have hbw2:=HBW1.out.drew.trans (hb2.mono HBW1.out.drew.size);have z0:=hbl2.cell 4;have z1:=HC.out w2 hbw2;simp at z0;rw [Nat.add_zero] at z1;refine hK.out _ _ (⟨z0,z1⟩) (λ hHeld2=>?_);clear hK K hHeld
     try simp only [pU]
     refine tA 6 19 (.bool false) rfl ?_;refine tA 7 20 (.bool false) rfl ?_;refine tA 8 21 (Zi Zq 0) rfl ?_;refine tA 9 22 (.bool false) rfl ?_;refine tA 10 23 (.bool false) rfl ?_;refine tN 11 24 undef rfl ?_;refine tN 12 25 undef rfl ?_;refine tN 13 26 undef rfl ?_;refine tN 14 27 undef rfl ?_;refine tN 15 28 undef rfl ?_;refine tN 16 29 undef rfl ?_;refine tN 17 30 undef rfl ?_;refine tN 18 31 undef rfl ?_;refine tN 19 32 undef rfl ?_;refine tN 20 33 undef rfl ?_;refine tN 21 34 undef rfl ?_;refine tN 22 35 undef rfl ?_;refine tA 23 36 (.bool false) rfl ?_;refine tA 24 37 (.bool false) rfl ?_;refine aX ?_;have HL2:=aW hbl2;have HM2:=aW hbw2;clear hbl2 hbw2 z0 z1;go_wp2;go_roundg (ny-(0+1))
     case measure=>rw [HG.out];omega
     case rel=>exact ⟨0+1,hlt,rfl,by go_num,HL2.out,HM2.out,HQ2⟩
  ·obtain rfl:i=ny:=by omega
   have hko:df keys=true:=by rw [HQ.out,← HNY.out,lR]
   have g0:=c1 0;have g1:=c1 1;have g2:=c1 2;have g3:=c1 3;simp at g0 g1 g2 g3;have hr:=HR.out;unfold cz at hr;rw [hko,HYN.out,HNY.out] at hr;have HR2:=aW hr;have HSN2:=HSN.out;clear hr hko HQ HG HNY HYN HK HTS HS HR HSN c1;go_wp2;go_region_held3 (λ w'=>w'.cell? ⟨w.heap.size,0,none⟩=some (Zi Zq k)/\w'.cell? ⟨w.heap.size,1,none⟩=some (Zi Zq n)/\w'.cell? ⟨w.heap.size,2,none⟩=some (Zt sb)/\w'.cell? ⟨w.heap.size,3,none⟩=some (Zs A nk ca)/\w'.cell? ⟨w.heap.size,4,none⟩=some (Zs B i cb)) (go_keep) (fail)
   all_goals
    clear hlt;by_cases k1:k=1
    ·subst k1;cases q_n0:(n == 0)
     ·obtain rfl:r=false:=by rw [← HR2.out];simp [q_n0];try omega
      go_wp2;go_ret;exact ⟨rfl,HBW1.out.drew⟩
     ·cases q_s:(s == [])
      ·have p1:sb.toList.isEmpty=false:=by rw [HSN2,q_s]
       have p1b:decide (sb.toList=[])=false:=by rw [← p1];cases sb.toList<;>simp
       simp only [decide_eq_true_eq,decide_eq_false_iff_not] at p1b;obtain rfl:r=false:=by rw [← HR2.out];simp [q_n0,q_s];try omega
       go_wp2;go_ret;exact ⟨rfl,HBW1.out.drew⟩
      ·have p1:sb.toList.isEmpty=true:=by rw [HSN2,q_s]
       have p1b:decide (sb.toList=[])=true:=by rw [← p1];cases sb.toList<;>simp
       simp only [decide_eq_true_eq,decide_eq_false_iff_not] at p1b;cases q_nk:(nk == 0)
       ·have p2:((nk:Int) == 0)=false:=by simp at q_nk ⊢;omega
        obtain rfl:r=false:=by rw [← HR2.out];simp [q_n0,q_s,q_nk];try omega
        go_wp2;go_ret;exact ⟨rfl,HBW1.out.drew⟩
       ·have p2:((nk:Int) == 0)=true:=by simp at q_nk ⊢;omega
        cases q_ny:(decide (i=0))
        ·have p3:((i:Int) == 0)=false:=by simp at q_ny ⊢;omega
         obtain rfl:r=false:=by rw [← HR2.out];simp [q_n0,q_s,q_nk,q_ny];try omega
         go_wp2;go_ret;exact ⟨rfl,HBW1.out.drew⟩
        ·have p3:((i:Int) == 0)=true:=by simp at q_ny ⊢;omega
         obtain rfl:r=true:=by rw [← HR2.out];simp [q_n0,q_s,q_nk,q_ny];try omega
         go_wp2;go_ret;exact ⟨rfl,HBW1.out.drew⟩
    have m1:(k == 1)=false:=by simp [k1]
    by_cases k2:k=2
    ·subst k2;cases q_n0:(n == 0)
     ·cases q_n1:(n == 1)
      ·obtain rfl:r=false:=by rw [← HR2.out];simp [q_n0,q_n1];try omega
       go_wp2;go_ret;exact ⟨rfl,HBW1.out.drew⟩
      ·cases q_s:(s == [])
       ·have p1:sb.toList.isEmpty=false:=by rw [HSN2,q_s]
        have p1b:decide (sb.toList=[])=false:=by rw [← p1];cases sb.toList<;>simp
        simp only [decide_eq_true_eq,decide_eq_false_iff_not] at p1b;obtain rfl:r=false:=by rw [← HR2.out];simp [q_n0,q_n1,q_s];try omega
        go_wp2;go_ret;exact ⟨rfl,HBW1.out.drew⟩
       ·have p1:sb.toList.isEmpty=true:=by rw [HSN2,q_s]
        have p1b:decide (sb.toList=[])=true:=by rw [← p1];cases sb.toList<;>simp
        simp only [decide_eq_true_eq,decide_eq_false_iff_not] at p1b;cases q_nk:(nk == 0)
        ·have p2:((nk:Int) == 0)=false:=by simp at q_nk ⊢;omega
         obtain rfl:r=false:=by rw [← HR2.out];simp [q_n0,q_n1,q_s,q_nk];try omega
         go_wp2;go_ret;exact ⟨rfl,HBW1.out.drew⟩
        ·have p2:((nk:Int) == 0)=true:=by simp at q_nk ⊢;omega
         cases q_ny:(decide (i=0))
         ·have p3:((i:Int) == 0)=false:=by simp at q_ny ⊢;omega
          obtain rfl:r=false:=by rw [← HR2.out];simp [q_n0,q_n1,q_s,q_nk,q_ny];try omega
          go_wp2;go_ret;exact ⟨rfl,HBW1.out.drew⟩
         ·have p3:((i:Int) == 0)=true:=by simp at q_ny ⊢;omega
          obtain rfl:r=true:=by rw [← HR2.out];simp [q_n0,q_n1,q_s,q_nk,q_ny];try omega
          go_wp2;go_ret;exact ⟨rfl,HBW1.out.drew⟩
     ·cases q_s:(s == [])
      ·have p1:sb.toList.isEmpty=false:=by rw [HSN2,q_s]
       have p1b:decide (sb.toList=[])=false:=by rw [← p1];cases sb.toList<;>simp
       simp only [decide_eq_true_eq,decide_eq_false_iff_not] at p1b;obtain rfl:r=false:=by rw [← HR2.out];simp [q_n0,q_s];try omega
       go_wp2;go_ret;exact ⟨rfl,HBW1.out.drew⟩
      ·have p1:sb.toList.isEmpty=true:=by rw [HSN2,q_s]
       have p1b:decide (sb.toList=[])=true:=by rw [← p1];cases sb.toList<;>simp
       simp only [decide_eq_true_eq,decide_eq_false_iff_not] at p1b;cases q_nk:(nk == 0)
       ·have p2:((nk:Int) == 0)=false:=by simp at q_nk ⊢;omega
        obtain rfl:r=false:=by rw [← HR2.out];simp [q_n0,q_s,q_nk];try omega
        go_wp2;go_ret;exact ⟨rfl,HBW1.out.drew⟩
       ·have p2:((nk:Int) == 0)=true:=by simp at q_nk ⊢;omega
        cases q_ny:(decide (i=0))
        ·have p3:((i:Int) == 0)=false:=by simp at q_ny ⊢;omega
         obtain rfl:r=false:=by rw [← HR2.out];simp [q_n0,q_s,q_nk,q_ny];try omega
         go_wp2;go_ret;exact ⟨rfl,HBW1.out.drew⟩
        ·have p3:((i:Int) == 0)=true:=by simp at q_ny ⊢;omega
         obtain rfl:r=true:=by rw [← HR2.out];simp [q_n0,q_s,q_nk,q_ny];try omega
         go_wp2;go_ret;exact ⟨rfl,HBW1.out.drew⟩
    have m2:(k == 2)=false:=by simp [k2]
    by_cases k3:k=3
    ·subst k3;cases q_s:(s == [])
     ·have p1:sb.toList.isEmpty=false:=by rw [HSN2,q_s]
      have p1b:decide (sb.toList=[])=false:=by rw [← p1];cases sb.toList<;>simp
      simp only [decide_eq_true_eq,decide_eq_false_iff_not] at p1b;obtain rfl:r=false:=by rw [← HR2.out];simp [q_s];try omega
      go_wp2;go_ret;exact ⟨rfl,HBW1.out.drew⟩
     ·have p1:sb.toList.isEmpty=true:=by rw [HSN2,q_s]
      have p1b:decide (sb.toList=[])=true:=by rw [← p1];cases sb.toList<;>simp
      simp only [decide_eq_true_eq,decide_eq_false_iff_not] at p1b;cases q_nk:(nk == 0)
      ·have p2:((nk:Int) == 0)=false:=by simp at q_nk ⊢;omega
       obtain rfl:r=false:=by rw [← HR2.out];simp [q_s,q_nk];try omega
       go_wp2;go_ret;exact ⟨rfl,HBW1.out.drew⟩
      ·have p2:((nk:Int) == 0)=true:=by simp at q_nk ⊢;omega
       cases q_ny:(decide (i=0))
       ·have p3:((i:Int) == 0)=false:=by simp at q_ny ⊢;omega
        obtain rfl:r=false:=by rw [← HR2.out];simp [q_s,q_nk,q_ny];try omega
        go_wp2;go_ret;exact ⟨rfl,HBW1.out.drew⟩
       ·have p3:((i:Int) == 0)=true:=by simp at q_ny ⊢;omega
        obtain rfl:r=true:=by rw [← HR2.out];simp [q_s,q_nk,q_ny];try omega
        go_wp2;go_ret;exact ⟨rfl,HBW1.out.drew⟩
    have m3:(k == 3)=false:=by simp [k3]
    by_cases k4:k=4
    ·subst k4;cases q_n0:(n == 0)
     ·obtain rfl:r=false:=by rw [← HR2.out];simp [q_n0];try omega
      go_wp2;go_ret;exact ⟨rfl,HBW1.out.drew⟩
     ·cases q_v:cA s
      ·rw [q_v] at HVS;obtain rfl:r=false:=by rw [← HR2.out];simp [q_n0,q_v];try omega
       go_wp2_with fail;refine (HVS.out _).mono ?_;rintro e w2 ⟨rfl,hb2⟩;have HB2:=aW (HBW1.out.drew.trans (hb2.mono HBW1.out.drew.size));clear hb2;go_wp2;go_ret;exact ⟨rfl,HB2.out⟩
      ·rw [q_v] at HVS;cases q_nk:(nk == 0)
       ·have p2:((nk:Int) == 0)=false:=by simp at q_nk ⊢;omega
        obtain rfl:r=false:=by rw [← HR2.out];simp [q_n0,q_v,q_nk];try omega
        go_wp2_with fail;refine (HVS.out _).mono ?_;rintro e w2 ⟨rfl,hb2⟩;have HB2:=aW (HBW1.out.drew.trans (hb2.mono HBW1.out.drew.size));clear hb2;go_wp2;go_ret;exact ⟨rfl,HB2.out⟩
       ·have p2:((nk:Int) == 0)=true:=by simp at q_nk ⊢;omega
        cases q_ny:(decide (i=0))
        ·have p3:((i:Int) == 0)=false:=by simp at q_ny ⊢;omega
         obtain rfl:r=false:=by rw [← HR2.out];simp [q_n0,q_v,q_nk,q_ny];try omega
         go_wp2_with fail;refine (HVS.out _).mono ?_;rintro e w2 ⟨rfl,hb2⟩;have HB2:=aW (HBW1.out.drew.trans (hb2.mono HBW1.out.drew.size));clear hb2;go_wp2;go_ret;exact ⟨rfl,HB2.out⟩
        ·have p3:((i:Int) == 0)=true:=by simp at q_ny ⊢;omega
         obtain rfl:r=true:=by rw [← HR2.out];simp [q_n0,q_v,q_nk,q_ny];try omega
         go_wp2_with fail;refine (HVS.out _).mono ?_;rintro e w2 ⟨rfl,hb2⟩;have HB2:=aW (HBW1.out.drew.trans (hb2.mono HBW1.out.drew.size));clear hb2;go_wp2;go_ret;exact ⟨rfl,HB2.out⟩
    have m4:(k == 4)=false:=by simp [k4]
    by_cases k5:k=5
    ·subst k5;cases q_n0:(n == 0)
     ·obtain rfl:r=false:=by rw [← HR2.out];simp [q_n0];try omega
      go_wp2;go_ret;exact ⟨rfl,HBW1.out.drew⟩
     ·cases q_s:(s == [])
      ·have p1:sb.toList.isEmpty=false:=by rw [HSN2,q_s]
       have p1b:decide (sb.toList=[])=false:=by rw [← p1];cases sb.toList<;>simp
       simp only [decide_eq_true_eq,decide_eq_false_iff_not] at p1b;obtain rfl:r=false:=by rw [← HR2.out];simp [q_n0,q_s];try omega
       go_wp2;go_ret;exact ⟨rfl,HBW1.out.drew⟩
      ·have p1:sb.toList.isEmpty=true:=by rw [HSN2,q_s]
       have p1b:decide (sb.toList=[])=true:=by rw [← p1];cases sb.toList<;>simp
       simp only [decide_eq_true_eq,decide_eq_false_iff_not] at p1b;cases q_ny:(decide (i=0))
       ·have p3:((i:Int) == 0)=false:=by simp at q_ny ⊢;omega
        obtain rfl:r=false:=by rw [← HR2.out];simp [q_n0,q_s,q_ny];try omega
        go_wp2;go_ret;exact ⟨rfl,HBW1.out.drew⟩
       ·have p3:((i:Int) == 0)=true:=by simp at q_ny ⊢;omega
        obtain rfl:r=true:=by rw [← HR2.out];simp [q_n0,q_s,q_ny];try omega
        go_wp2;go_ret;exact ⟨rfl,HBW1.out.drew⟩
    have m5:(k == 5)=false:=by simp [k5]
    by_cases k6:k=6
    ·subst k6;cases q_n0:(n == 0)
     ·obtain rfl:r=false:=by rw [← HR2.out];simp [q_n0];try omega
      go_wp2;go_ret;exact ⟨rfl,HBW1.out.drew⟩
     ·cases q_s:(s == [])
      ·have p1:sb.toList.isEmpty=false:=by rw [HSN2,q_s]
       have p1b:decide (sb.toList=[])=false:=by rw [← p1];cases sb.toList<;>simp
       simp only [decide_eq_true_eq,decide_eq_false_iff_not] at p1b;obtain rfl:r=false:=by rw [← HR2.out];simp [q_n0,q_s];try omega
       go_wp2;go_ret;exact ⟨rfl,HBW1.out.drew⟩
      ·have p1:sb.toList.isEmpty=true:=by rw [HSN2,q_s]
       have p1b:decide (sb.toList=[])=true:=by rw [← p1];cases sb.toList<;>simp
       simp only [decide_eq_true_eq,decide_eq_false_iff_not] at p1b;cases q_nkny:(decide (nk=i))
       ·have p4:((nk:Int) == (i:Int))=false:=by simp at q_nkny ⊢;omega
        have p5:=of_decide_eq_false q_nkny;obtain rfl:r=false:=by rw [← HR2.out];simp [q_n0,q_s,q_nkny];try omega
        go_wp2;go_ret;exact ⟨rfl,HBW1.out.drew⟩
       ·have p4:((nk:Int) == (i:Int))=true:=by simp at q_nkny ⊢;omega
        have p5:=of_decide_eq_true q_nkny;obtain rfl:r=true:=by rw [← HR2.out];simp [q_n0,q_s,q_nkny];try omega
        go_wp2;go_ret;exact ⟨rfl,HBW1.out.drew⟩
    have m6:(k == 6)=false:=by simp [k6]
    obtain rfl:r=false:=by rw [← HR2.out];simp [k1,k2,k3,k4,k5,k6];try omega
    go_wp2;go_ret;exact ⟨rfl,HBW1.out.drew⟩
end
end Go.Proofs.YtgmnmnnoahdjnaaGreatDoor
