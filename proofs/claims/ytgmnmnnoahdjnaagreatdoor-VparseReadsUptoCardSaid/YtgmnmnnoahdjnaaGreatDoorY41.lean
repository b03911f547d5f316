import Derived.Test.YtgmnmnnoahdjnaaGreatDoorY40
import Derived.Test.YtgmnmnnoahdjnaaGreatDoorY39
import Derived.Test.YtgmnmnnoahdjnaaGreatDoorY34
open Go.Value renaming int → Zi, slice → Zs, string → Zt, pointer → Zp
open Go.IntKind renaming i64 → Zq
set_option maxRecDepth 100000
set_option maxHeartbeats 16000000
set_option linter.unusedVariables false
set_option linter.unusedSimpArgs false
namespace Go.Proofs.YtgmnmnnoahdjnaaGreatDoor
section
open Go.RowKit
attribute [local go_sem] aa ac ae ab
theorem yF (A:Option Addr) (nT cap:Nat) (T:List ap) (M:Nat) (hT:WT T) (hB:tV A nT cap T M) (p:Nat) (b:Bool) (w:World) (hV:bW w A nT T) (hp:p<nT) (hM:nT-p<=M+1) :
  Calls Tryz.prog 93 #[tkV A nT cap p b] w (wf (if b=true then .bad p else eK T p) A nT cap w):=by
 obtain ⟨r,hr⟩:∃ r,(if b=true then .bad p else eK T p)=r:=⟨_,rfl⟩
 have HR0:=aW hr.symm;rw [hr];have HL:=aW hV.len;obtain ⟨c1,hc1⟩:∃ c,(!b && al T p [123])=c:=⟨_,rfl⟩
 obtain ⟨q1,hq1⟩:∃ z,(if c1=true then p+1 else p)=z:=⟨_,rfl⟩
 obtain ⟨b1,hb1⟩:∃ z,(!c1)=z:=⟨_,rfl⟩
 have HW1:=aW (λ W (h:bW W A nT T)=>gE [123] W A nT cap T p b c1 h hp hc1);have hn1:q1<nT:=by rw [← hq1];exact jZ hT HL.out hp hc1
 have hl1:p<=q1:=by rw [← hq1];split<;>omega
 rw [hq1,hb1] at HW1;have HST:=aW (λ W (h:bW W A nT T)=>vx A nT cap T M hT hB q1 b1 W h hn1 (by omega));have HC1:=aW (And.intro hc1 (And.intro hq1 hb1));unfold tkV at HW1 HST ⊢;have HV:=aW (λ W (h:Below w.heap.size w W)=>hV.keep h);have HPN:=aW hp;have HH0:=aW (((az.nil w).push 82 #[Zs A nT cap,Zi Zq p,.bool b] (g:=w.heap.size) rfl).push 82 #[Zs none 0 0,Zi Zq 0,.bool false] (g:=w.heap.size+1) (by simp));obtain ⟨W0,hW0⟩:∃ W0,(w.alloc (.cells #[Zs A nT cap,Zi Zq p,.bool b] 82)).alloc (.cells #[Zs none 0 0,Zi Zq 0,.bool false] 82)=W0:=⟨_,rfl⟩
 have HHW:=aW (show az [(w.heap.size+1,82,#[Zs none 0 0,Zi Zq 0,.bool false]),(w.heap.size,82,#[Zs A nT cap,Zi Zq p,.bool b])] w W0 by rw [← hW0];exact HH0.out);have HS0:=aW (show w.heap.size+2<=W0.heap.size by rw [← hW0];simp);have HW0:=aW hW0;clear hV hr hc1 hq1 hb1 hn1 hl1 hM hp hW0 HH0;go_enter Tryz.func93,Tryz.ntmps93;go_upto_region 1 with fail;rw [HW0.out];obtain ⟨c0,f0,l0⟩:=HHW.out.b1.rules;clear HW0;go_wp2_with fail;refine (HW1.out _ (HV.out _ HHW.out.1)).mono ?_;rintro e w1 ⟨rfl,hz1⟩;have HH1:=aW (HHW.out.keep hz1);have HS1:=aW (Nat.le_trans HS0.out hz1.size);clear hz1 c0 f0 l0 HHW HS0;go_wp2_with fail;refine (HST.out _ (HV.out _ HH1.out.1)).mono ?_;rintro e w2 ⟨B,n,ca,css,l,q2,b2,rfl,hn,hnc,hbn,hsr,hrd,hz2,hq2,hr2⟩;unfold tkV;obtain ⟨c3,hc3⟩:∃ c,(!b2 && al T q2 [125])=c:=⟨_,rfl⟩
 obtain ⟨q3,hq3⟩:∃ z,(if c3=true then q2+1 else q2)=z:=⟨_,rfl⟩
 obtain ⟨b3,hb3⟩:∃ z,(!c3)=z:=⟨_,rfl⟩
 have HW3:=aW (λ W (h:bW W A nT T)=>gE [125] W A nT cap T q2 b2 c3 h hq2 hc3);rw [hq3,hb3] at HW3;unfold tkV at HW3;have HF:=aW (show q3<nT/\r=prB b3 l q3 from ⟨by rw [← hq3];exact jZ hT HL.out hq2 hc3,by
  have h1:=HC1.out;have h2:(if b1=true then .bad q1 else eS T [] q1)=prB b2 l q2:=hr2;rw [← h1.2.2,← h1.2.1] at h2;rw [HR0.out,← hb3,← hq3];exact uc (hT:=hT) (by rw [HL.out];exact HPN.out) h1.1 h2 hc3⟩)
 have HH2:=aW (HH1.out.keep hz2);have HX:=aW (And.intro hn (And.intro hnc (And.intro hbn (And.intro hsr hrd))));have HS2:=aW (Nat.le_trans HS1.out hz2.size);clear hz2 hn hnc hbn hsr hrd hq2 hr2 hc3 hq3 hb3 HR0 HC1;obtain ⟨c0,f0,l0⟩:=HH2.out.b1.rules;go_upto_region 2 with fail;obtain ⟨W3,hW3⟩:∃ W',((w2.setCell ⟨w.heap.size,0,none⟩ (Zs A nT cap)).setCell ⟨w.heap.size,1,none⟩ (Zi Zq q2)).setCell ⟨w.heap.size,2,none⟩ (.bool b2)=W':=⟨_,rfl⟩
 rw [hW3];have HT3:=aW (show Blk W3 w.heap.size 82 #[Zs A nT cap,Zi Zq q2,.bool b2] by rw [← hW3];exact ((HH2.out.b1.set_ 0 _).set_ 1 _).set_ 2 _);have HR3:=aW (show Blk W3 (w.heap.size+1) 82 #[Zs none 0 0,Zi Zq 0,.bool false] by rw [← hW3];exact Blk.far3 HH2.out.b0 (by omega) _ _ _);have HB3:=aW (show Below w.heap.size w W3 by rw [← hW3];exact ((HH2.out.1.setCell (p:=⟨w.heap.size,0,none⟩) (Nat.le_refl _) _).setCell (p:=⟨w.heap.size,1,none⟩) (Nat.le_refl _) _).setCell (p:=⟨w.heap.size,2,none⟩) (Nat.le_refl _) _);have HK3:=aW (show af (λ b=>w.heap.size+2<=b) w2 W3 by rw [← hW3];exact af.setC (λ k hk=>by omega) [_,_,_] 0 af.refl);clear hW3 c0 f0 l0 HH2;obtain ⟨c0,f0,l0⟩:=HT3.out.rules;go_wp2_with fail;refine (HW3.out _ (HV.out _ HB3.out)).mono ?_;rintro e w4 ⟨rfl,hz4⟩;have HR4:=aW (HR3.out.keep hz4);have HB4:=aW (HB3.out.trans (hz4.mono HB3.out.size));have HK4:=aW (HK3.out.trans (af.of_below hz4));clear hz4 c0 f0 l0 HT3 HR3;obtain ⟨c0,f0,l0⟩:=HR4.out.rules;go_wp2;refine bodyPost_ret (v:=.tuple #[Zs B n ca,.agg #[Zs A nT cap,Zi Zq q3,.bool b3]]) (by simp only [results,Tryz.results93];go_simp) rfl ?_;have hk:af (λ b=>w.heap.size+2<=b) w2 (((w4.setCell ⟨w.heap.size+1,0,none⟩ (Zs A nT cap)).setCell ⟨w.heap.size+1,1,none⟩ (Zi Zq q3)).setCell ⟨w.heap.size+1,2,none⟩ (.bool b3)):=af.setC (λ k hk=>by omega) [_,_,_] 0 HK4.out;have hm:∀ k,k<w2.heap.size->NW w1 k->w.heap.size+2<=k:=λ k _ h=>Nat.le_trans HS1.out h
 have hm2:∀ W:World,∀ k,k<W.heap.size->w.heap.size+2<=k->NW w k:=λ W k _ h=>by unfold NW;omega
 obtain ⟨hn,hnc,hbn,hsr,hrd⟩:=HX.out;exact ⟨B,n,ca,css,l,q3,b3,rfl,hn,hnc,hbn,RR.imp hsr λ c x hc=>((SR.mono hc hm).keep hk).mono (hm2 _),((hrd.mono hm).keep hk).mono (hm2 _),((HB4.out.setCell (p:=⟨w.heap.size+1,0,none⟩) (by dsimp only;omega) _).setCell (p:=⟨w.heap.size+1,1,none⟩) (by dsimp only;omega) _).setCell (p:=⟨w.heap.size+1,2,none⟩) (by dsimp only;omega) _,HF.out.1,HF.out.2⟩
theorem sA (A:Option Addr) (nT cap:Nat) (T:List ap) (hT:WT T):∀ M,tV A nT cap T M
 | 0=>λ p b W hV hp h=>by omega
 | M+1=>λ p b W hV hp h=>yF A nT cap T M hT (sA A nT cap T hT M) p b W hV hp h
theorem tE (A:Option Addr) (nT cap:Nat) (T:List ap) (hT:WT T) (p:Nat) (w:World) (hV:bW w A nT T) (hp:p<nT) :
  Calls Tryz.prog 53 #[tkV A nT cap p false] w (wf (eS T [] p) A nT cap w) :=
 vx A nT cap T nT hT (sA A nT cap T hT nT) p false w hV hp (by omega)
theorem yH (s:ByteArray) (w:World) (hs:s.size<=4194304):Calls Tryz.prog 23 #[Zt s] w (kX (cW (sl s)) w):=by
 obtain ⟨o,ho⟩:∃ o,cW (sl s)=o:=⟨_,rfl⟩
 rw [ho];obtain ⟨⟨T,pl,er⟩,hlx⟩:∃ r,ey (sl s)=r:=⟨_,rfl⟩
 have HO:=aW (show o=(if er≠0 then ([],pl,er) else wQ T (fL T)) by rw [← ho];unfold cW;rw [hlx];rfl);have HLX:=aW (λ W=>(show Calls Tryz.prog 52 #[Zt s] W (fC (T,pl,er) W) from hlx ▸ vr s W hs));have HWT:=aW (λ (h:er=0)=>rq (l:=sl s) (T:=T) (a:=pl) (by rw [hlx,h]));clear ho hlx;unfold fC at HLX;have HH0:=aW ((az.nil w).push 24 #[Zs none 0 0] (g:=w.heap.size) rfl);by_cases he:er=0
 ·obtain ⟨hT,hTG,hTn⟩:=HWT.out he;subst he;obtain ⟨nT,hnT⟩:∃ n,T.length=n:=⟨_,rfl⟩
  have hn9:nT<=1000:=by rw [← hnT];exact hTG.1
  have h0:0<nT:=by rw [← hnT];exact List.length_pos_iff.2 hTn
  have HPC:=aW (λ l q (h:fL T=.ok l q)=>km hT hTG (by rw [hnT];exact h0) h);have HNT:=aW hnT;have HO1:=aW (show o=wQ T (fL T) by rw [HO.out,if_neg (λ h=>h rfl)]);have HST:=aW (λ A cap W (h:bW W A nT T)=>tE A nT cap T hT 0 W h h0);unfold tkV at HST;clear hTG hTn h0 hnT HWT HO;go_enter Tryz.func23,Tryz.ntmps23;go_wp2_with fail;refine (HLX.out _).mono ?_;rintro e w1 ⟨v,rfl,⟨A,cap,rfl,hcap,hrd⟩,hb1⟩;rw [HNT.out] at hcap ⊢;have HH1:=aW (HH0.out.keep hb1);have HTM:=aW (show bW w1 A nT T from ⟨λ hn=>by obtain ⟨b,o,e,hb,hx⟩:=hrd hn;exact ⟨b,o,e,hb,trivial,hx⟩,HNT.out,hn9⟩);clear hcap hrd hb1;go_wp2_with fail;refine (HST.out A cap _ HTM.out).mono ?_;rintro e w2 ⟨B,n,ca,css,l,q,b,rfl,hn,hnc,hbn,hsr,hrd,hz,hq,hr⟩;unfold tkV;have HX:=aW (And.intro hn (And.intro hnc (And.intro hbn (And.intro hsr hrd))));have HH2:=aW (HH1.out.keep hz);have HT2:=aW (HTM.out.keep hz);have HSZ:=aW (show w.heap.size<w1.heap.size from HH1.out.b0.lt);have HQR:=aW (And.intro hq (And.intro hr hz.size));clear hn hnc hbn hsr hrd hz hq hr HH1 HTM;go_upto_region 5 with fail;obtain ⟨g9,hg9⟩:∃ z,w2.heap.size=z:=⟨_,rfl⟩
  obtain ⟨W3,hW3⟩:∃ W',w2.alloc (.cells #[Zs A nT cap,Zi Zq q,.bool b] 82)=W':=⟨_,rfl⟩
  rw [hW3]
  try rw [hg9]
  have hb3:Below w2.heap.size w2 W3:=by rw [← hW3];exact (Below.refl _ _).alloc (Nat.le_refl _) _
  have HN9:=aW (show Blk W3 g9 82 #[Zs A nT cap,Zi Zq q,.bool b] by rw [← hW3,← hg9];exact Blk.new _ _ _);have HH3:=aW (HH2.out.keep hb3);have HT3:=aW (HT2.out.keep hb3);have hgn:w.heap.size≠g9:=by have:=HSZ.out;have:=HQR.out.2.2;omega
  have HX3:=aW (show n=l.length/\n<=ca/\(B=none->ca=0)/\SRs W3 (NW w1) css l/\RdF W3 (NW w1) B css.flatten from ⟨HX.out.1,HX.out.2.1,HX.out.2.2.1,RR.imp HX.out.2.2.2.1 λ c x hc=>SR.bel hc hb3,HX.out.2.2.2.2.keep (af.of_below hb3)⟩);clear hb3 hW3 hg9 HH2 HT2 HX;obtain ⟨d,oo,hA,hd,x0,x1,_,_⟩:=HT3.out.tok HQR.out.1;obtain ⟨k,hk⟩:∃ k,tkK T q=k:=⟨_,rfl⟩
  obtain ⟨at_,hat⟩:∃ a,((tkA T q:Nat):Int)=a:=⟨_,rfl⟩
  rw [hk] at x0;rw [hat] at x1;have hq9:(q:Int)<(nT:Int):=by have:=HQR.out.1;omega
  have hdw:d≠w.heap.size:=by
   rintro rfl;have h9:=HH3.out.b0.cell (oo+q*4+1);rw [x1] at h9;rw [Array.getElem?_eq_none (by simp)] at h9;cases h9
  have HCA:=aW (show au W3 ⟨d,oo+q*4+1,none⟩ (Zi Zq at_) from x1);have HD:=aW (And.intro hd hdw);clear x1 hdw;obtain ⟨c0,f0,l0⟩:=HN9.out.rules;by_cases hbad:b=true∨¬ k=6
  ·have HR:=aW (show o=(([]:List SJ),at_,(330:Int)) by
    rw [HO1.out,jN,show eS T [] 0=prB b l q from HQR.out.2.1,← hat];unfold prB;cases b
    ·have h6:¬ tkK T q=6:=by rw [hk];rcases hbad with h | h;cases h;exact h
     simp only [Bool.false_eq_true,if_false];rw [if_neg h6];try rfl
    ·rfl)
   have e6:b=true∨(b=false/\(k != 6)=true):=by
    cases b
    ·exact .inr ⟨rfl,by rcases hbad with h | h;cases h;simpa using h⟩
    ·exact .inl rfl
   clear hbad hk hat;rcases e6 with rfl | ⟨rfl,e6⟩
   all_goals
    go_upto_region 6 with fail;have HRS:=aW HH3.out.b0;clear c0 f0 l0 x0;have hd:=HD.out.1;have hdw:=HD.out.2;refine wp_region_held_drew (S:=λ W' => ∃ b,Blk W' g9 82 #[Zs A nT cap,Zi Zq q,.bool b]/\au W' ⟨d,oo+q*4+1,none⟩ (Zi Zq at_)) (by kernel_rfl) (by exact ⟨_,HN9.out,HCA.out⟩) (λ hHeld=>?_);refine ai (λ Y0 hw=>?_);have HZ:=aW (show Below W3.heap.size W3 Y0 by rw [hw];exact (Below.refl _ _).drew);clear hw hHeld;have hHeld:(λ W' => ∃ b,Blk W' g9 82 #[Zs A nT cap,Zi Zq q,.bool b]/\au W' ⟨d,oo+q*4+1,none⟩ (Zi Zq at_)) Y0:=⟨_,HN9.out.keep HZ.out,HCA.out.keep HZ.out hd⟩
    refine aY 0 39 (.agg #[Zs none 0 0]) rfl ?_ ?_
    ·intro W hSw;obtain ⟨b8,hb8,z2⟩:=hSw;obtain ⟨c,f,l⟩:=hb8.rules;unfold au at z2;go_simp
    refine aY 1 40 (Zs A nT cap) rfl ?_ ?_
    ·intro W hSw;obtain ⟨b8,hb8,z2⟩:=hSw;obtain ⟨c,f,l⟩:=hb8.rules;unfold au at z2;go_simp
    refine aY 2 41 (Zp (some ⟨g9,1,none⟩)) rfl ?_ ?_
    ·intro W hSw;obtain ⟨b8,hb8,z2⟩:=hSw;obtain ⟨c,f,l⟩:=hb8.rules;unfold au at z2;go_simp
    refine aY 3 42 (Zi Zq (q:Int)) rfl ?_ ?_
    ·intro W hSw;obtain ⟨b8,hb8,z2⟩:=hSw;obtain ⟨c,f,l⟩:=hb8.rules;unfold au at z2;go_simp
    refine aY 4 43 (Zp (some ⟨d,oo+q*4,none⟩)) rfl ?_ ?_
    ·intro W hSw;obtain ⟨b8,hb8,z2⟩:=hSw;obtain ⟨c,f,l⟩:=hb8.rules;unfold au at z2;go_simp
    refine aY 5 44 (Zp (some ⟨d,oo+q*4+1,none⟩)) rfl ?_ ?_
    ·intro W hSw;obtain ⟨b8,hb8,z2⟩:=hSw;obtain ⟨c,f,l⟩:=hb8.rules;unfold au at z2;go_simp
    refine aY 6 45 (Zi Zq at_) rfl ?_ ?_
    ·intro W hSw;obtain ⟨b8,hb8,z2⟩:=hSw;obtain ⟨c,f,l⟩:=hb8.rules;unfold au at z2;go_simp
    refine aU 7 rfl (λ K hK=>?_);obtain ⟨c9,f9,l9⟩:=(HRS.out.keep HZ.out).rules;go_simp;refine hK.out _ _ (by obtain ⟨b8,h1,h2⟩:=hHeld;exact ⟨b8,h1.far (p:=⟨w.heap.size,0,none⟩) (by dsimp only;omega) _,h2.far (p:=⟨w.heap.size,0,none⟩) (by dsimp only;omega) _⟩) (λ hHeld=>?_);clear hK K c9 f9 l9
    try simp only [pU]
    refine ai (λ Y1 hY1=>?_);rw [← hY1] at hHeld;have HB9:=aW (show Blk Y1 w.heap.size 24 #[Zs none 0 0] by rw [hY1];exact (HRS.out.keep HZ.out).set_ 0 _);have HBZ:=aW (show Below w.heap.size w Y1 by rw [hY1];exact (HH3.out.1.trans (HZ.out.mono HH3.out.1.size)).setCell (p:=⟨w.heap.size,0,none⟩) (Nat.le_refl _) _);clear hY1;refine aY 8 3 (Zi Zq at_) rfl ?_ ?_
    ·intro W hSw;obtain ⟨b8,hb8,z2⟩:=hSw;obtain ⟨c,f,l⟩:=hb8.rules;unfold au at z2;go_simp
    refine aY 9 4 (Zi Zq 330) rfl ?_ ?_
    ·intro W hSw;obtain ⟨b8,hb8,z2⟩:=hSw;obtain ⟨c,f,l⟩:=hb8.rules;unfold au at z2;go_simp
    refine aX ?_;clear hHeld;obtain ⟨c9,f9,l9⟩:=HB9.out.rules;go_wp2;refine bodyPost_ret (v:=.tuple #[.agg #[Zs none 0 0],Zi Zq at_,Zi Zq 330]) (by simp only [results,Tryz.results23];go_simp) rfl ?_;rw [HR.out];exact kX.err HBZ.out
  ·have hb0:b=false:=by cases b<;>simp_all
   have hk6:k=6:=Decidable.byContradiction λ h=>hbad (.inr h)
   subst hb0 hk6;have HPO:=aW (show fL T=.ok l q by
    rw [jN,show eS T [] 0=PR.ok l q from HQR.out.2.1];simp only;rw [if_pos hk])
   obtain ⟨hcam,hl9⟩:=HPC.out l q HPO.out;obtain ⟨mb,hmb⟩:∃ b,lX l=b:=⟨_,rfl⟩
   have HR:=aW (show o=if mb=true then (l,(0:Int),(0:Int)) else (([]:List SJ),(0:Int),(331:Int)) by rw [HO1.out,HPO.out,← hmb];rfl);have e6:((6:Int) != 6)=false:=by decide
   have HRG:=aW (λ (W:World) (h:Below W3.heap.size W3 W)=>wX l css B n ca W (RR.imp HX3.out.2.2.2.1 λ c x hc=>(SR.bel hc h).mono λ _ _ _=>trivial) HX3.out.1.symm HX3.out.2.1 ((HX3.out.2.2.2.2.keep (af.of_below h)).mono λ _ _ _=>trivial) hcam (by have:=HX3.out.1;omega));unfold dl at HRG;rw [hmb] at HRG;clear hbad hk hat hcam hl9 hmb;go_upto_region 8 with fail;obtain ⟨W4,hW4⟩:∃ W',W3.alloc (.cells #[Zs B n ca] 24)=W':=⟨_,rfl⟩
   obtain ⟨g4,hg4⟩:∃ z,W3.heap.size=z:=⟨_,rfl⟩
   rw [hW4]
   try rw [hg4]
   have hb4:Below W3.heap.size W3 W4:=by rw [← hW4];exact (Below.refl _ _).alloc (Nat.le_refl _) _
   have HP4:=aW (show Blk W4 g4 24 #[Zs B n ca] by rw [← hW4,← hg4];exact Blk.new _ _ _);have HB4:=aW hb4;have hne:w.heap.size≠g4:=by have:=HH3.out.b0.lt;omega
   clear hb4 hW4 hg4 c0 f0 l0 x0;obtain ⟨c0,f0,l0⟩:=HP4.out.rules;go_wp2_with fail;refine (HRG.out _ HB4.out).mono ?_;rintro e w5 ⟨rfl,hb5⟩;have HB5:=aW (HB4.out.trans (hb5.mono HB4.out.size));have HP5:=aW (HP4.out.keep hb5);clear hb5 c0 f0 l0;have HH5:=aW (HH3.out.keep HB5.out);obtain ⟨c0,f0,l0⟩:=HP5.out.rules;obtain ⟨c1,f1,l1⟩:=HH5.out.b0.rules;cases mb
   ·go_wp2;refine bodyPost_ret (v:=.tuple #[.agg #[Zs none 0 0],Zi Zq 0,Zi Zq 331]) (by simp only [results,Tryz.results23];go_simp) rfl ?_;rw [HR.out];exact kX.err (HH5.out.1.setCell (p:=⟨w.heap.size,0,none⟩) (Nat.le_refl _) _)
   ·go_wp2;refine bodyPost_ret (v:=.tuple #[.agg #[Zs B n ca],Zi Zq 0,Zi Zq 0]) (by simp only [results,Tryz.results23];go_simp) rfl ?_;have hk:af (NW w1) W3 (w5.setCell ⟨w.heap.size,0,none⟩ (Zs B n ca)):=af.set (af.of_below HB5.out) (λ k hk=>by have h9:w1.heap.size<=k:=hk;have:=HSZ.out;omega) 0 _;rw [HR.out];have hs9:=HSZ.out;exact ⟨B,n,ca,css,rfl,HX3.out.1,HX3.out.2.1,HX3.out.2.2.1,RR.imp HX3.out.2.2.2.1 λ c y hc=>(SR.keep hc hk).mono λ b _ hb=>by unfold NW at hb ⊢;omega,(HX3.out.2.2.2.2.keep hk).mono λ b _ hb=>by unfold NW at hb ⊢;omega,HH5.out.1.setCell (p:=⟨w.heap.size,0,none⟩) (Nat.le_refl _) _⟩
 ·have heb:(er != 0)=true:=by simpa using he
  have HR:=aW (show o=([],pl,er) by rw [HO.out,if_pos he]);clear he;rw [HR.out];go_enter Tryz.func23,Tryz.ntmps23;go_wp2_with (go_at_call 52;refine (HLX.out _).mono ?_;rintro e w1 ⟨v,rfl,hts,hb1⟩;have HH1:=aW (HH0.out.keep hb1);obtain ⟨c0,f0,l0⟩:=HH1.out.b0.rules;clear hts hb1);refine bodyPost_ret (v:=.tuple #[.agg #[Zs none 0 0],Zi Zq pl,Zi Zq er]) (by simp only [results,Tryz.results23];go_simp) rfl ?_;exact kX.err (HH1.out.1.setCell (p:=⟨w.heap.size,0,none⟩) (Nat.le_refl _) _)
theorem yj (s:ByteArray) (w:World) (hs:s.size<=maxLen):Calls Tryz.prog 21 #[Zt s,Zi Zq 513] w λ e w'=>e=.returned (Zt ⟨((sl s).take 513).toArray⟩)/\w'=w:=by
 unfold maxLen at hs;obtain ⟨n,hn⟩:∃ n,s.size=n:=⟨_,rfl⟩
 obtain ⟨m,hm⟩:∃ m,min n 513=m:=⟨_,rfl⟩
 have hmn:m<=n:=by omega
 have HMI:=aW (show min (n:Int) 513=(m:Int) by omega);have hif:(if 513<(n:Int) then 513 else (n:Int))=(m:Int):=by split<;>omega
 have HKEY:=aW (show s.extract 0 m=⟨((sl s).take 513).toArray⟩ by
  refine jU ?_;rw [eO];have e:(sl s).take 513=(sl s).take m:=by rw [← hm,← hn,← bL,Nat.min_comm,← List.take_take,List.take_length]
  rw [e];show (s.extract 0 m).data.toList=s.data.toList.take m
  rw [ByteArray.data_extract,Array.toList_extract];simp [List.extract])
 clear hm;go_enter Tryz.func21,Tryz.ntmps21;go_wp2;go_ret;refine ⟨wZ ?_,rfl⟩
 try rw [HMI.out]
 try rw [Int.toNat_natCast]
 exact HKEY.out
theorem lc (s:ByteArray) (w:World) (hG:GOE w) (hs:s.size<=maxLen) :
  Calls Tryz.prog 4 #[Zt s] w (λ e w'=>e=.returned (.bool true)/\Below w.heap.size w w'):=by
 have HWK:=aW (wF w hG);have HCU:=aW (λ W=>yj s W hs);obtain ⟨s2,hs2⟩:∃ z:ByteArray,⟨((sl s).take 513).toArray⟩=z:=⟨_,rfl⟩
 have hz2:s2.size<=4194304:=by
  rw [← hs2];show ((sl s).take 513).toArray.size<=_
  simp;omega
 rw [hs2] at HCU;have HP1:=aW (λ (W:World) (h:Below w.heap.size w W)=>iS s2 W (hG.keep h) hz2);have HP2:=aW (λ (W:World)=>yH s2 W hz2);obtain ⟨⟨l,pl,er⟩,ho⟩:∃ o,cW (sl s2)=o:=⟨_,rfl⟩
 have hcam:=nQ (sl s2);rw [ho] at HP1 HP2 hcam;have HCM:=aW hcam;unfold kX at HP1 HP2;simp only at HP1 HP2;clear hG hs hs2 hz2 ho hcam;go_enter Tryz.func4,Tryz.ntmps4;go_wp2_with fail;refine HWK.out.mono ?_;rintro e w1 ⟨rfl,hb1⟩;have HB1:=aW hb1;clear hb1;go_wp2_with fail;refine (HCU.out _).mono ?_;rintro e w2 ⟨rfl,rfl⟩;go_wp2_with fail;refine (HP1.out _ HB1.out).mono ?_;rintro e w3 ⟨A1,n1,ca1,css1,rfl,hn1,hc1,_,hs1,hr1,hb3⟩;obtain ⟨W4,hW4⟩:∃ W',w3.alloc (.cells #[Zs A1 n1 ca1] 24)=W':=⟨_,rfl⟩
 have hb4:Below w3.heap.size w3 W4:=by rw [← hW4];exact (Below.refl _ _).alloc (Nat.le_refl _) _
 have HB4:=aW ((HB1.out.trans (hb3.mono HB1.out.size)).trans (hb4.mono (Nat.le_trans HB1.out.size hb3.size)));have HX4:=aW (show Blk W4 w3.heap.size 24 #[Zs A1 n1 ca1] by rw [← hW4];exact Blk.new _ _ _);have HS4:=aW (show n1=l.length/\n1<=ca1/\SRs W4 TT css1 l/\RdF W4 TT A1 css1.flatten from ⟨hn1,hc1,RR.imp hs1 λ c x hc=>(SR.bel hc hb4).mono λ _ _ _=>trivial,(hr1.keep (af.of_below hb4)).mono λ _ _ _=>trivial⟩);have HW4:=aW hW4;obtain ⟨g1,hg1⟩:∃ z,w3.heap.size=z:=⟨_,rfl⟩
 rw [hg1] at HX4;have HG1:=aW hg1;clear hn1 hc1 hs1 hr1 hb3 hb4 hW4 hg1;go_wp2_with fail;rw [HW4.out]
 try rw [HG1.out]
 clear HW4 HG1;refine (HP2.out _).mono ?_;rintro e w5 ⟨A2,n2,ca2,css2,rfl,hn2,hc2,_,hs2,hr2,hb5⟩;obtain ⟨W6,hW6⟩:∃ W',w5.alloc (.cells #[Zs A2 n2 ca2] 24)=W':=⟨_,rfl⟩
 have hb6:Below w5.heap.size w5 W6:=by rw [← hW6];exact (Below.refl _ _).alloc (Nat.le_refl _) _
 have HB46:=hb5.trans (hb6.mono hb5.size);have HB6:=aW (HB4.out.trans (HB46.mono HB4.out.size));have HX6:=aW (HX4.out.keep HB46);have HY6:=aW (show Blk W6 w5.heap.size 24 #[Zs A2 n2 ca2] by rw [← hW6];exact Blk.new _ _ _);have HSM:=aW (sD _ l l (Nat.lt_succ_self _) css1 css2 A1 A2 n1 n2 ca1 ca2 TT TT W6 HS4.out.1.symm hn2.symm (by have:=HS4.out.1;have:=HCM.out.2;omega) (by have:=HCM.out.2;omega)
  (RR.imp HS4.out.2.2.1 λ c x hc=>SR.bel hc HB46) (HS4.out.2.2.2.keep (af.of_below HB46)) (RR.imp hs2 λ c x hc=>(SR.bel hc hb6).mono λ _ _ _=>trivial) ((hr2.keep (af.of_below hb6)).mono λ _ _ _=>trivial) HS4.out.2.1 hc2 HCM.out.1 HCM.out.1)
 have HW6:=aW hW6;obtain ⟨g2,hg2⟩:∃ z,w5.heap.size=z:=⟨_,rfl⟩
 rw [hg2] at HY6;have HG2:=aW hg2;clear hn2 hc2 hs2 hr2 hb5 hb6 hW6 hg2 HB46;unfold EqX at HSM;go_upto_region 6 with fail;rw [HW6.out]
 try rw [HG2.out]
 clear HW6 HG2;obtain ⟨c1,f1,l1⟩:=HX6.out.rules;obtain ⟨c2,f2,l2⟩:=HY6.out.rules;go_wp2_with fail;refine HSM.out.mono ?_;rintro e w7 ⟨t,rfl,ht,hb7⟩;obtain rfl:t=true:=by simpa using ht
 go_wp2;go_ret;exact ⟨rfl,HB6.out.trans (hb7.mono HB6.out.size)⟩
end
end Go.Proofs.YtgmnmnnoahdjnaaGreatDoor
