import Derived.Test.YtgmnmnnoahdjnaaGreatDoorH20
import Derived.Deep.CutBlock
open Go.Value renaming int → Zi, slice → Zs, string → Zt, pointer → Zp
open Go.IntKind renaming i64 → Zq
set_option maxRecDepth 100000
set_option maxHeartbeats 16000000
set_option linter.unusedVariables false
set_option linter.unusedSimpArgs false
namespace Go.Proofs.YtgmnmnnoahdjnaaGreatDoor
section
open Go.RowKit Go.Shelf
attribute [local go_sem] ab ae af ac Oper.semAt_some
def StV (g:Nat) (A:Option Addr) (cap:Nat) (l:List UInt8) (X Y:World):Prop:=World.grownBy X Y (some g)/\((∃ p why,VB X g A cap l p why)->∃ p why,VB Y g A cap l p why)
theorem StV.of_below {g:Nat} {A:Option Addr} {cap:Nat} {l:List UInt8} {X Y:World} (h:Below X.heap.size X Y):StV g A cap l X Y :=
 ⟨⟨h.os,h.tape,h.output,h.size,λ i hi _=>h.block i hi⟩,λ ⟨p,why,hv⟩=>⟨p,why,hv.keep h⟩⟩
theorem StV.of_step {g:Nat} {A:Option Addr} {cap:Nat} {l:List UInt8} {X Y:World} {p why:Int} (h:aJ X g A cap l p why Y):StV g A cap l X Y:=⟨h.2,λ _=>⟨p,why,h.1⟩⟩
def sC (x:al):Array Value:=#[rz x.1 x.2.1 ⟨x.2.2.1.toArray⟩ x.2.2.2]
def KpV (B0 g rb wb:Nat):World->World->Prop:=aI λ k=>k<B0∨k=g∨k=rb∨k=wb
def vx (g:Nat) (A:Option Addr) (cap:Nat) (l:List UInt8) (p0:Nat) (xs:List al) (W:World):Prop :=
 xs=(bP l p0).1/\∃ q er:Int,VB W g A cap l q er/\(bP l p0).2=if er=0 then none else some (q,er)
theorem VB.keepOn {S:Nat->Prop} {w W:World} {g:Nat} {A:Option Addr} {cap:Nat} {l:List UInt8} {p why:Int} (h:VB w g A cap l p why) (k:aI S w W) (hg:S g) (hr:Rd W A (aq l)):VB W g A cap l p why:=⟨k.blk h.1 hg,hr⟩
theorem oK (w0:World) (g rb wb:Nat) (A:Option Addr) (cap:Nat) (l:List UInt8) (p0:Nat) (k:Nat) (J Jx:List al->World->Prop) (W:World) (hG:GOK w0) (hr:Rd w0 A (aq l)) (hcap:l.length<=cap) (hlen:l.length<=4194304)
  (hp0:p0<=l.length) (hgr:g≠rb) (hgw:g≠wb) (hg0:w0.heap.size<=g) (hW:aI (· < w0.heap.size) w0 W)
  (hJ:∀ s X Y,StV g A cap l X Y->J s X->J s Y)
  (hY:∀ pre x W1,J pre W1->pre++[x] <+: (bP l p0).1->YieldAt Fence.wide 1 Tryz.prog k (sC x) W1 λ e W' =>
   (e=.returned (.bool true)/\J (pre++[x]) W'/\KpV w0.heap.size g rb wb W1 W')∨(e=.returned (.bool false)/\Jx (pre++[x]) W'/\KpV w0.heap.size g rb wb W1 W'))
  (hV:VB W g A cap l p0 0) (hrb:Blk W rb 109 #[Zp (some ⟨g,0,none⟩)]) (hwb:Blk W wb 165 (jH g)) (h0:J [] W) :
  CallsIn Fence.wide 2 Tryz.prog 134 #[.func (.yield k) #[] #[],Zp (some ⟨rb,0,none⟩),Zp (some ⟨wb,0,none⟩)] W λ e W'=>(∃ v,e=.returned v) /\
   ((∃ xs,vx g A cap l p0 xs W'/\J xs W')∨(∃ pre,pre <+: (bP l p0).1/\Jx pre W')):=by
 have HY:=aW hY;have HJ:=aW hJ;have HP:=aW (ou W g A cap l p0 0 hV hp0 hcap hlen);clear hY hJ;obtain ⟨c1,f1,l1⟩:=hrb.rules;refine callsIn_of_wp Tryz.func134 rfl trivial ?_ rfl;simp only [Tryz.ntmps134,List.size_toArray,List.length_cons,List.length_nil,Nat.reduceAdd,Nat.reduceSub,Array.replicate_succ,Array.replicate_zero,List.push_toArray,List.append_toArray,List.nil_append,List.cons_append];gi_wp2;refine ⟨trivial,CallsIn.mono (callsIn_wide.2 HP.out) ?_⟩;rintro e w1 ⟨rfl,hst1⟩;have hrb1:=hrb.grown hst1.2 (by simpa using hgr.symm);have hwb1:=hwb.grown hst1.2 (by simpa using hgw.symm);have hW1:aI (· < w0.heap.size) w0 w1:=hW.trans ⟨hst1.2.size,λ i hi=>hst1.2.block i (Nat.lt_of_lt_of_le hi hW.1) (by simp;omega)⟩;have hJ1:=HJ.out _ _ _ (StV.of_step hst1) h0;have hV1:=hst1.1;clear hrb hwb hW h0 hV hst1 HP c1 f1 l1;gi_wp2
 gi_loopg [4] (l.length-p0+1) (λ gk _ wr => ∃ (p:Nat) (pre:List al),bM l p<=l.length/\gk=l.length-p+1/\p<=l.length/\(bP l p0).1=pre++(bP l p).1/\(bP l p0).2=(bP l p).2/\J pre wr/\VB wr g A cap l (bM l p) 0 /\
  Blk wr rb 109 #[Zp (some ⟨g,0,none⟩)]/\Blk wr wb 165 (jH g)/\aI (· < w0.heap.size) w0 wr)
 case atStart=>exact ⟨p0,[],oE hp0,rfl,hp0,rfl,rfl,hJ1,hV1,hrb1,hwb1,hW1⟩
 case round =>
  obtain ⟨p,pre,hq,hgk,hp,hpre,hend,hJs,hV,hrb,hwb,hK⟩:=hrel;clear hV1 hrb1 hwb1 hW1 hJ1;obtain ⟨wo,rfl⟩:∃ wo:World,wo=wr:=⟨_,rfl⟩
  obtain ⟨c1,f1,l1⟩:=hrb.rules;obtain ⟨c2,f2,l2⟩:=hwb.rules;obtain ⟨c3,f3,l3⟩:=hV.1.rules;unfold bN at c3;unfold jH at c2;have HQ:=aW hq;have HGK:=aW hgk;have HPRE:=aW hpre;have HEND:=aW hend;clear hq hgk hpre hend;obtain ⟨q,hqq⟩:∃ q,bM l p=q:=⟨_,rfl⟩
  have HQQ:=aW hqq;rw [hqq] at hV c3;clear hqq;by_cases hlt:q<l.length
  ·obtain ⟨c,hc⟩:∃ c,l[q]? = some c:=⟨_,List.getElem?_eq_getElem hlt⟩
   have HC:=aW hc;clear hc;gi_wp2;refine wpIn_wide.2 ?_;go_quiet (fail);gi_wp2;refine wpIn_wide.2 ?_;go_step3;go_wp2;go_step3;obtain ⟨W2,hW2⟩:∃ W2,(wo.drewN nq).alloc (.cells #[Zi Zq 0,Zi Zq 0,Zt ⟨#[]⟩,Zi Zq 0] 86)=W2:=⟨_,rfl⟩
   have hb2:Below wo.heap.size wo W2:=by rw [← hW2];exact (ah (Below.refl _ wo) nq).alloc (Nat.le_refl _) _
   have ht2:Blk W2 wo.heap.size 86 #[Zi Zq 0,Zi Zq 0,Zt ⟨#[]⟩,Zi Zq 0]:=by rw [← hW2];exact Blk.new (wo.drewN nq) _ _
   rw [hW2];have HB2:=aW (And.intro hb2 ht2);clear hW2 c1 f1 l1 c2 f2 l2 c3 f3 l3 hb2 ht2;have HWR:=aW (And.intro hJs (And.intro hV (And.intro hrb (And.intro hwb hK))));clear hJs hV hrb hwb hK;obtain ⟨cw,fw,lw⟩:=(HWR.out.2.2.2.1.keep HB2.out.1).rules;unfold jH at cw;go_upto_block 2 with fail;go_cut [4] (λ s4 wx => ∃ (a bb:Int) (s:ByteArray) (d m y:Int),s4=Zp (some ⟨wo.heap.size,0,none⟩)/\Hid ((a,bb,s,d,m,y)=kU (cK l q) q)/\Blk wx wo.heap.size 86 #[Zi Zq a,Zi Zq bb,Zt s,Zi Zq d]/\VB wx g A cap l m y/\wo.grownBy wx (some g))
   case first =>
    clear cw fw lw;have hV0:=HWR.out.2.1;obtain ⟨b,o,rfl,hbb,hx0⟩:=hV0.byte HC.out;have hGw:GOK wo:=hG.keepOn HWR.out.2.2.2.2 (λ i h=>h);have hk3:=sS c;have hvk:=ld HC.out;have hgl:=hV0.1.lt;have hl0:∀ w,Calls Tryz.prog 122 #[Zi .u8 (c.toNat:Int)] w λ e w'=>e=.returned (.bool (bi c))/\w=w':=λ w=>gV c.toNat w
    have hl1:∀ w,Calls Tryz.prog 123 #[Zi .u8 (c.toNat:Int)] w λ e w'=>e=.returned (.bool (cD c))/\w=w':=λ w=>iY c.toNat w
    have hl2:∀ w,Calls Tryz.prog 130 #[Zi .u8 (c.toNat:Int)] w λ e w'=>e=.returned (.bool (decide (c.toNat=34)))/\w=w':=λ w=>sZ c.toNat w
    have hl3:∀ w,Calls Tryz.prog 132 #[Zi .u8 (c.toNat:Int)] w λ e w'=>e=.returned (.bool true)/\w=w':=λ w=>qV c.toNat w
    have HVK:=aW hvk;have HL:=aW (And.intro hl0 (And.intro hl1 (And.intro hl2 hl3)));have HX0:=aW hx0;have HVG:=aW (And.intro hV0 hGw);clear hvk hl0 hl1 hl2 hl3 hx0 hV0 hGw;go_wp2;go_loopg [23] 4 (λ gk i wr => ∃ k:Nat,k<=cm c/\gk=4-k/\i=Zi Zq k/\Below wo.heap.size wo wr/\Blk wr wo.heap.size 86 #[Zi Zq 0,Zi Zq 0,Zt ⟨#[]⟩,Zi Zq 0])
    case atStart=>exact ⟨0,Nat.zero_le _,rfl,rfl,HB2.out.1,HB2.out.2⟩
    case round =>
     obtain ⟨k,hk,hgk,rfl,hbx,htx⟩:=hrel;obtain ⟨c1,f1,l1⟩:=(HWR.out.2.2.1.keep hbx).rules;have hVx:=HVG.out.1.keep hbx;obtain ⟨c3,f3,l3⟩:=hVx.1.rules;unfold bN at c3;have hx:wr.cell? ⟨b,o+q,none⟩=some (Zi .u8 c.toNat):=(hbx.cell (p:=⟨b,o+q,none⟩) hbb).trans HX0.out;have hb3:b<wr.heap.size:=Nat.lt_of_lt_of_le hbb hbx.size;have HGK2:=aW hgk;have HT:=aW (And.intro htx hVx);clear hgk htx hVx;rcases (by omega:k=0∨k=1∨k=2∨k=3) with rfl | rfl | rfl | rfl
     ·by_cases hkk:cm c=0
      ·obtain ⟨a,bb,s,d,m,y,hR,hN⟩:=iQ (A:=some ⟨b,o,none⟩) (fk:=128) (fl l q) (λ W hG hV=>td W g _ cap l q hV hlt hcap hlen);have hv:cK l q=fl l q:=by rw [HVK.out,hkk];rfl
       rw [← hv] at hR;have hlt2:=HL.out.1;rw [show bi c=true from wt hkk] at hlt2;have HR:=aW hR;have HN:=aW hN;have HLT:=aW hlt2;clear hv hR hN hlt2;go_wp2;go_quiet ((go_at_call 122;exact Calls.quiet_of_same ((HLT.out _).mono λ e w' h=>⟨h.1,h.2.symm⟩)));obtain ⟨W5,hW5⟩:∃ W5,(wr.alloc (.cells #[.func (.func 122) #[] #[],.func (.func 128) #[Zp (some ⟨g,0,none⟩)] #[]] 164)).drewN nq=W5:=⟨_,rfl⟩
       have hb5:Below wo.heap.size wo W5:=by rw [← hW5];exact ah (hbx.alloc hbx.size _) _
       have ht5:Blk W5 wo.heap.size 86 #[Zi Zq 0,Zi Zq 0,Zt ⟨#[]⟩,Zi Zq 0]:=by rw [← hW5];exact (HT.out.1.alloc _).drewN _
       have hw5:Blk W5 wr.heap.size 164 #[.func (.func 122) #[] #[],.func (.func 128) #[Zp (some ⟨g,0,none⟩)] #[]]:=by rw [← hW5];exact (Blk.new wr _ _).drewN _
       rw [hW5];have H5:=aW (And.intro hb5 ht5);have HC5:=aW (HN.out W5 (HVG.out.2.keep hb5) (HVG.out.1.keep hb5));clear hW5 hb5 ht5 c1 f1 l1 c3 f3 l3 hx hb3;obtain ⟨c6,f6,l6⟩:=hw5.rules;go_wp2_with (go_at_call 128;refine HC5.out.mono ?_;rintro e w6 ⟨rfl,hst⟩;have ht6:=H5.out.2.grown hst.2 (by simp;omega);obtain ⟨c7,f7,l7⟩:=ht6.rules);go_meet
       case rel =>
        have hstR:=(((aJ.refl HVG.out.1).keep H5.out.1).trans hst).put4 ht6 (Nat.le_refl _) hgl (Zi Zq a) (Zi Zq bb) (Zt s) (Zi Zq d);exact ⟨a,bb,s,d,m,y,rfl,HR,ht6.put4 _ _ _ _,hstR.1,hstR.2⟩
      ·have hlt2:=HL.out.1;rw [show bi c=false from mG hkk] at hlt2;have HLT:=aW hlt2;clear hlt2;go_wp2;go_quiet ((go_at_call 122;exact Calls.quiet_of_same ((HLT.out _).mono λ e w' h=>⟨h.1,h.2.symm⟩)));go_wp2;go_roundg (4-1)
       case measure=>rw [HGK2.out];omega
       case rel=>exact ⟨1,by omega,rfl,rfl,ah (hbx.alloc hbx.size _) _,(HT.out.1.alloc _).drewN _⟩
     ·by_cases hkk:cm c=1
      ·obtain ⟨a,bb,s,d,m,y,hR,hN⟩:=iQ (A:=some ⟨b,o,none⟩) (fk:=129) (dw l q) (λ W hG hV=>pu W g _ cap l q hV hlt hcap hlen);have hv:cK l q=dw l q:=by rw [HVK.out,hkk];rfl
       rw [← hv] at hR;have hlt2:=HL.out.2.1;rw [show cD c=true from wu hkk] at hlt2;have HR:=aW hR;have HN:=aW hN;have HLT:=aW hlt2;clear hv hR hN hlt2;go_wp2;go_quiet ((go_at_call 123;exact Calls.quiet_of_same ((HLT.out _).mono λ e w' h=>⟨h.1,h.2.symm⟩)));obtain ⟨W5,hW5⟩:∃ W5,(wr.alloc (.cells #[.func (.func 123) #[] #[],.func (.func 129) #[Zp (some ⟨g,0,none⟩)] #[]] 164)).drewN nq=W5:=⟨_,rfl⟩
       have hb5:Below wo.heap.size wo W5:=by rw [← hW5];exact ah (hbx.alloc hbx.size _) _
       have ht5:Blk W5 wo.heap.size 86 #[Zi Zq 0,Zi Zq 0,Zt ⟨#[]⟩,Zi Zq 0]:=by rw [← hW5];exact (HT.out.1.alloc _).drewN _
       have hw5:Blk W5 wr.heap.size 164 #[.func (.func 123) #[] #[],.func (.func 129) #[Zp (some ⟨g,0,none⟩)] #[]]:=by rw [← hW5];exact (Blk.new wr _ _).drewN _
       rw [hW5];have H5:=aW (And.intro hb5 ht5);have HC5:=aW (HN.out W5 (HVG.out.2.keep hb5) (HVG.out.1.keep hb5));clear hW5 hb5 ht5 c1 f1 l1 c3 f3 l3 hx hb3;obtain ⟨c6,f6,l6⟩:=hw5.rules;go_wp2_with (go_at_call 129;refine HC5.out.mono ?_;rintro e w6 ⟨rfl,hst⟩;have ht6:=H5.out.2.grown hst.2 (by simp;omega);obtain ⟨c7,f7,l7⟩:=ht6.rules);go_meet
       case rel =>
        have hstR:=(((aJ.refl HVG.out.1).keep H5.out.1).trans hst).put4 ht6 (Nat.le_refl _) hgl (Zi Zq a) (Zi Zq bb) (Zt s) (Zi Zq d);exact ⟨a,bb,s,d,m,y,rfl,HR,ht6.put4 _ _ _ _,hstR.1,hstR.2⟩
      ·have hlt2:=HL.out.2.1;rw [show cD c=false from qq hkk (by omega)] at hlt2;have HLT:=aW hlt2;clear hlt2;go_wp2;go_quiet ((go_at_call 123;exact Calls.quiet_of_same ((HLT.out _).mono λ e w' h=>⟨h.1,h.2.symm⟩)));go_wp2;go_roundg (4-2)
       case measure=>rw [HGK2.out];omega
       case rel=>exact ⟨2,by omega,rfl,rfl,ah (hbx.alloc hbx.size _) _,(HT.out.1.alloc _).drewN _⟩
     ·by_cases hkk:cm c=2
      ·obtain ⟨a,bb,s,d,m,y,hR,hN⟩:=iQ (A:=some ⟨b,o,none⟩) (fk:=131) (gi l q) (λ W hG hV=>tQ W g _ cap l q hG hV hlt hcap hlen);have hv:cK l q=gi l q:=by rw [HVK.out,hkk];rfl
       rw [← hv] at hR;have hlt2:=HL.out.2.2.1;rw [show decide (c.toNat=34)=true from wv hkk] at hlt2;have HR:=aW hR;have HN:=aW hN;have HLT:=aW hlt2;clear hv hR hN hlt2;go_wp2;go_quiet ((go_at_call 130;exact Calls.quiet_of_same ((HLT.out _).mono λ e w' h=>⟨h.1,h.2.symm⟩)));obtain ⟨W5,hW5⟩:∃ W5,(wr.alloc (.cells #[.func (.func 130) #[] #[],.func (.func 131) #[Zp (some ⟨g,0,none⟩)] #[]] 164)).drewN nq=W5:=⟨_,rfl⟩
       have hb5:Below wo.heap.size wo W5:=by rw [← hW5];exact ah (hbx.alloc hbx.size _) _
       have ht5:Blk W5 wo.heap.size 86 #[Zi Zq 0,Zi Zq 0,Zt ⟨#[]⟩,Zi Zq 0]:=by rw [← hW5];exact (HT.out.1.alloc _).drewN _
       have hw5:Blk W5 wr.heap.size 164 #[.func (.func 130) #[] #[],.func (.func 131) #[Zp (some ⟨g,0,none⟩)] #[]]:=by rw [← hW5];exact (Blk.new wr _ _).drewN _
       rw [hW5];have H5:=aW (And.intro hb5 ht5);have HC5:=aW (HN.out W5 (HVG.out.2.keep hb5) (HVG.out.1.keep hb5));clear hW5 hb5 ht5 c1 f1 l1 c3 f3 l3 hx hb3;obtain ⟨c6,f6,l6⟩:=hw5.rules;go_wp2_with (go_at_call 131;refine HC5.out.mono ?_;rintro e w6 ⟨rfl,hst⟩;have ht6:=H5.out.2.grown hst.2 (by simp;omega);obtain ⟨c7,f7,l7⟩:=ht6.rules);go_meet
       case rel =>
        have hstR:=(((aJ.refl HVG.out.1).keep H5.out.1).trans hst).put4 ht6 (Nat.le_refl _) hgl (Zi Zq a) (Zi Zq bb) (Zt s) (Zi Zq d);exact ⟨a,bb,s,d,m,y,rfl,HR,ht6.put4 _ _ _ _,hstR.1,hstR.2⟩
      ·have hlt2:=HL.out.2.2.1;rw [show decide (c.toNat=34)=false from uI hkk (by omega) (by omega)] at hlt2;have HLT:=aW hlt2;clear hlt2;go_wp2;go_quiet ((go_at_call 130;exact Calls.quiet_of_same ((HLT.out _).mono λ e w' h=>⟨h.1,h.2.symm⟩)));go_wp2;go_roundg (4-3)
       case measure=>rw [HGK2.out];omega
       case rel=>exact ⟨3,by omega,rfl,rfl,ah (hbx.alloc hbx.size _) _,(HT.out.1.alloc _).drewN _⟩
     ·by_cases hkk:cm c=3
      ·obtain ⟨a,bb,s,d,m,y,hR,hN⟩:=iQ (A:=some ⟨b,o,none⟩) (fk:=133) (fo l q) (λ W hG hV=>rH W g _ cap l q hV hlt hcap hlen);have hv:cK l q=fo l q:=by rw [HVK.out,hkk];rfl
       rw [← hv] at hR;have hlt2:=HL.out.2.2.2;have HR:=aW hR;have HN:=aW hN;have HLT:=aW hlt2;clear hv hR hN hlt2;go_wp2;go_quiet ((go_at_call 132;exact Calls.quiet_of_same ((HLT.out _).mono λ e w' h=>⟨h.1,h.2.symm⟩)));obtain ⟨W5,hW5⟩:∃ W5,(wr.alloc (.cells #[.func (.func 132) #[] #[],.func (.func 133) #[Zp (some ⟨g,0,none⟩)] #[]] 164)).drewN nq=W5:=⟨_,rfl⟩
       have hb5:Below wo.heap.size wo W5:=by rw [← hW5];exact ah (hbx.alloc hbx.size _) _
       have ht5:Blk W5 wo.heap.size 86 #[Zi Zq 0,Zi Zq 0,Zt ⟨#[]⟩,Zi Zq 0]:=by rw [← hW5];exact (HT.out.1.alloc _).drewN _
       have hw5:Blk W5 wr.heap.size 164 #[.func (.func 132) #[] #[],.func (.func 133) #[Zp (some ⟨g,0,none⟩)] #[]]:=by rw [← hW5];exact (Blk.new wr _ _).drewN _
       rw [hW5];have H5:=aW (And.intro hb5 ht5);have HC5:=aW (HN.out W5 (HVG.out.2.keep hb5) (HVG.out.1.keep hb5));clear hW5 hb5 ht5 c1 f1 l1 c3 f3 l3 hx hb3;obtain ⟨c6,f6,l6⟩:=hw5.rules;go_wp2_with (go_at_call 133;refine HC5.out.mono ?_;rintro e w6 ⟨rfl,hst⟩;have ht6:=H5.out.2.grown hst.2 (by simp;omega);obtain ⟨c7,f7,l7⟩:=ht6.rules);go_meet
       case rel =>
        have hstR:=(((aJ.refl HVG.out.1).keep H5.out.1).trans hst).put4 ht6 (Nat.le_refl _) hgl (Zi Zq a) (Zi Zq bb) (Zt s) (Zi Zq d);exact ⟨a,bb,s,d,m,y,rfl,HR,ht6.put4 _ _ _ _,hstR.1,hstR.2⟩
      ·omega
   case rest =>
    obtain ⟨a,bb,s,d,m,y,rfl,HR,htb,hV3,hg3⟩:=hcut;obtain ⟨hJs,hV,hrb,hwb,hK⟩:=HWR.out;have hrb3:=hrb.grown hg3 (by simpa using hgr.symm);have hwb3:=hwb.grown hg3 (by simpa using hgw.symm);have hK3:aI (· < w0.heap.size) w0 wc:=hK.trans ⟨hg3.size,λ i hi=>hg3.block i (Nat.lt_of_lt_of_le hi hK.1) (by simp;omega)⟩;have hJ3:=HJ.out _ _ _ ⟨hg3,λ _=>⟨m,y,hV3⟩⟩ hJs;clear hJs hV hrb hwb hK HB2 cw fw lw HWR W2;obtain ⟨c1,f1,l1⟩:=hrb3.rules;obtain ⟨c3,f3,l3⟩:=hV3.1.rules;obtain ⟨c4,f4,l4⟩:=htb.rules;unfold bN at c3;cases hvt:cK l q with
    |inr e =>
     obtain ⟨pq,er⟩:=e;have her:=mj hlt hvt;rw [hvt] at HR;obtain ⟨rfl,rfl,rfl,rfl,rfl,rfl⟩:a=0/\bb=0/\s=⟨#[]⟩/\d=0/\m=pq/\y=er:=by simpa [kU] using HR.out
     have hE:=rD hp (by rw [HQQ.out];exact hlt) (by rw [HQQ.out];exact hvt);have HEE:=aW hE;have HRR:=aW hvt;have her':(y != 0)=true:=by simpa using her
     clear hE hvt HR;go_wp2;rw [Exit.noGoto_ret];gi_wp2;refine bodyPost_ret (results_none rfl _ _ _) rfl ?_;refine ⟨⟨_,rfl⟩,.inl ⟨pre,⟨?_,m,y,hV3,?_⟩,hJ3⟩⟩
     ·rw [HPRE.out,HEE.out,List.append_nil]
     ·rw [HEND.out,HEE.out,if_neg her]
    |inl r =>
     obtain ⟨kd,t,n,m'⟩:=r;rw [hvt] at HR;obtain ⟨rfl,rfl,rfl,rfl,rfl,rfl⟩:a=kd/\bb=q/\s=⟨t.toArray⟩/\d=n/\m=m'/\y=0:=by simpa [kU] using HR.out
     have hok:=iT hlt hvt;have hE:=rE hp (by rw [HQQ.out];exact hlt) (by rw [HQQ.out];exact hvt);have HEE:=aW hE;have HRR:=aW hvt;clear hE hvt HR;have hadm:pre++[(a,q,t,d)] <+: (bP l p0).1:=by rw [HPRE.out,HEE.out,HQQ.out];exact ⟨(bP l m').1,by simp⟩
     obtain ⟨fn,tmps,assign,body,hy,hR⟩:=HY.out pre _ wc hJ3 hadm;have HAD:=aW hadm;clear hadm;unfold sC rz at hy;simp only at hy;go_upto_region 10 with fail;refine (wpIn_wide (n:=2)).1 ?_;gi_wp2;refine hR.mono ?_;rintro e W4 (⟨rfl,hJ4,hk4⟩ | ⟨rfl,hJx4,hk4⟩)
     ·have hrb4:=hk4.blk hrb3 (.inr (.inr (.inl rfl)));have hwb4:=hk4.blk hwb3 (.inr (.inr (.inr rfl)));have hK4:aI (· < w0.heap.size) w0 W4:=hK3.trans ⟨hk4.1,λ i hi=>hk4.2 i (.inl hi)⟩;have hV4:=hV3.keepOn hk4 (.inr (.inl rfl)) (hr.keepOn hK4 (λ i h=>h));have HP4:=aW (ou W4 g A cap l m' 0 hV4 hok.2 hcap hlen);obtain ⟨c5,f5,l5⟩:=hrb4.rules;clear c1 f1 l1 c3 f3 l3 c4 f4 l4;gi_wp2;go_wp2;rw [Exit.noGoto_normal];gi_wp2;refine ⟨trivial,CallsIn.mono (callsIn_wide.2 HP4.out) ?_⟩;rintro e w5 ⟨rfl,hst5⟩;have hrb5:=hrb4.grown hst5.2 (by simpa using hgr.symm);have hwb5:=hwb4.grown hst5.2 (by simpa using hgw.symm);have hK5:aI (· < w0.heap.size) w0 w5:=hK4.trans ⟨hst5.2.size,λ i hi=>hst5.2.block i (Nat.lt_of_lt_of_le hi hK4.1) (by simp;omega)⟩;have hJ5:=HJ.out _ _ _ (StV.of_step hst5) hJ4;gi_wp2
      gi_roundg (l.length-m'+1)
      case measure=>rw [HGK.out];have:=iJ l p;have:=HQQ.out;omega
      case rel=>exact ⟨m',pre++[(a,q,t,d)],oE hok.2,rfl,hok.2,by rw [HPRE.out,HEE.out,HQQ.out];simp,by rw [HEND.out,HEE.out],hJ5,hst5.1,hrb5,hwb5,hK5⟩
     ·gi_wp2;go_wp2;rw [Exit.noGoto_ret];gi_wp2;refine bodyPost_ret (results_none rfl _ _ _) rfl ?_;exact ⟨⟨_,rfl⟩,.inr ⟨_,HAD.out,hJx4⟩⟩
  ·have hE:=rC hp (by rw [HQQ.out];exact hlt);have hql:=HQ.out;rw [HQQ.out] at hql;obtain rfl:q=l.length:=by omega
   have HEE:=aW hE;have HQL:=aW hql;clear hE hlt hql;gi_wp2;refine wpIn_wide.2 ?_;go_quiet (fail);obtain ⟨fn,tmps,assign,body,hy,hR⟩:=HY.out pre ((6,l.length,[],0):al) (wo.drewN nq) (HJ.out _ _ _ (StV.of_below (ah (Below.refl _ wo) nq)) hJs) (by rw [HPRE.out,HEE.out];exact List.prefix_refl _);unfold sC rz at hy;simp only at hy;gi_wp2;refine hR.mono ?_;rintro e W4 (⟨rfl,hJ4,hk4⟩ | ⟨rfl,hJx4,hk4⟩)
   ·have hK4:aI (· < w0.heap.size) w0 W4:=hK.trans ⟨hk4.1,λ i hi=>hk4.2 i (.inl hi)⟩;have hV4:=(hV.drewN nq).keepOn hk4 (.inr (.inl rfl)) (hr.keepOn hK4 (λ i h=>h));have HF:=aW (And.intro hV4 hJ4);clear hK4 hV4 hk4 hJ4;gi_wp2;go_end0;refine ⟨⟨_,rfl⟩,.inl ⟨_,⟨?_,_,0,HF.out.1,?_⟩,HF.out.2⟩⟩
    ·rw [HPRE.out,HEE.out]
    ·rw [HEND.out,HEE.out,if_pos rfl]
   ·gi_wp2;go_end0;exact ⟨⟨_,rfl⟩,.inr ⟨_,by rw [HPRE.out,HEE.out];exact List.prefix_refl _,hJx4⟩⟩
end
end Go.Proofs.YtgmnmnnoahdjnaaGreatDoor
