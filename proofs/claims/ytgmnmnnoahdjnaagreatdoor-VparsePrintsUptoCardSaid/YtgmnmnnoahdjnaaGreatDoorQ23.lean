import Derived.Test.YtgmnmnnoahdjnaaGreatDoorQ18
import Derived.Deep.CutBlock
open Go.Value renaming int → Zi, slice → Zs, string → Zt, pointer → Zp
open Go.IntKind renaming i64 → Zq
set_option maxRecDepth 100000
set_option maxHeartbeats 16000000
set_option linter.unusedVariables false
set_option linter.unusedSimpArgs false
namespace Go.Proofs.YtgmnmnnoahdjnaaGreatDoor
section
open Go.RowKit Go.Shelf
attribute [local go_sem] aa ac ae ab Oper.semAt_some
def StV (g:Nat) (A:Option Addr) (cap:Nat) (l:List UInt8) (X Y:World):Prop:=World.grownBy X Y (some g)/\((∃ p why,VB X g A cap l p why)->∃ p why,VB Y g A cap l p why)
theorem StV.of_below {g:Nat} {A:Option Addr} {cap:Nat} {l:List UInt8} {X Y:World} (h:Below X.heap.size X Y):StV g A cap l X Y :=
 ⟨⟨h.os,h.tape,h.output,h.size,λ i hi _=>h.block i hi⟩,λ ⟨p,why,hv⟩=>⟨p,why,hv.keep h⟩⟩
theorem StV.of_step {g:Nat} {A:Option Addr} {cap:Nat} {l:List UInt8} {X Y:World} {p why:Int} (h:a8 X g A cap l p why Y):StV g A cap l X Y:=⟨h.2,λ _=>⟨p,why,h.1⟩⟩
def vm (x:aq):Array Value:=#[uu x.1 x.2.1 ⟨x.2.2.1.toArray⟩ x.2.2.2]
def KpV (B0 g rb wb:Nat):World->World->Prop:=aZ λ k=>k<B0∨k=g∨k=rb∨k=wb
def yr (g:Nat) (A:Option Addr) (cap:Nat) (l:List UInt8) (p0:Nat) (xs:List aq) (W:World):Prop :=
 xs=(cJ l p0).1/\∃ q er:Int,VB W g A cap l q er/\(cJ l p0).2=if er=0 then none else some (q,er)
theorem VB.keepOn {S:Nat->Prop} {w W:World} {g:Nat} {A:Option Addr} {cap:Nat} {l:List UInt8} {p why:Int} (h:VB w g A cap l p why) (k:aZ S w W) (hg:S g) (hr:Rd W A (ak l)):VB W g A cap l p why:=⟨k.blk h.1 hg,hr⟩
theorem rh (w0:World) (g rb wb:Nat) (A:Option Addr) (cap:Nat) (l:List UInt8) (p0:Nat) (k:Nat) (J Jx:List aq->World->Prop) (W:World) (hG:GOK w0) (hr:Rd w0 A (ak l)) (hcap:l.length<=cap) (hlen:l.length<=4194304)
  (hp0:p0<=l.length) (hgr:g≠rb) (hgw:g≠wb) (hg0:w0.heap.size<=g) (hW:aZ (· < w0.heap.size) w0 W)
  (hJ:∀ s X Y,StV g A cap l X Y->J s X->J s Y)
  (hY:∀ pre x W1,J pre W1->pre++[x] <+: (cJ l p0).1->YieldAt Fence.wide 1 Tryz.prog k (vm x) W1 λ e W' =>
   (e=.returned (.bool true)/\J (pre++[x]) W'/\KpV w0.heap.size g rb wb W1 W')∨(e=.returned (.bool false)/\Jx (pre++[x]) W'/\KpV w0.heap.size g rb wb W1 W'))
  (hV:VB W g A cap l p0 0) (hrb:Blk W rb 109 #[Zp (some ⟨g,0,none⟩)]) (hwb:Blk W wb 165 (lA g)) (h0:J [] W) :
  CallsIn Fence.wide 2 Tryz.prog 134 #[.func (.yield k) #[] #[],Zp (some ⟨rb,0,none⟩),Zp (some ⟨wb,0,none⟩)] W λ e W'=>(∃ v,e=.returned v) /\
   ((∃ xs,yr g A cap l p0 xs W'/\J xs W')∨(∃ pre,pre <+: (cJ l p0).1/\Jx pre W')):=by
 have HY:=aW hY;have HJ:=aW hJ;have HP:=aW (qO W g A cap l p0 0 hV hp0 hcap hlen);clear hY hJ;obtain ⟨c1,f1,l1⟩:=hrb.rules;refine callsIn_of_wp Tryz.func134 rfl trivial ?_ rfl;simp only [Tryz.ntmps134,List.size_toArray,List.length_cons,List.length_nil,Nat.reduceAdd,Nat.reduceSub,Array.replicate_succ,Array.replicate_zero,List.push_toArray,List.append_toArray,List.nil_append,List.cons_append];gi_wp2;refine ⟨trivial,CallsIn.mono (callsIn_wide.2 HP.out) ?_⟩;rintro e w1 ⟨rfl,hst1⟩;have hrb1:=hrb.grown hst1.2 (by simpa using hgr.symm);have hwb1:=hwb.grown hst1.2 (by simpa using hgw.symm);have hW1:aZ (· < w0.heap.size) w0 w1:=hW.trans ⟨hst1.2.size,λ i hi=>hst1.2.block i (Nat.lt_of_lt_of_le hi hW.1) (by simp;omega)⟩;have hJ1:=HJ.out _ _ _ (StV.of_step hst1) h0;have hV1:=hst1.1;clear hrb hwb hW h0 hV hst1 HP c1 f1 l1;gi_wp2
 gi_loopg [4] (l.length-p0+1) (λ gk _ wr => ∃ (p:Nat) (pre:List aq),aM l p<=l.length/\gk=l.length-p+1/\p<=l.length/\(cJ l p0).1=pre++(cJ l p).1/\(cJ l p0).2=(cJ l p).2/\J pre wr/\VB wr g A cap l (aM l p) 0 /\
  Blk wr rb 109 #[Zp (some ⟨g,0,none⟩)]/\Blk wr wb 165 (lA g)/\aZ (· < w0.heap.size) w0 wr)
 case atStart=>exact ⟨p0,[],qZ hp0,rfl,hp0,rfl,rfl,hJ1,hV1,hrb1,hwb1,hW1⟩
 case round =>
  obtain ⟨p,pre,hq,hgk,hp,hpre,hend,hJs,hV,hrb,hwb,hK⟩:=hrel;clear hV1 hrb1 hwb1 hW1 hJ1;obtain ⟨wo,rfl⟩:∃ wo:World,wo=wr:=⟨_,rfl⟩
  obtain ⟨c1,f1,l1⟩:=hrb.rules;obtain ⟨c2,f2,l2⟩:=hwb.rules;obtain ⟨c3,f3,l3⟩:=hV.1.rules;unfold cG at c3;unfold lA at c2;have HQ:=aW hq;have HGK:=aW hgk;have HPRE:=aW hpre;have HEND:=aW hend;clear hq hgk hpre hend;obtain ⟨q,hqq⟩:∃ q,aM l p=q:=⟨_,rfl⟩
  have HQQ:=aW hqq;rw [hqq] at hV c3;clear hqq;by_cases hlt:q<l.length
  ·obtain ⟨c,hc⟩:∃ c,l[q]? = some c:=⟨_,List.getElem?_eq_getElem hlt⟩
   have HC:=aW hc;clear hc;gi_wp2;refine wpIn_wide.2 ?_;go_quiet (fail);gi_wp2;refine wpIn_wide.2 ?_;go_step3;go_wp2;go_step3;obtain ⟨W2,hW2⟩:∃ W2,(wo.drewN nq).alloc (.cells #[Zi Zq 0,Zi Zq 0,Zt ⟨#[]⟩,Zi Zq 0] 86)=W2:=⟨_,rfl⟩
   have hb2:Below wo.heap.size wo W2:=by rw [← hW2];exact (aj (Below.refl _ wo) nq).alloc (Nat.le_refl _) _
   have ht2:Blk W2 wo.heap.size 86 #[Zi Zq 0,Zi Zq 0,Zt ⟨#[]⟩,Zi Zq 0]:=by rw [← hW2];exact Blk.new (wo.drewN nq) _ _
   rw [hW2];have HB2:=aW (And.intro hb2 ht2);clear hW2 c1 f1 l1 c2 f2 l2 c3 f3 l3 hb2 ht2;have HWR:=aW (And.intro hJs (And.intro hV (And.intro hrb (And.intro hwb hK))));clear hJs hV hrb hwb hK;obtain ⟨cw,fw,lw⟩:=(HWR.out.2.2.2.1.keep HB2.out.1).rules;unfold lA at cw;go_upto_block 2 with fail;go_cut [4] (λ s4 wx => ∃ (a bb:Int) (s:ByteArray) (d m y:Int),s4=Zp (some ⟨wo.heap.size,0,none⟩)/\Hid ((a,bb,s,d,m,y)=nw (dz l q) q)/\Blk wx wo.heap.size 86 #[Zi Zq a,Zi Zq bb,Zt s,Zi Zq d]/\VB wx g A cap l m y/\wo.grownBy wx (some g))
   case first =>
    clear cw fw lw;have hV0:=HWR.out.2.1;obtain ⟨b,o,rfl,hbb,hx0⟩:=hV0.byte HC.out;have hGw:GOK wo:=hG.keepOn HWR.out.2.2.2.2 (λ i h=>h);have hk3:=vC c;have hvk:=nF HC.out;have hgl:=hV0.1.lt;have hl0:∀ w,Calls Tryz.prog 122 #[Zi .u8 (c.toNat:Int)] w λ e w'=>e=.returned (.bool (aL c))/\w=w':=λ w=>jw c.toNat w
    have hl1:∀ w,Calls Tryz.prog 123 #[Zi .u8 (c.toNat:Int)] w λ e w'=>e=.returned (.bool (bc c))/\w=w':=λ w=>kt c.toNat w
    have hl2:∀ w,Calls Tryz.prog 130 #[Zi .u8 (c.toNat:Int)] w λ e w'=>e=.returned (.bool (decide (c.toNat=34)))/\w=w':=λ w=>vJ c.toNat w
    have hl3:∀ w,Calls Tryz.prog 132 #[Zi .u8 (c.toNat:Int)] w λ e w'=>e=.returned (.bool true)/\w=w':=λ w=>tU c.toNat w
    have HVK:=aW hvk;have HL:=aW (And.intro hl0 (And.intro hl1 (And.intro hl2 hl3)));have HX0:=aW hx0;have HVG:=aW (And.intro hV0 hGw);clear hvk hl0 hl1 hl2 hl3 hx0 hV0 hGw;go_wp2;go_loopg [23] 4 (λ gk i wr => ∃ k:Nat,k<=cX c/\gk=4-k/\i=Zi Zq k/\Below wo.heap.size wo wr/\Blk wr wo.heap.size 86 #[Zi Zq 0,Zi Zq 0,Zt ⟨#[]⟩,Zi Zq 0])
    case atStart=>exact ⟨0,Nat.zero_le _,rfl,rfl,HB2.out.1,HB2.out.2⟩
    case round =>
     obtain ⟨k,hk,hgk,rfl,hbx,htx⟩:=hrel;obtain ⟨c1,f1,l1⟩:=(HWR.out.2.2.1.keep hbx).rules;have hVx:=HVG.out.1.keep hbx;obtain ⟨c3,f3,l3⟩:=hVx.1.rules;unfold cG at c3;have hx:wr.cell? ⟨b,o+q,none⟩=some (Zi .u8 c.toNat):=(hbx.cell (p:=⟨b,o+q,none⟩) hbb).trans HX0.out;have hb3:b<wr.heap.size:=Nat.lt_of_lt_of_le hbb hbx.size;have HGK2:=aW hgk;have HT:=aW (And.intro htx hVx);clear hgk htx hVx;rcases (by omega:k=0∨k=1∨k=2∨k=3) with rfl | rfl | rfl | rfl
     ·by_cases hkk:cX c=0
      ·obtain ⟨a,bb,s,d,m,y,hR,hN⟩:=ke (A:=some ⟨b,o,none⟩) (fk:=128) (gJ l q) (λ W hG hV=>vM W g _ cap l q hV hlt hcap hlen);have hv:dz l q=gJ l q:=by rw [HVK.out,hkk];rfl
       rw [← hv] at hR;have hlt2:=HL.out.1;rw [show aL c=true from zk hkk] at hlt2;have HR:=aW hR;have HN:=aW hN;have HLT:=aW hlt2;clear hv hR hN hlt2;go_wp2;go_quiet ((go_at_call 122;exact Calls.quiet_of_same ((HLT.out _).mono λ e w' h=>⟨h.1,h.2.symm⟩)));obtain ⟨W5,hW5⟩:∃ W5,(wr.alloc (.cells #[.func (.func 122) #[] #[],.func (.func 128) #[Zp (some ⟨g,0,none⟩)] #[]] 164)).drewN nq=W5:=⟨_,rfl⟩
       have hb5:Below wo.heap.size wo W5:=by rw [← hW5];exact aj (hbx.alloc hbx.size _) _
       have ht5:Blk W5 wo.heap.size 86 #[Zi Zq 0,Zi Zq 0,Zt ⟨#[]⟩,Zi Zq 0]:=by rw [← hW5];exact (HT.out.1.alloc _).drewN _
       have hw5:Blk W5 wr.heap.size 164 #[.func (.func 122) #[] #[],.func (.func 128) #[Zp (some ⟨g,0,none⟩)] #[]]:=by rw [← hW5];exact (Blk.new wr _ _).drewN _
       rw [hW5];have H5:=aW (And.intro hb5 ht5);have HC5:=aW (HN.out W5 (HVG.out.2.keep hb5) (HVG.out.1.keep hb5));clear hW5 hb5 ht5 c1 f1 l1 c3 f3 l3 hx hb3;obtain ⟨c6,f6,l6⟩:=hw5.rules;go_wp2_with (go_at_call 128;refine HC5.out.mono ?_;rintro e w6 ⟨rfl,hst⟩;have ht6:=H5.out.2.grown hst.2 (by simp;omega);obtain ⟨c7,f7,l7⟩:=ht6.rules);go_meet
       case rel =>
        have hstR:=(((a8.refl HVG.out.1).keep H5.out.1).trans hst).put4 ht6 (Nat.le_refl _) hgl (Zi Zq a) (Zi Zq bb) (Zt s) (Zi Zq d);exact ⟨a,bb,s,d,m,y,rfl,HR,ht6.put4 _ _ _ _,hstR.1,hstR.2⟩
      ·have hlt2:=HL.out.1;rw [show aL c=false from pB hkk] at hlt2;have HLT:=aW hlt2;clear hlt2;go_wp2;go_quiet ((go_at_call 122;exact Calls.quiet_of_same ((HLT.out _).mono λ e w' h=>⟨h.1,h.2.symm⟩)));go_wp2;go_roundg (4-1)
       case measure=>rw [HGK2.out];omega
       case rel=>exact ⟨1,by omega,rfl,rfl,aj (hbx.alloc hbx.size _) _,(HT.out.1.alloc _).drewN _⟩
     ·by_cases hkk:cX c=1
      ·obtain ⟨a,bb,s,d,m,y,hR,hN⟩:=ke (A:=some ⟨b,o,none⟩) (fk:=129) (eo l q) (λ W hG hV=>r8 W g _ cap l q hV hlt hcap hlen);have hv:dz l q=eo l q:=by rw [HVK.out,hkk];rfl
       rw [← hv] at hR;have hlt2:=HL.out.2.1;rw [show bc c=true from zl hkk] at hlt2;have HR:=aW hR;have HN:=aW hN;have HLT:=aW hlt2;clear hv hR hN hlt2;go_wp2;go_quiet ((go_at_call 123;exact Calls.quiet_of_same ((HLT.out _).mono λ e w' h=>⟨h.1,h.2.symm⟩)));obtain ⟨W5,hW5⟩:∃ W5,(wr.alloc (.cells #[.func (.func 123) #[] #[],.func (.func 129) #[Zp (some ⟨g,0,none⟩)] #[]] 164)).drewN nq=W5:=⟨_,rfl⟩
       have hb5:Below wo.heap.size wo W5:=by rw [← hW5];exact aj (hbx.alloc hbx.size _) _
       have ht5:Blk W5 wo.heap.size 86 #[Zi Zq 0,Zi Zq 0,Zt ⟨#[]⟩,Zi Zq 0]:=by rw [← hW5];exact (HT.out.1.alloc _).drewN _
       have hw5:Blk W5 wr.heap.size 164 #[.func (.func 123) #[] #[],.func (.func 129) #[Zp (some ⟨g,0,none⟩)] #[]]:=by rw [← hW5];exact (Blk.new wr _ _).drewN _
       rw [hW5];have H5:=aW (And.intro hb5 ht5);have HC5:=aW (HN.out W5 (HVG.out.2.keep hb5) (HVG.out.1.keep hb5));clear hW5 hb5 ht5 c1 f1 l1 c3 f3 l3 hx hb3;obtain ⟨c6,f6,l6⟩:=hw5.rules;go_wp2_with (go_at_call 129;refine HC5.out.mono ?_;rintro e w6 ⟨rfl,hst⟩;have ht6:=H5.out.2.grown hst.2 (by simp;omega);obtain ⟨c7,f7,l7⟩:=ht6.rules);go_meet
       case rel =>
        have hstR:=(((a8.refl HVG.out.1).keep H5.out.1).trans hst).put4 ht6 (Nat.le_refl _) hgl (Zi Zq a) (Zi Zq bb) (Zt s) (Zi Zq d);exact ⟨a,bb,s,d,m,y,rfl,HR,ht6.put4 _ _ _ _,hstR.1,hstR.2⟩
      ·have hlt2:=HL.out.2.1;rw [show bc c=false from tc hkk (by omega)] at hlt2;have HLT:=aW hlt2;clear hlt2;go_wp2;go_quiet ((go_at_call 123;exact Calls.quiet_of_same ((HLT.out _).mono λ e w' h=>⟨h.1,h.2.symm⟩)));go_wp2;go_roundg (4-2)
       case measure=>rw [HGK2.out];omega
       case rel=>exact ⟨2,by omega,rfl,rfl,aj (hbx.alloc hbx.size _) _,(HT.out.1.alloc _).drewN _⟩
     ·by_cases hkk:cX c=2
      ·obtain ⟨a,bb,s,d,m,y,hR,hN⟩:=ke (A:=some ⟨b,o,none⟩) (fk:=131) (iL l q) (λ W hG hV=>wF W g _ cap l q hG hV hlt hcap hlen);have hv:dz l q=iL l q:=by rw [HVK.out,hkk];rfl
       rw [← hv] at hR;have hlt2:=HL.out.2.2.1;rw [show decide (c.toNat=34)=true from zm hkk] at hlt2;have HR:=aW hR;have HN:=aW hN;have HLT:=aW hlt2;clear hv hR hN hlt2;go_wp2;go_quiet ((go_at_call 130;exact Calls.quiet_of_same ((HLT.out _).mono λ e w' h=>⟨h.1,h.2.symm⟩)));obtain ⟨W5,hW5⟩:∃ W5,(wr.alloc (.cells #[.func (.func 130) #[] #[],.func (.func 131) #[Zp (some ⟨g,0,none⟩)] #[]] 164)).drewN nq=W5:=⟨_,rfl⟩
       have hb5:Below wo.heap.size wo W5:=by rw [← hW5];exact aj (hbx.alloc hbx.size _) _
       have ht5:Blk W5 wo.heap.size 86 #[Zi Zq 0,Zi Zq 0,Zt ⟨#[]⟩,Zi Zq 0]:=by rw [← hW5];exact (HT.out.1.alloc _).drewN _
       have hw5:Blk W5 wr.heap.size 164 #[.func (.func 130) #[] #[],.func (.func 131) #[Zp (some ⟨g,0,none⟩)] #[]]:=by rw [← hW5];exact (Blk.new wr _ _).drewN _
       rw [hW5];have H5:=aW (And.intro hb5 ht5);have HC5:=aW (HN.out W5 (HVG.out.2.keep hb5) (HVG.out.1.keep hb5));clear hW5 hb5 ht5 c1 f1 l1 c3 f3 l3 hx hb3;obtain ⟨c6,f6,l6⟩:=hw5.rules;go_wp2_with (go_at_call 131;refine HC5.out.mono ?_;rintro e w6 ⟨rfl,hst⟩;have ht6:=H5.out.2.grown hst.2 (by simp;omega);obtain ⟨c7,f7,l7⟩:=ht6.rules);go_meet
       case rel =>
        have hstR:=(((a8.refl HVG.out.1).keep H5.out.1).trans hst).put4 ht6 (Nat.le_refl _) hgl (Zi Zq a) (Zi Zq bb) (Zt s) (Zi Zq d);exact ⟨a,bb,s,d,m,y,rfl,HR,ht6.put4 _ _ _ _,hstR.1,hstR.2⟩
      ·have hlt2:=HL.out.2.2.1;rw [show decide (c.toNat=34)=false from xv hkk (by omega) (by omega)] at hlt2;have HLT:=aW hlt2;clear hlt2;go_wp2;go_quiet ((go_at_call 130;exact Calls.quiet_of_same ((HLT.out _).mono λ e w' h=>⟨h.1,h.2.symm⟩)));go_wp2;go_roundg (4-3)
       case measure=>rw [HGK2.out];omega
       case rel=>exact ⟨3,by omega,rfl,rfl,aj (hbx.alloc hbx.size _) _,(HT.out.1.alloc _).drewN _⟩
     ·by_cases hkk:cX c=3
      ·obtain ⟨a,bb,s,d,m,y,hR,hN⟩:=ke (A:=some ⟨b,o,none⟩) (fk:=133) (gL l q) (λ W hG hV=>uB W g _ cap l q hV hlt hcap hlen);have hv:dz l q=gL l q:=by rw [HVK.out,hkk];rfl
       rw [← hv] at hR;have hlt2:=HL.out.2.2.2;have HR:=aW hR;have HN:=aW hN;have HLT:=aW hlt2;clear hv hR hN hlt2;go_wp2;go_quiet ((go_at_call 132;exact Calls.quiet_of_same ((HLT.out _).mono λ e w' h=>⟨h.1,h.2.symm⟩)));obtain ⟨W5,hW5⟩:∃ W5,(wr.alloc (.cells #[.func (.func 132) #[] #[],.func (.func 133) #[Zp (some ⟨g,0,none⟩)] #[]] 164)).drewN nq=W5:=⟨_,rfl⟩
       have hb5:Below wo.heap.size wo W5:=by rw [← hW5];exact aj (hbx.alloc hbx.size _) _
       have ht5:Blk W5 wo.heap.size 86 #[Zi Zq 0,Zi Zq 0,Zt ⟨#[]⟩,Zi Zq 0]:=by rw [← hW5];exact (HT.out.1.alloc _).drewN _
       have hw5:Blk W5 wr.heap.size 164 #[.func (.func 132) #[] #[],.func (.func 133) #[Zp (some ⟨g,0,none⟩)] #[]]:=by rw [← hW5];exact (Blk.new wr _ _).drewN _
       rw [hW5];have H5:=aW (And.intro hb5 ht5);have HC5:=aW (HN.out W5 (HVG.out.2.keep hb5) (HVG.out.1.keep hb5));clear hW5 hb5 ht5 c1 f1 l1 c3 f3 l3 hx hb3;obtain ⟨c6,f6,l6⟩:=hw5.rules;go_wp2_with (go_at_call 133;refine HC5.out.mono ?_;rintro e w6 ⟨rfl,hst⟩;have ht6:=H5.out.2.grown hst.2 (by simp;omega);obtain ⟨c7,f7,l7⟩:=ht6.rules);go_meet
       case rel =>
        have hstR:=(((a8.refl HVG.out.1).keep H5.out.1).trans hst).put4 ht6 (Nat.le_refl _) hgl (Zi Zq a) (Zi Zq bb) (Zt s) (Zi Zq d);exact ⟨a,bb,s,d,m,y,rfl,HR,ht6.put4 _ _ _ _,hstR.1,hstR.2⟩
      ·omega
   case rest =>
    obtain ⟨a,bb,s,d,m,y,rfl,HR,htb,hV3,hg3⟩:=hcut;obtain ⟨hJs,hV,hrb,hwb,hK⟩:=HWR.out;have hrb3:=hrb.grown hg3 (by simpa using hgr.symm);have hwb3:=hwb.grown hg3 (by simpa using hgw.symm);have hK3:aZ (· < w0.heap.size) w0 wc:=hK.trans ⟨hg3.size,λ i hi=>hg3.block i (Nat.lt_of_lt_of_le hi hK.1) (by simp;omega)⟩;have hJ3:=HJ.out _ _ _ ⟨hg3,λ _=>⟨m,y,hV3⟩⟩ hJs;clear hJs hV hrb hwb hK HB2 cw fw lw HWR W2;obtain ⟨c1,f1,l1⟩:=hrb3.rules;obtain ⟨c3,f3,l3⟩:=hV3.1.rules;obtain ⟨c4,f4,l4⟩:=htb.rules;unfold cG at c3;cases hvt:dz l q with
    |inr e =>
     obtain ⟨pq,er⟩:=e;have her:=o4 hlt hvt;rw [hvt] at HR;obtain ⟨rfl,rfl,rfl,rfl,rfl,rfl⟩:a=0/\bb=0/\s=⟨#[]⟩/\d=0/\m=pq/\y=er:=by simpa [nw] using HR.out
     have hE:=ux hp (by rw [HQQ.out];exact hlt) (by rw [HQQ.out];exact hvt);have HEE:=aW hE;have HRR:=aW hvt;have her':(y != 0)=true:=by simpa using her
     clear hE hvt HR;go_wp2;rw [Exit.noGoto_ret];gi_wp2;refine bodyPost_ret (results_none rfl _ _ _) rfl ?_;refine ⟨⟨_,rfl⟩,.inl ⟨pre,⟨?_,m,y,hV3,?_⟩,hJ3⟩⟩
     ·rw [HPRE.out,HEE.out,List.append_nil]
     ·rw [HEND.out,HEE.out,if_neg her]
    |inl r =>
     obtain ⟨kd,t,n,m'⟩:=r;rw [hvt] at HR;obtain ⟨rfl,rfl,rfl,rfl,rfl,rfl⟩:a=kd/\bb=q/\s=⟨t.toArray⟩/\d=n/\m=m'/\y=0:=by simpa [nw] using HR.out
     have hok:=ki hlt hvt;have hE:=uy hp (by rw [HQQ.out];exact hlt) (by rw [HQQ.out];exact hvt);have HEE:=aW hE;have HRR:=aW hvt;clear hE hvt HR;have hadm:pre++[(a,q,t,d)] <+: (cJ l p0).1:=by rw [HPRE.out,HEE.out,HQQ.out];exact ⟨(cJ l m').1,by simp⟩
     obtain ⟨fn,tmps,assign,body,hy,hR⟩:=HY.out pre _ wc hJ3 hadm;have HAD:=aW hadm;clear hadm;unfold vm uu at hy;simp only at hy;go_upto_region 10 with fail;refine (wpIn_wide (n:=2)).1 ?_;gi_wp2;refine hR.mono ?_;rintro e W4 (⟨rfl,hJ4,hk4⟩ | ⟨rfl,hJx4,hk4⟩)
     ·have hrb4:=hk4.blk hrb3 (.inr (.inr (.inl rfl)));have hwb4:=hk4.blk hwb3 (.inr (.inr (.inr rfl)));have hK4:aZ (· < w0.heap.size) w0 W4:=hK3.trans ⟨hk4.1,λ i hi=>hk4.2 i (.inl hi)⟩;have hV4:=hV3.keepOn hk4 (.inr (.inl rfl)) (hr.keepOn hK4 (λ i h=>h));have HP4:=aW (qO W4 g A cap l m' 0 hV4 hok.2 hcap hlen);obtain ⟨c5,f5,l5⟩:=hrb4.rules;clear c1 f1 l1 c3 f3 l3 c4 f4 l4;gi_wp2;go_wp2;rw [Exit.noGoto_normal];gi_wp2;refine ⟨trivial,CallsIn.mono (callsIn_wide.2 HP4.out) ?_⟩;rintro e w5 ⟨rfl,hst5⟩;have hrb5:=hrb4.grown hst5.2 (by simpa using hgr.symm);have hwb5:=hwb4.grown hst5.2 (by simpa using hgw.symm);have hK5:aZ (· < w0.heap.size) w0 w5:=hK4.trans ⟨hst5.2.size,λ i hi=>hst5.2.block i (Nat.lt_of_lt_of_le hi hK4.1) (by simp;omega)⟩;have hJ5:=HJ.out _ _ _ (StV.of_step hst5) hJ4;gi_wp2
      gi_roundg (l.length-m'+1)
      case measure=>rw [HGK.out];have:=j7 l p;have:=HQQ.out;omega
      case rel=>exact ⟨m',pre++[(a,q,t,d)],qZ hok.2,rfl,hok.2,by rw [HPRE.out,HEE.out,HQQ.out];simp,by rw [HEND.out,HEE.out],hJ5,hst5.1,hrb5,hwb5,hK5⟩
     ·gi_wp2;go_wp2;rw [Exit.noGoto_ret];gi_wp2;refine bodyPost_ret (results_none rfl _ _ _) rfl ?_;exact ⟨⟨_,rfl⟩,.inr ⟨_,HAD.out,hJx4⟩⟩
  ·have hE:=uw hp (by rw [HQQ.out];exact hlt);have hql:=HQ.out;rw [HQQ.out] at hql;obtain rfl:q=l.length:=by omega
   have HEE:=aW hE;have HQL:=aW hql;clear hE hlt hql;gi_wp2;refine wpIn_wide.2 ?_;go_quiet (fail);obtain ⟨fn,tmps,assign,body,hy,hR⟩:=HY.out pre ((6,l.length,[],0):aq) (wo.drewN nq) (HJ.out _ _ _ (StV.of_below (aj (Below.refl _ wo) nq)) hJs) (by rw [HPRE.out,HEE.out];exact List.prefix_refl _);unfold vm uu at hy;simp only at hy;gi_wp2;refine hR.mono ?_;rintro e W4 (⟨rfl,hJ4,hk4⟩ | ⟨rfl,hJx4,hk4⟩)
   ·have hK4:aZ (· < w0.heap.size) w0 W4:=hK.trans ⟨hk4.1,λ i hi=>hk4.2 i (.inl hi)⟩;have hV4:=(hV.drewN nq).keepOn hk4 (.inr (.inl rfl)) (hr.keepOn hK4 (λ i h=>h));have HF:=aW (And.intro hV4 hJ4);clear hK4 hV4 hk4 hJ4;gi_wp2;go_end0;refine ⟨⟨_,rfl⟩,.inl ⟨_,⟨?_,_,0,HF.out.1,?_⟩,HF.out.2⟩⟩
    ·rw [HPRE.out,HEE.out]
    ·rw [HEND.out,HEE.out,if_pos rfl]
   ·gi_wp2;go_end0;exact ⟨⟨_,rfl⟩,.inr ⟨_,by rw [HPRE.out,HEE.out];exact List.prefix_refl _,hJx4⟩⟩
theorem sJ (w0:World) (g rb wb:Nat) (A:Option Addr) (cap:Nat) (l:List UInt8) (p0:Nat) (w:World) (hG:GOK w0) (hr:Rd w0 A (ak l)) (hcap:l.length<=cap) (hlen:l.length<=4194304)
  (hp0:p0<=l.length) (hgr:g≠rb) (hgw:g≠wb) (hg0:w0.heap.size<=g) (hW:aZ (· < w0.heap.size) w0 w)
  (hV:VB w g A cap l p0 0) (hrb:Blk w rb 109 #[Zp (some ⟨g,0,none⟩)]) (hwb:Blk w wb 165 (lA g)) :
  nR Fence.wide 2 Tryz.prog 134 #[Zp (some ⟨rb,0,none⟩),Zp (some ⟨wb,0,none⟩)] vm
   (StV g A cap l) (KpV w0.heap.size g rb wb) (λ pre x=>pre++[x] <+: (cJ l p0).1) (yr g A cap l p0) (λ pre _=>pre <+: (cJ l p0).1) w:=by
 intro k J Jx W hW2 hJ _ hY h0;exact rh w0 g rb wb A cap l p0 k J Jx W hG hr hcap hlen hp0 hgr hgw hg0 (hW.trans (aZ.of_below hW2 (λ i hi=>Nat.lt_of_lt_of_le hi hW.1))) hJ hY (hV.keep hW2) (hrb.keep hW2) (hwb.keep hW2) h0
def iK (l:List UInt8):List aq × Int × Int :=
 if 512<l.length then ([],0,3) else match (cJ l 0).2 with | none=>((cJ l 0).1,0,0) | some e=>([],e.1,e.2)
def lJ (r:List aq × Int × Int) (w:World) (e:Ending) (w':World):Prop :=
 ∃ v,e=.returned (.tuple #[v,Zi Zq r.2.1,Zi Zq r.2.2])/\TS w' v r.1/\Below w.heap.size w w'
theorem rl (l:List UInt8):∀ (k p:Nat),(gK l k p).1.length<=k
 | 0,_=>by simp [gK]
 |k+1,p=>by
  unfold gK;split
  ·cases hv:dz l (aM l p) with
   | inr e=>simp
   |inl r =>
    obtain ⟨kd,t,n,m⟩:=r;have:=rl l k m;simp;omega
  ·simp
theorem o5 (l:List UInt8) (p:Nat):(cJ l p).1.length<=l.length+1-p:=rl l _ p
theorem Rd.below_at {W W':World} {b o N:Nat} {xs:List Value} (h:Rd W (some ⟨b,o,none⟩) xs) (hb:Below N W W') (hN:b<N):Rd W' (some ⟨b,o,none⟩) xs:=λ hn=>by
 obtain ⟨b',o',e,hlt,hx⟩:=h hn;obtain ⟨rfl,rfl⟩:b=b'/\o=o':=by simpa using e
 exact ⟨b,o,rfl,Nat.lt_of_lt_of_le hlt hb.size,λ i hi=>by rw [← hx i hi];exact World.cell?_of_block (w:=W) (hb.block b hN)⟩
def lB (w:World) (A:Option Addr) (cap:Nat) (l:List UInt8) (pre:List aq) (W:World):Prop :=
 (∃ v,Boxed W (w.heap.size+2) 77 v/\W.ownsRow (w.heap.size+1) 86 4 v pre.length (bz pre))/\Below w.heap.size w W/\(∃ p why,VB W (w.heap.size+1) A cap l p why) /\
  Blk W (w.heap.size+3) 109 #[Zp (some ⟨w.heap.size+1,0,none⟩)]/\Blk W (w.heap.size+4) 165 (lA (w.heap.size+1))/\w.heap.size+5<=W.heap.size
theorem VB.putObj {W:World} {g:Nat} {A:Option Addr} {cap:Nat} {l:List UInt8} {p why:Int} {k:Nat} {o:Obj} (o':Obj) (h:VB W g A cap l p why) (ho:W.heap[k]? = some o) (hc:o.isCells=false):VB (W.putObj k o') g A cap l p why :=
 ⟨h.1.putObj o' ho hc,h.2.putObj o' ho hc⟩
theorem lB.putObj {w:World} {A:Option Addr} {cap:Nat} {l:List UInt8} {pre:List aq} {W:World} {k:Nat} {o:Obj} (o':Obj) (h:lB w A cap l pre W) (hk:w.heap.size<=k) (ho:W.heap[k]? = some o) (hc:o.isCells=false):lB w A cap l pre (W.putObj k o'):=by
 obtain ⟨⟨v,hv,hr⟩,hb,⟨p,why,hV⟩,h1,h2,h3⟩:=h;exact ⟨⟨v,Blk.putObj o' hv ho hc,ownsRow_putObj hr o' ho hc⟩,bA hb k o' hk,⟨p,why,hV.putObj o' ho hc⟩,h1.putObj o' ho hc,h2.putObj o' ho hc,by simpa [World.putObj] using h3⟩
theorem lB.alloc {w:World} {A:Option Addr} {cap:Nat} {l:List UInt8} {pre:List aq} {W:World} (h:lB w A cap l pre W) (o:Obj):lB w A cap l pre (W.alloc o):=by
 obtain ⟨⟨v,hv,hr⟩,hb,⟨p,why,hV⟩,h1,h2,h3⟩:=h;exact ⟨⟨v,Blk.alloc hv o,hr.alloc o⟩,hb.alloc hb.size o,⟨p,why,hV.keep ((Below.refl _ W).alloc (Nat.le_refl _) o)⟩,h1.alloc o,h2.alloc o,by simp;omega⟩
theorem lB.step {w:World} {A:Option Addr} {cap:Nat} {l:List UInt8} {pre:List aq} {W W':World} (h:lB w A cap l pre W) (hs:StV (w.heap.size+1) A cap l W W'):lB w A cap l pre W':=by
 obtain ⟨⟨v,hv,hr⟩,hb,⟨p,why,hV⟩,h1,h2,h3⟩:=h;have hne:=dw hr hV.1 (by decide);exact ⟨⟨v,hv.kept hs.1 (by simp),hr.kept hs.1 (.inr (Ne.symm hne))⟩,hb.grown hs.1 hb.size (λ k e=>by cases e;omega),hs.2 ⟨p,why,hV⟩,h1.grown hs.1 (by simp),h2.grown hs.1 (by simp),Nat.le_trans h3 hs.1.size⟩
theorem zo (s:ByteArray) (w:World) (hG:GOK w) (hs:s.size<=512):Calls Tryz.prog 50 #[Zt s] w (lJ (iK (sl s)) w):=by
 obtain ⟨i0,hi,hz0,hz1,hz2⟩:=info_parts xt;refine (callsIn_wide (n:=3)).1 ?_;refine callsIn_of_wp_marks Tryz.func50 rfl trivial ?_ rfl;simp only [Tryz.ntmps50,List.size_toArray,List.length_cons,List.length_nil,Nat.reduceAdd,Nat.reduceSub,Array.replicate_succ,Array.replicate_zero,List.push_toArray,List.append_toArray,List.nil_append,List.cons_append];refine wpIn_wide.2 ?_;obtain ⟨cap,W1,hcv,hcap,hb1,hs1,hr1⟩:=fq (P:=Tryz.prog) w 9 67 5 s Tryz.underlying9 Tryz.underlying67 Tryz.underlying5;rw [← cA s] at hcap;have hlen:(sl s).length<=512:=by rw [cA];exact hs
 obtain ⟨l,hl⟩:∃ l,sl s=l:=⟨_,rfl⟩
 have hsz:s.size=l.length:=by rw [← hl,cA]
 rw [hl] at hr1 hcap hlen;rw [hsz] at hcv;have HSZ:=aW hsz;have HSL:=aW hl;have hsi:(512:Int)<(s.size:Int)->False:=by omega
 have hs512:(s.size:Int)<=512:=by omega
 clear hsz hl hs;have HR:=aW hr1;have HB1:=aW hb1;have HG:=aW hG;clear hr1 hb1 hG;go_wp2_with (go_at_call 84;refine (sI _ _).mono ?_;rintro e w2 ⟨rfl,hrb,hwb,hs2,hb2⟩);rw [show w.heap.size+1+1+1+1=w.heap.size+4 from rfl,show w.heap.size+1+1+1=w.heap.size+3 from rfl,show w.heap.size+1+1=w.heap.size+2 from rfl];have hbr:=Blk.new W1 113 (cG (some ⟨w.heap.size,0,none⟩) l.length cap 0 0);have hbo:=Blk.new (W1.alloc (.cells (cG (some ⟨w.heap.size,0,none⟩) l.length cap 0 0) 113)) 77 #[Zs none 0 0];rw [hs1] at hbr;simp only [World.size_alloc,hs1] at hrb hwb hs2 hb2 hbo;have hb3:Below W1.heap.size W1 w2:=(((Below.refl _ W1).alloc (Nat.le_refl _) _).alloc (by simp) _).trans (hb2.mono (by omega));have hV2:VB w2 (w.heap.size+1) (some ⟨w.heap.size,0,none⟩) cap l 0 0:=⟨((hbr.alloc _).below hb2 (by omega)),(HR.out.below hb3)⟩
 have hI0:lB w (some ⟨w.heap.size,0,none⟩) cap l [] w2:=⟨⟨_,hbo.below hb2 (by omega),World.ownsRow_nil _ _ _ _⟩,HB1.out.trans (hb3.mono HB1.out.size),⟨0,0,hV2⟩,hrb,hwb,by omega⟩
 clear hbr hbo hb2;refine (wpIn_wide (n:=3)).1 ?_;refine rt rfl (by omega) (gf:=134) (lb:=#[Zp (some ⟨w.heap.size+3,0,none⟩),Zp (some ⟨w.heap.size+4,0,none⟩)]) rfl trivial (enters_of Tryz.func134 (by kernel_rfl) rfl)
  (sJ W1 (w.heap.size+1) (w.heap.size+3) (w.heap.size+4) (some ⟨w.heap.size,0,none⟩) cap l 0 w2 (HG.out.keep HB1.out) HR.out hcap (by omega) (Nat.zero_le _) (by omega) (by omega) (by omega) (aZ.of_below hb3 (λ _ h=>h)) hV2 hrb hwb) (Below.refl _ _) (λ _=>rfl)
  (λ A B k o hs hk ho _=>(hs.1.block k (Array.getElem?_eq_some_iff.1 ho).1 (by simp;omega)).trans ho)
  (λ h k=>h.trans k) (λ W k o o' hk _ _=>aZ.putObj (N:=w2.heap.size) (by intro j hj;omega) W k o' hk)
  (λ xs W k o o' _ ho hc h=>by obtain ⟨h1,q,er,h2,h3⟩:=h;exact ⟨h1,q,er,h2.putObj o' ho hc,h3⟩) (λ _ _ _ _ _ _ _ _ h=>h)
  (lB w (some ⟨w.heap.size,0,none⟩) cap l) (λ _ _ _=>False) (λ s A B hs h=>h.step hs) (λ _ _ _ _ _ h=>h) (λ s W k o o' hk ho hc h=>h.putObj o' (by omega) ho hc) (λ _ _ _ _ _ _ _ _ _ h=>h) (λ o o'=>(hI0.alloc o).alloc o')
  (λ pre x a1 W => ∃ tb,a1={ tmps:=#[Zt s,undef,Zs none 0 0,Zi Zq 0,Zi Zq 0,Zp (some ⟨w.heap.size+1,0,none⟩),Zp (some ⟨w.heap.size+2,0,none⟩),Zp (some ⟨tb,0,none⟩),Zt s,Zi Zq s.size,.bool (decide (512<(s.size:Int))),Zt s,Zs (some ⟨w.heap.size,0,none⟩) l.length cap,
   .agg #[Zi Zq 0,Zi Zq 0,Zs (some ⟨w.heap.size,0,none⟩) l.length cap],Zp (some ⟨w.heap.size+1,0,none⟩),Zp (some ⟨w.heap.size+1,0,none⟩),.func (.func 134) #[] #[Zp (some ⟨w.heap.size+3,0,none⟩),Zp (some ⟨w.heap.size+4,0,none⟩)],.agg #[Zi Zq x.1,Zi Zq x.2.1,Zt ⟨x.2.2.1.toArray⟩,Zi Zq x.2.2.2],undef,undef,undef,undef,undef,undef,undef,undef,undef,undef,undef,undef,undef,undef,undef,undef,undef,undef,undef,undef,undef],defers:=[] }/\Blk W tb 86 #[Zi Zq x.1,Zi Zq x.2.1,Zt ⟨x.2.2.1.toArray⟩,Zi Zq x.2.2.2]/\lB w (some ⟨w.heap.size,0,none⟩) cap l pre W)
  ?hI1p ?assign ?body ?done ?stop
 case hI1p =>
  rintro pre x a1 W k o o' hk ho hc ⟨tb,e,h1,h2⟩;exact ⟨tb,e,h1.putObj o' ho hc,h2.putObj o' (by omega) ho hc⟩
 case assign =>
  intro k pre x W hI hadm;have hIA:=hI.alloc (.cells #[Zi Zq x.1,Zi Zq x.2.1,Zt ⟨x.2.2.1.toArray⟩,Zi Zq x.2.2.2] 86);have HIA:=aW hIA;clear hIA;simp only [vm,uu];gi_wp2;have hba:Below W.heap.size W (W.alloc (.cells #[Zi Zq x.1,Zi Zq x.2.1,Zt ⟨x.2.2.1.toArray⟩,Zi Zq x.2.2.2] 86)):=(Below.refl _ W).alloc (Nat.le_refl _) _;exact ⟨⟨W.heap.size,rfl,Blk.new _ _ _,HIA.out⟩,KeepsFrom.below_ hba,aZ.of_below hba (λ k hk=>by have:=hI.2.2.2.2.2;omega)⟩
 case body =>
  rintro k pre x a1 W ⟨tb,rfl,htb,hI⟩ hadm;obtain ⟨⟨v,hv,hrow⟩,hB,⟨p,why,hV⟩,h1,h2,h3⟩:=hI;have hpl:pre.length+1<=513:=by have:=hadm.length_le;have:=o5 l 0;simp at *;omega
  have hc:=hv.cell;have hlt:=hv.lt;obtain ⟨c1,f1,l1⟩:=htb.rules;have hnews:∀ j u,(lI x)[j]? = some u->(W.alloc (.cells #[Zi Zq x.1,Zi Zq x.2.1,Zt ⟨x.2.2.1.toArray⟩,Zi Zq x.2.2.2] 86)).cell? ((⟨W.heap.size,0,none⟩:Addr).add j)=some u:=by
   obtain ⟨ad,e,h⟩:=(Rd.of_blk (Blk.new W 86 #[Zi Zq x.1,Zi Zq x.2.1,Zt ⟨x.2.2.1.toArray⟩,Zi Zq x.2.2.2])).at_ (by simp);cases e
   exact h
  have HW:=aW (And.intro hnews (And.intro hV (And.intro h1 (And.intro h2 hB))));clear hnews hV h1 h2 hB;gi_wp2_with (gi_at_builtin;refine wpListIn_append_own _ rfl _ _ 77 rfl (w.heap.size+1) 86 i0 _ 4 40 Tryz.underlying77 hi hz0 hz1 hz2 rfl (by decide) _ _ _ rfl (hrow.alloc _) ⟨W.heap.size,0,none⟩ 1 1 (lI x) rfl rfl HW.out.1 (by have:=pT [x];simpa [bz] using this) (by unfold maxLen;omega) (by omega) (by simp;omega) ?_;intro v' w1 hown' hgrow _;obtain ⟨g',cap',rfl⟩:=ownsRow_succ hown';obtain ⟨hv1,hv2,hr2,hk2,hb2⟩:=hv.appended (by decide) hrow (by omega) (by omega) hown' hgrow;have hc1:=hv1.cell;have hf1:=hv1.frozen);obtain ⟨_,hV,h1,h2,hB⟩:=HW.out;have hV':Blk (w1.setCell ⟨w.heap.size+2,0,none⟩ (Zs (some ⟨g',0,none⟩) (pre.length+1) cap')) (w.heap.size+1) 113 _:=((hV.1.alloc _).grown hgrow (dw hrow hV.1 (by decide))).far (by simp) _;have h1':Blk (w1.setCell ⟨w.heap.size+2,0,none⟩ (Zs (some ⟨g',0,none⟩) (pre.length+1) cap')) (w.heap.size+3) 109 _:=((h1.alloc _).grown hgrow (dw hrow h1 (by decide))).far (by simp) _;have h2':Blk (w1.setCell ⟨w.heap.size+2,0,none⟩ (Zs (some ⟨g',0,none⟩) (pre.length+1) cap')) (w.heap.size+4) 165 _:=((h2.alloc _).grown hgrow (dw hrow h2 (by decide))).far (by simp) _;refine ⟨hk2.from _,⟨hb2.size,?_⟩,⟨_,hv2,?_⟩,hB.trans (hb2.mono (by omega)),⟨p,why,hV',hV.2.below_at hb2 (by omega)⟩,h1',h2',Nat.le_trans h3 hb2.size⟩
  ·rintro k (hk | rfl | rfl | rfl)
   ·exact hb2.block k (by omega)
   ·exact iv hV.1 hV'
   ·exact iv h1 h1'
   ·exact iv h2 h2'
  ·have e:bz (pre++[x])=bz pre++lI x:=by rw [pS];simp [bz]
   rw [e,List.length_append,List.length_singleton];exact hr2
 case done =>
  rintro D xs W hD ⟨rfl,q,er,hV,hend⟩ hI hK;obtain ⟨⟨v,hv,hrow⟩,hB,_,_,_,h3⟩:=hI;obtain ⟨c1,f1,l1⟩:=hV.1.rules;unfold cG at c1;have c2:=hv.cell;by_cases her:er=0
  ·subst her;rw [if_pos rfl] at hend;have HS:=aW (show iK l=((cJ l 0).1,0,0) by unfold iK;rw [if_neg (by omega),hend]);clear hend;go_wp2;refine ⟨by simp,.inl ⟨_,_,rfl,run_takeDeferred hK,?_⟩⟩;refine ⟨.tuple #[v,Zi Zq 0,Zi Zq 0],by simp only [results,Tryz.results50];go_simp,?_⟩;rw [HSL.out,HS.out];exact ⟨v,rfl,TS.of_own (ownsRow_putObj hrow (.deferred none) hK rfl),bA hB D _ (by omega)⟩
  ·have her':(er != 0)=true:=by simpa using her
   rw [if_neg her] at hend;have HS:=aW (show iK l=([],q,er) by unfold iK;rw [if_neg (by omega),hend]);clear hend;go_wp2;go_quiet (fail);go_wp2;have hK1:(W.drewN nq).heap[D]? = some (.deferred (some [])):=hK;refine ⟨by simp,.inl ⟨_,_,rfl,run_takeDeferred hK1,?_⟩⟩;refine ⟨.tuple #[Zs none 0 0,Zi Zq q,Zi Zq er],by simp only [results,Tryz.results50];go_simp,?_⟩;rw [HSL.out,HS.out];exact ⟨_,rfl,TS.nil,bA (aj hB _) D _ (by omega)⟩
 case stop =>
  rintro D c pre W _ _ h _;exact h.elim
theorem xy (s:ByteArray) (w:World) (hG:GOK w) (hs:s.size<=4194304):Calls Tryz.prog 50 #[Zt s] w (lJ (iK (sl s)) w):=by
 by_cases h:s.size<=512
 ·exact zo s w hG h
 ·have HS:=aW (show iK (sl s)=([],0,3) by unfold iK;rw [if_pos (by rw [cA];omega)]);go_enter Tryz.func50,Tryz.ntmps50;go_wp2;go_ret3;rw [HS.out];exact ⟨_,rfl,TS.nil,Below.refl _ _⟩
end
end Go.Proofs.YtgmnmnnoahdjnaaGreatDoor
