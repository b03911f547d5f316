import Derived.Test.YtgmnmnnoahdjnaaGreatDoorE03
import Derived.Test.YtgmnmnnoahdjnaaGreatDoorE01
import Derived.Test.YtgmnmnnoahdjnaaGreatDoorE02
open Go.Value renaming int → Zi, slice → Zs, string → Zt, pointer → Zp
open Go.IntKind renaming i64 → Zq
set_option maxRecDepth 100000
set_option maxHeartbeats 16000000
set_option linter.unusedVariables false
set_option linter.unusedSimpArgs false
namespace Go.Proofs.YtgmnmnnoahdjnaaGreatDoor
section
open Go.RowKit
attribute [local go_sem] aa ac ae ab
mutual
theorem B9:∀ (x:SJ) (r:Nat),ly r x=true->ly (r+1) x=true
 | .mk k s a b body els,0,h=>by unfold ly at h;simp at h
 | .mk k s a b body els,r+1,h=>by
  have h1:=BM body r;have h2:=BM els r;unfold ly at h ⊢;rw [Bool.and_eq_true,Bool.and_eq_true] at h ⊢;refine ⟨by simp,h.2.1,?_⟩;have h3:=h.2.2;rw [Nat.add_sub_cancel] at h3 ⊢;split at h3
  ·rename_i hk;rw [if_pos hk];exact h3
  ·rename_i hk
   rw [if_neg hk];split at h3
   ·rename_i hk2
    rw [if_pos hk2];simp only [Bool.and_eq_true] at h3 ⊢;exact ⟨h3.1,h3.2.1,h1 h3.2.2.1,h2 h3.2.2.2⟩
   ·rename_i hk2
    rw [if_neg hk2];split at h3
    ·rename_i hk3
     rw [if_pos hk3];simp only [Bool.and_eq_true] at h3 ⊢;exact ⟨h3.1,h3.2.1,h1 h3.2.2.1,h3.2.2.2⟩
    ·cases h3
theorem BM:∀ (l:List SJ) (r:Nat),cF r l=true->cF (r+1) l=true
 | [],_,_=>by unfold cF;rfl
 |x::l,r,h=>by
  unfold cF at h ⊢;rw [Bool.and_eq_true] at h ⊢;exact ⟨B9 x r h.1,BM l r h.2⟩
end
theorem B4 {q:List UInt8} {p:List SJ} (h:fG (BF q p)=true):fG p=true:=by
 unfold fG BF cF ly at h;simp only [Bool.and_eq_true] at h;have h2:=h.1.2.2;rw [if_neg (by decide),if_neg (by decide),if_pos trivial] at h2;simp only [Bool.and_eq_true] at h2;exact BM p 11 h2.2.2.1
mutual
/-- is a name a loop's,as a Bool? -/
def hbS (q:List UInt8):SJ->Bool | .mk k s _ _ body els=>(decide (k=3) && decide (s=q)) || (hbL q body || hbL q els)
def hbL (q:List UInt8):List SJ->Bool | []=>false | x::r=>hbS q x || hbL q r
end
mutual
theorem B8 (q:List UInt8):∀ x:SJ,hbS q x=true ↔ B3 q x
 | .mk k s a b body els=>by rw [hbS,B3];simp only [Bool.or_eq_true,Bool.and_eq_true,decide_eq_true_eq,BL q body,BL q els]
theorem BL (q:List UInt8):∀ l:List SJ,hbL q l=true ↔ BG q l
 | []=>by rw [hbL,BG];simp
 | x::r=>by rw [hbL,BG,Bool.or_eq_true,B8 q x,BL q r]
end
theorem BQ (q:List UInt8):∀ a b:List SJ,hbL q (a++b)=(hbL q a || hbL q b)
 | [],b=>by simp [hbL]
 | x::r,b=>by rw [List.cons_append,hbL,hbL,BQ q r b,Bool.or_assoc]
theorem Cg {q:List UInt8} {l:List SJ} {i:Nat} {x:SJ} (h:l[i]? = some x):hbL q (l.take (i+1))=(hbL q (l.take i) || hbS q x):=by
 rw [List.take_add_one,h,BQ];show _=_;congr 1;show hbL q [x]=_;rw [hbL,hbL,Bool.or_false]
theorem BI {q:List UInt8} {l:List SJ} {i:Nat} (h:hbL q (l.take i)=true):hbL q l=true:=by
 rw [← List.take_append_drop i l,BQ,h];rfl
def BY (q:List UInt8) (M:Nat):Prop:=∀ (l:List SJ) (css:List (List Value)) (A:Option Addr) (n ca:Nat) (w:World),aA l<M->SRs w TT css l->l.length=n->n<=ca->RdF w TT A css.flatten->n<=4194304 ->
 Calls Tryz.prog 42 #[Zs A n ca,Zt ⟨q.toArray⟩] w λ e w'=>e=.returned (.bool (hbL q l))/\Below w.heap.size w w'
theorem Ch (q:List UInt8) (M:Nat) (hM4:M<=4194304) (ih:BY q M):BY q (M+1):=by
 intro l css A n ca w hM hS hln hnc hR hn;have HS:=aW (And.intro hS hR);have HL:=aW hln;have HI:=aW ih;have HM:=aW hM;clear hS hR hln ih hM;go_enter Tryz.func42,Tryz.ntmps42;go_wp2_with fail;go_loopg [9] n (λ gk s9 wr => ∃ i:Nat,i<=n/\gk=n-i/\s9=Zi Zq (i:Int)/\Hid (hbL q (l.take i)=false)/\Hid (Below w.heap.size w wr))
 case atStart=>exact ⟨0,Nat.zero_le _,rfl,by go_num,aW rfl,aW (Below.refl _ _)⟩
 case round =>
  obtain ⟨i,hi,hgk,rfl,HV,HB⟩:=hrel;have HGK:=aW hgk;clear hgk;by_cases hlt:i<n;rotate_left
  ·obtain rfl:i=n:=by omega
   have hf:hbL q l=false:=by
    have h:=HV.out;rwa [List.take_of_length_le (by rw [HL.out];exact Nat.le_refl _)] at h
   go_wp2_with fail;go_ret;exact ⟨congrArg (λ b=>Ending.returned (.bool b)) hf.symm,HB.out⟩
  obtain ⟨⟨k,s,a,b,body,els⟩,hx⟩:∃ x,l[i]? = some x:=⟨_,List.getElem?_eq_getElem (by rw [HL.out];exact hlt)⟩
  obtain ⟨bl,o,ka,kva,nva,sva,Ava,nka,cka,Bva,nya,cya,sa,Ca,nxa,cxa,kb,kvb,nvb,svb,Avb,nkb,ckb,Bvb,nyb,cyb,sb,Cb,nxb,cxb,BA,EA,cbo,cel,bss,ess,rfl,hbl,hblo,hEA,hEB,⟨hb1,hb2_,hb3⟩,⟨he1,he2,he3⟩,hSR,hz⟩:=fC HS.out.1 HS.out.2 hx;obtain ⟨nbo,hnbo⟩:∃ q,body.length=q:=⟨_,rfl⟩
  obtain ⟨nel,hnel⟩:∃ q,els.length=q:=⟨_,rfl⟩
  rw [hnbo] at hb2_ hz hSR;rw [hnel] at he2 hz hSR;have hsum:=xj hx;rw [eI] at hsum;have hvt:=Cg (q:=q) hx;rw [HV.out,Bool.false_or,hbS] at hvt;have hlb:bl<wr.heap.size:=Nat.lt_of_lt_of_le hbl HB.out.size;have HRG:=aW (show wr.rangeAt bl (o+i*20) [Zi Zq k,Zt ⟨s.toArray⟩,Zi Zq ka,Zi Zq kva,Zi Zq nva,Zt sva,Zs Ava nka cka,Zs Bva nya cya,Zt sa,Zs Ca nxa cxa,Zi Zq kb,Zi Zq kvb,Zi Zq nvb,Zt svb,Zs Avb nkb ckb,Zs Bvb nyb cyb,Zt sb,Zs Cb nxb cxb,Zs BA nbo cbo,Zs EA nel cel] from λ j v hv=>by
   rw [Nat.add_assoc];exact (HB.out.cell (p:=⟨bl,o+(i*20+j),none⟩) hbl).trans (hz j v hv))
  have hM9:=HM.out;have hbn:nbo<=4194304/\nel<=4194304:=by
   have h1:=fx body;have h2:=fx els;omega
  have HIB:=aW (λ (W:World) (h:Below w.heap.size w W)=>HI.out body bss BA nbo cbo W (by omega) (RR.imp hb1 λ c x hc=>hc.bel h) hnbo hb2_ (hb3.keep (ah.of_below h)) hbn.1);have HIE:=aW (λ (W:World) (h:Below w.heap.size w W)=>HI.out els ess EA nel cel W (by omega) (RR.imp he1 λ c x hc=>hc.bel h) hnel he2 (he3.keep (ah.of_below h)) hbn.2);have HVT:=aW hvt;clear hz hSR hEA hEB hb1 hb2_ hb3 he1 he2 he3 hnbo hnel hbl hblo hx hsum hvt hM9 hbn;obtain ⟨gs,hgs⟩:∃ z,wr.heap.size=z:=⟨_,rfl⟩
  obtain ⟨Wa,hWa⟩:∃ Wa,wr.alloc (.cells #[Zi Zq k,Zt ⟨s.toArray⟩,Zi Zq ka,Zi Zq kva,Zi Zq nva,Zt sva,Zs Ava nka cka,Zs Bva nya cya,Zt sa,Zs Ca nxa cxa,Zi Zq kb,Zi Zq kvb,Zi Zq nvb,Zt svb,Zs Avb nkb ckb,Zs Bvb nyb cyb,Zt sb,Zs Cb nxb cxb,Zs BA nbo cbo,Zs EA nel cel] 48)=Wa:=⟨_,rfl⟩
  have HBA:=aW (show Blk Wa gs 48 #[Zi Zq k,Zt ⟨s.toArray⟩,Zi Zq ka,Zi Zq kva,Zi Zq nva,Zt sva,Zs Ava nka cka,Zs Bva nya cya,Zt sa,Zs Ca nxa cxa,Zi Zq kb,Zi Zq kvb,Zi Zq nvb,Zt svb,Zs Avb nkb ckb,Zs Bvb nyb cyb,Zt sb,Zs Cb nxb cxb,Zs BA nbo cbo,Zs EA nel cel] by rw [← hWa,← hgs];exact Blk.new _ _ _);have HWB:=aW (show Below w.heap.size w Wa by rw [← hWa];exact HB.out.alloc HB.out.size _);have HWA:=aW hWa;have HGS:=aW hgs;clear hWa hgs;go_upto_region 3 with fail;go_step;go_step;go_step;go_step;refine wpList_load_mid rfl 48 (.tmp 11) rfl bl (o+i*20) rfl [Zi Zq k,Zt ⟨s.toArray⟩,Zi Zq ka,Zi Zq kva,Zi Zq nva,Zt sva,Zs Ava nka cka,Zs Bva nya cya,Zt sa,Zs Ca nxa cxa,Zi Zq kb,Zi Zq kvb,Zi Zq nvb,Zt svb,Zs Avb nkb ckb,Zs Bvb nyb cyb,Zt sb,Zs Cb nxb cxb,Zs BA nbo cbo,Zs EA nel cel] _ HRG.out Tryz.underlying48 rfl (by kernel_rfl) ?_;go_step;go_step;go_step;refine cz rfl 48 (.tmp 6) (.tmp 12) rfl _ _ rfl rfl (by kernel_rfl) (by kernel_rfl) (by first | kernel_rfl | simp [Value.oneCell']) ?_;rw [HWA.out]
  try rw [HGS.out]
  clear HWA HRG hlb;obtain ⟨c0,f0,l0⟩:=HBA.out.rules;have z0:=c0 0;have z1:=c0 1;have z18:=c0 18;have z19:=c0 19;simp at z0 z1 z18 z19;clear c0 f0;obtain ⟨x,hx⟩:∃ x,(s == q)=x:=⟨_,rfl⟩
  have hxd:decide (s=q)=x:=by rw [← hx,Bool.eq_iff_iff];simp
  have hsq:((⟨s.toArray⟩:ByteArray).toList == (⟨q.toArray⟩:ByteArray).toList)=x:=by rw [eH];exact hxd
  obtain ⟨S1,hS1⟩:∃ S:ByteArray,⟨s.toArray⟩=S:=⟨_,rfl⟩
  rw [hS1] at hsq;have hsq2:(S1.toList == q)=x:=by have h:=hsq;rw [show (⟨q.toArray⟩:ByteArray).toList=q from Aj q] at h;exact h
  rw [hS1] at z1;rw [hxd] at HVT;obtain ⟨y,hy⟩:∃ y,decide (k=3)=y:=⟨_,rfl⟩
  rw [hy] at HVT;have hk3:(k == 3)=y:=by rw [← hy,Bool.eq_iff_iff];simp
  clear hx hxd hS1 hy;obtain ⟨b1,hb1⟩:∃ z,hbL q body=z:=⟨_,rfl⟩
  obtain ⟨b2,hb2⟩:∃ z,hbL q els=z:=⟨_,rfl⟩
  rw [hb1,hb2] at HVT;rw [hb1] at HIB;rw [hb2] at HIE;clear hb1 hb2;cases y
  ·replace HVT:=aW (show hbL q (l.take (i+1))=(b1 || b2) by cases x<;>exact HVT.out);go_wp2_with fail;refine (HIB.out Wa HWB.out).mono ?_;rintro e w5 ⟨rfl,hb5⟩;have HB5:=aW (HWB.out.trans (hb5.mono HWB.out.size));have HK5:=aW (HBA.out.keep hb5);cases b1
   ·obtain ⟨c5,f5,l5⟩:=HK5.out.rules;have z19':=c5 19;simp at z19';clear c5 f5 hb5;go_wp2_with fail;refine (HIE.out w5 HB5.out).mono ?_;rintro e w6 ⟨rfl,hb6⟩;have HB6:=aW (HB5.out.trans (hb6.mono HB5.out.size));clear hb6;cases b2
    ·go_wp2_with fail;go_roundg (n-(i+1))
     case measure=>rw [HGK.out];omega
     case rel=>exact ⟨i+1,hlt,rfl,by go_num,HVT,HB6⟩
    ·go_wp2_with fail;go_ret;exact ⟨congrArg (λ b=>Ending.returned (.bool b)) (BI (i:=i+1) HVT.out).symm,HB6.out⟩
   ·clear hb5;go_wp2_with fail;go_ret;exact ⟨congrArg (λ b=>Ending.returned (.bool b)) (BI (i:=i+1) (by cases b2<;>exact HVT.out)).symm,HB5.out⟩
  ·cases x
   ·replace HVT:=aW (show hbL q (l.take (i+1))=(b1 || b2) from HVT.out);go_wp2_with fail;refine (HIB.out Wa HWB.out).mono ?_;rintro e w5 ⟨rfl,hb5⟩;have HB5:=aW (HWB.out.trans (hb5.mono HWB.out.size));have HK5:=aW (HBA.out.keep hb5);cases b1
    ·obtain ⟨c5,f5,l5⟩:=HK5.out.rules;have z19':=c5 19;simp at z19';clear c5 f5 hb5;go_wp2_with fail;refine (HIE.out w5 HB5.out).mono ?_;rintro e w6 ⟨rfl,hb6⟩;have HB6:=aW (HB5.out.trans (hb6.mono HB5.out.size));clear hb6;cases b2
     ·go_wp2_with fail;go_roundg (n-(i+1))
      case measure=>rw [HGK.out];omega
      case rel=>exact ⟨i+1,hlt,rfl,by go_num,HVT,HB6⟩
     ·go_wp2_with fail;go_ret;exact ⟨congrArg (λ b=>Ending.returned (.bool b)) (BI (i:=i+1) HVT.out).symm,HB6.out⟩
    ·clear hb5;go_wp2_with fail;go_ret;exact ⟨congrArg (λ b=>Ending.returned (.bool b)) (BI (i:=i+1) (by cases b2<;>exact HVT.out)).symm,HB5.out⟩
   ·go_wp2_with fail;go_ret;exact ⟨congrArg (λ b=>Ending.returned (.bool b)) (BI (i:=i+1) HVT.out).symm,HWB.out⟩
theorem Cd (q:List UInt8):∀ M,M<=4194304->BY q M
 | 0,_=>λ l css A n ca w hM=>absurd hM (Nat.not_lt_zero _)
 | M+1,h=>Ch q M (by omega) (Cd q M (by omega))
end
end Go.Proofs.YtgmnmnnoahdjnaaGreatDoor
