import Derived.Test.YtgmnmnnoahdjnaaGreatDoorH41
open Go.Value renaming int → Zi, slice → Zs, string → Zt, pointer → Zp
open Go.IntKind renaming i64 → Zq
set_option maxRecDepth 100000
set_option maxHeartbeats 16000000
set_option linter.unusedVariables false
set_option linter.unusedSimpArgs false
namespace Go.Proofs.YtgmnmnnoahdjnaaGreatDoor
section
open Go.RowKit
attribute [local go_sem] ab ae af ac
theorem mO (kn:List (List UInt8)) (n:Nat):∀ a b:List SJ,rgL kn n (a++b)=if rgL kn n a≠0 then rgL kn n a else rgL kn n b
 | [],b=>by simp [rgL]
 |x::r,b=>by
  rw [List.cons_append,rgL,rgL,mO kn n r b];by_cases h:rgS kn n x=0
  ·simp [h]
  ·simp [h]
theorem vd (kn:List (List UInt8)) (n:Nat) (x:SJ):rgL kn n [x]=rgS kn n x:=by
 rw [rgL,rgL];by_cases h:rgS kn n x=0
 ·simp [h]
 ·simp [h]
theorem wV {kn:List (List UInt8)} {n:Nat} {l:List SJ} {i:Nat} {x:SJ} (h:l[i]? = some x) (h0:rgL kn n (l.take i)=0):rgL kn n (l.take (i+1))=rgS kn n x/\(rgS kn n x≠0->rgL kn n l=rgS kn n x):=by
 have e:rgL kn n (l.take (i+1))=rgS kn n x:=by
  rw [List.take_add_one,h,mO,if_neg (λ h'=>h' h0)];exact vd kn n x
 refine ⟨e,λ hx=>?_⟩;rw [← List.take_append_drop (i+1) l,mO,e,if_pos hx]
def rO (M:Nat):Prop:=∀ (l:List SJ) (css:List (List Value)) (A:Option Addr) (n ca:Nat) (kn:List (List UInt8)) (KA:Option Addr) (kl kc lp:Nat) (w:World),ap l<M->SRs w TT css l->l.length=n->n<=ca->RdF w TT A css.flatten->n<=4194304 ->
 kn.length=kl->kl<=lp+2->lp<=2->Rd w KA (ar kn) ->
 Calls Tryz.prog 62 #[Zs A n ca,Zs KA kl kc,Zi Zq (lp:Int)] w λ e w'=>e=.returned (Zi Zq (rgL kn lp l))/\Below w.heap.size w w'
theorem xT (M:Nat) (hM4:M<=4194304) (ih:rO M):rO (M+1):=by
 intro l css A n ca kn KA kl kc lp w hM hS hln hnc hR hn hkn hkl hlp hKR;have HS:=aW (And.intro hS hR);have HL:=aW hln;have HI:=aW ih;have HM:=aW hM;have HKN:=aW hkn;have HKR:=aW hKR;obtain ⟨i0,hi,hz,hs1,hs2⟩:=fd;have HII:=aW (And.intro hi (And.intro hz (And.intro hs1 hs2)));clear hS hR hln ih hM hkn hKR hi hz hs1 hs2;go_enter Tryz.func62,Tryz.ntmps62;go_wp2_with fail;go_loopg [7] n (λ gk s7 wr => ∃ i:Nat,i<=n/\gk=n-i/\s7=Zi Zq (i:Int)/\Hid (rgL kn lp (l.take i)=0)/\Hid (Below w.heap.size w wr))
 case atStart=>exact ⟨0,Nat.zero_le _,rfl,by go_num,aW rfl,aW (Below.refl _ _)⟩
 case round =>
  obtain ⟨i,hi,hgk,rfl,HV,HB⟩:=hrel;have HGK:=aW hgk;clear hgk;by_cases hlt:i<n;rotate_left
  ·obtain rfl:i=n:=by omega
   have hf:rgL kn lp l=0:=by
    have h:=HV.out;rwa [List.take_of_length_le (by rw [HL.out];exact Nat.le_refl _)] at h
   go_wp2_with fail;go_ret;exact ⟨congrArg (λ b=>Ending.returned (Zi Zq b)) hf.symm,HB.out⟩
  obtain ⟨⟨k,s,a,b,body,els⟩,hx⟩:∃ x,l[i]? = some x:=⟨_,List.getElem?_eq_getElem (by rw [HL.out];exact hlt)⟩
  obtain ⟨bl,o,ka,kva,nva,sva,Ava,nka,cka,Bva,nya,cya,sa,Ca,nxa,cxa,kb,kvb,nvb,svb,Avb,nkb,ckb,Bvb,nyb,cyb,sb,Cb,nxb,cxb,BA,EA,cbo,cel,bss,ess,rfl,hbl,hblo,hEA,hEB,⟨hb1,hb2_,hb3⟩,⟨he1,he2,he3⟩,hSR,hz⟩:=dH HS.out.1 HS.out.2 hx;obtain ⟨nbo,hnbo⟩:∃ q,body.length=q:=⟨_,rfl⟩
  obtain ⟨nel,hnel⟩:∃ q,els.length=q:=⟨_,rfl⟩
  rw [hnbo] at hb2_ hz hSR;rw [hnel] at he2 hz hSR;have hsum:=iO hx;rw [dv] at hsum;have HAT:=aW (wV hx HV.out);have hlb:bl<wr.heap.size:=Nat.lt_of_lt_of_le hbl HB.out.size;have HRG:=aW (show wr.rangeAt bl (o+i*20) [Zi Zq k,Zt ⟨s.toArray⟩,Zi Zq ka,Zi Zq kva,Zi Zq nva,Zt sva,Zs Ava nka cka,Zs Bva nya cya,Zt sa,Zs Ca nxa cxa,Zi Zq kb,Zi Zq kvb,Zi Zq nvb,Zt svb,Zs Avb nkb ckb,Zs Bvb nyb cyb,Zt sb,Zs Cb nxb cxb,Zs BA nbo cbo,Zs EA nel cel] from λ j v hv=>by
   rw [Nat.add_assoc];exact (HB.out.cell (p:=⟨bl,o+(i*20+j),none⟩) hbl).trans (hz j v hv))
  have hM9:=HM.out;have hbn:nbo<=4194304/\nel<=4194304:=by
   have h1:=bD body;have h2:=bD els;omega
  have hna:(aF a).length<=4194304/\(aF b).length<=4194304/\(aF a++aF b).length<=4194304:=by
   have h1:=bj a;have h2:=bj b;rw [List.length_append];omega
  obtain ⟨gs,hgs⟩:∃ z,wr.heap.size=z:=⟨_,rfl⟩
  obtain ⟨Wa,hWa⟩:∃ Wa,wr.alloc (.cells #[Zi Zq k,Zt ⟨s.toArray⟩,Zi Zq ka,Zi Zq kva,Zi Zq nva,Zt sva,Zs Ava nka cka,Zs Bva nya cya,Zt sa,Zs Ca nxa cxa,Zi Zq kb,Zi Zq kvb,Zi Zq nvb,Zt svb,Zs Avb nkb ckb,Zs Bvb nyb cyb,Zt sb,Zs Cb nxb cxb,Zs BA nbo cbo,Zs EA nel cel] 48)=Wa:=⟨_,rfl⟩
  have HBA:=aW (show Blk Wa gs 48 #[Zi Zq k,Zt ⟨s.toArray⟩,Zi Zq ka,Zi Zq kva,Zi Zq nva,Zt sva,Zs Ava nka cka,Zs Bva nya cya,Zt sa,Zs Ca nxa cxa,Zi Zq kb,Zi Zq kvb,Zi Zq nvb,Zt svb,Zs Avb nkb ckb,Zs Bvb nyb cyb,Zt sb,Zs Cb nxb cxb,Zs BA nbo cbo,Zs EA nel cel] by rw [← hWa,← hgs];exact Blk.new _ _ _);have HWB:=aW (show Below w.heap.size w Wa by rw [← hWa];exact HB.out.alloc HB.out.size _);have HIBo:=aW (λ (W:World) (h:Below w.heap.size w W) (kn':List (List UInt8)) (KA':Option Addr) (kl' kc' lp':Nat)=>HI.out body bss BA nbo cbo kn' KA' kl' kc' lp' W (by omega) (RR.imp hb1 λ c x hc=>hc.bel h) hnbo hb2_ (hb3.keep (aj.of_below h)) hbn.1);have HIE:=aW (λ (W:World) (h:Below w.heap.size w W)=>HI.out els ess EA nel cel kn KA kl kc lp W (by omega) (RR.imp he1 λ c x hc=>hc.bel h) hnel he2 (he3.keep (aj.of_below h)) hbn.2 HKN.out hkl hlp (HKR.out.below h));have HIA:=aW (λ (W:World) (h:Below Wa.heap.size Wa W)=>show Calls Tryz.prog 97 #[.agg #[Zi Zq ka,Zi Zq kva,Zi Zq nva,Zt sva,Zs Ava nka cka,Zs Bva nya cya,Zt sa,Zs Ca nxa cxa]] W (qL (aF a) W) from iH 4194304 (Nat.le_refl _) a _ W (by omega) (hEA.bel (HWB.out.trans (h.mono HWB.out.size))));have HIB:=aW (λ (W:World) (h:Below Wa.heap.size Wa W)=>show Calls Tryz.prog 97 #[.agg #[Zi Zq kb,Zi Zq kvb,Zi Zq nvb,Zt svb,Zs Avb nkb ckb,Zs Bvb nyb cyb,Zt sb,Zs Cb nxb cxb]] W (qL (aF b) W) from iH 4194304 (Nat.le_refl _) b _ W (by omega) (hEB.bel (HWB.out.trans (h.mono HWB.out.size))));clear hz hSR hEA hEB hb1 hb2_ hb3 he1 he2 he3 hnbo hnel hbl hblo hx hsum hM9 hbn;have HWA:=aW hWa;have HGS:=aW hgs;clear hWa hgs;go_upto_region 4 with fail;go_step;go_step;go_step;go_step;go_step;go_step;go_step;go_step;go_step;go_step;refine wpList_load_mid rfl 48 (.tmp 23) rfl bl (o+i*20) rfl [Zi Zq k,Zt ⟨s.toArray⟩,Zi Zq ka,Zi Zq kva,Zi Zq nva,Zt sva,Zs Ava nka cka,Zs Bva nya cya,Zt sa,Zs Ca nxa cxa,Zi Zq kb,Zi Zq kvb,Zi Zq nvb,Zt svb,Zs Avb nkb ckb,Zs Bvb nyb cyb,Zt sb,Zs Cb nxb cxb,Zs BA nbo cbo,Zs EA nel cel] _ HRG.out Tryz.underlying48 rfl (by kernel_rfl) ?_;go_step;go_step;go_step;refine bK rfl 48 (.tmp 8) (.tmp 24) rfl _ _ rfl rfl (by kernel_rfl) (by kernel_rfl) (by first | kernel_rfl | simp [Value.oneCell']) ?_;rw [HWA.out]
  try rw [HGS.out]
  clear HWA HRG hlb;go_upto_region 5 with fail;have HKS:=aW (show ∀ W',Below Wa.heap.size Wa W'->Blk W' gs 48 #[Zi Zq k,Zt ⟨s.toArray⟩,Zi Zq ka,Zi Zq kva,Zi Zq nva,Zt sva,Zs Ava nka cka,Zs Bva nya cya,Zt sa,Zs Ca nxa cxa,Zi Zq kb,Zi Zq kvb,Zi Zq nvb,Zt svb,Zs Avb nkb ckb,Zs Bvb nyb cyb,Zt sb,Zs Cb nxb cxb,Zs BA nbo cbo,Zs EA nel cel] from λ W' h=>HBA.out.keep h);refine wp_region_held_drew (S:=λ W'=>Blk W' gs 48 #[Zi Zq k,Zt ⟨s.toArray⟩,Zi Zq ka,Zi Zq kva,Zi Zq nva,Zt sva,Zs Ava nka cka,Zs Bva nya cya,Zt sa,Zs Ca nxa cxa,Zi Zq kb,Zi Zq kvb,Zi Zq nvb,Zt svb,Zs Avb nkb ckb,Zs Bvb nyb cyb,Zt sb,Zs Cb nxb cxb,Zs BA nbo cbo,Zs EA nel cel]) (by kernel_rfl) (by exact HBA.out.drew) (λ hHeld=>?_);refine bA (λ Z0 hw=>?_);have HZ:=aW (show Below Wa.heap.size Wa Z0 by rw [hw];exact (Below.refl _ _).drew);clear hw hHeld;have hHeld:=HKS.out _ HZ.out;refine tA 0 25 (Zp (some ⟨gs,2,none⟩)) rfl ?_;refine aY 1 26 (.agg #[Zi Zq ka,Zi Zq kva,Zi Zq nva,Zt sva,Zs Ava nka cka,Zs Bva nya cya,Zt sa,Zs Ca nxa cxa]) rfl ?_ ?_
  ·intro W hSw;obtain ⟨c8,f8,l8⟩:=hSw.rules;go_simp
  refine tA 3 28 (Zp (some ⟨gs,10,none⟩)) rfl ?_;refine aY 4 29 (.agg #[Zi Zq kb,Zi Zq kvb,Zi Zq nvb,Zt svb,Zs Avb nkb ckb,Zs Bvb nyb cyb,Zt sb,Zs Cb nxb cxb]) rfl ?_ ?_
  ·intro W hSw;obtain ⟨c8,f8,l8⟩:=hSw.rules;go_simp
  refine aV 2 27 rfl (λ K hK=>?_);go_simp;refine (HIA.out _ HZ.out).mono ?_;rintro e Z1 ⟨v1,rfl,hown,hb⟩;replace hown:=et hown HZ.out.size;replace HZ:=aW (HZ.out.trans (hb.mono HZ.out.size));have HO:=aW hown;clear hb hown;refine hK.out _ _ (by exact HKS.out _ HZ.out) (λ hHeld2=>?_);clear hK K hHeld;have hHeld:=hHeld2;clear hHeld2
  try simp only [pU]
  replace hHeld:=HKS.out _ HZ.out;refine aV 5 30 rfl (λ K hK=>?_);go_simp;refine (HIB.out _ HZ.out).mono ?_;rintro e Z2 ⟨v2,rfl,hown,hb⟩;obtain ⟨B2,cb2,rfl,_,hrd2⟩:=Rd.of_own hown;have ho:=py HO.out hb;replace HZ:=aW (HZ.out.trans (hb.mono HZ.out.size));clear HO;have HO:=aW ho;have HR2:=aW hrd2;clear hb hown hrd2 ho;refine hK.out _ _ (by exact HKS.out _ HZ.out) (λ hHeld2=>?_);clear hK K hHeld;have hHeld:=hHeld2;clear hHeld2
  try simp only [pU]
  replace hHeld:=HKS.out _ HZ.out;refine aV 6 31 rfl (λ K hK=>?_);rw [if_pos (by kernel_rfl)];refine ej _ (.tmp 27) (.tmp 30) 40 rfl Wa.heap.size 9 i0 _ 1 16 Tryz.underlying40 HII.out.1 HII.out.2.1 HII.out.2.2.1 HII.out.2.2.2 rfl (by decide) v1 (aF a).length (ar (aF a)) (by rfl) HO.out B2 (aF b).length cb2 (ga (av _) HR2.out) (ar (aF b)) (by rfl) (by rw [av,Nat.mul_one]) HR2.out (cg _) (by unfold maxLen;omega) (by omega) HZ.out.size ?_;intro row3 Z3 hown hgr hob;have ho:=aW (show Z3.ownsRow Wa.heap.size 9 1 row3 (aF a++aF b).length (ar (aF a++aF b)) by rw [List.length_append,gg];exact hown);have hz:=aW (show Below Wa.heap.size Wa Z3 from HZ.out.grown hgr HZ.out.size (λ k e=>(HO.out.lt k e).1));clear hown hgr hob HO HZ HR2;have HO:=ho;have HZ:=hz;clear ho hz;obtain ⟨NA,cn,rfl,hcn,hrd3⟩:=Rd.of_own HO.out;have HR:=aW hrd3;clear hrd3 HO;refine hK.out _ _ (by exact HKS.out _ HZ.out) (λ hHeld2=>?_);clear hK K hHeld;have hHeld:=hHeld2;clear hHeld2
  try simp only [pU]
  replace hHeld:=HKS.out _ HZ.out;refine tA 7 9 (.slice NA (aF a++aF b).length cn) rfl ?_;refine aX ?_;clear hHeld HKS HIA HIB;obtain ⟨N,hN⟩:∃ N,aF a++aF b=N:=⟨_,rfl⟩
  have HRS:=aW (show rgS kn lp (.mk k s a b body els)=if ∃ t ∈ N,t ∉ kn then 340 else if k=3 then (if s ∈ kn then 341 else if lp=2 then 342 else if rgL (kn++[s]) (lp+1) body≠0 then rgL (kn++[s]) (lp+1) body else rgL kn lp els) else if rgL kn lp body≠0 then rgL kn lp body else rgL kn lp els by rw [← hN,rgS]);rw [hN] at HR hna ⊢;clear hN;obtain ⟨ln,hln⟩:∃ z,N.length=z:=⟨_,rfl⟩
  rw [hln] at hna ⊢;have HLN:=aW hln;have hln4:=hna.2.2;clear hln hna;have HE:=aW (HWB.out.trans (HZ.out.mono HWB.out.size));have HX:=aW (HBA.out.keep HZ.out);have HKZ:=aW (HKR.out.below HE.out);clear HZ HBA HWB;go_wp2_with fail;go_loopg [10] ln (λ gk s10 wr => ∃ j:Nat,j<=ln/\gk=ln-j/\s10=Zi Zq (j:Int)/\wr=Z3/\Hid (∀ t ∈ N.take j,t ∈ kn))
  case atStart=>exact ⟨0,Nat.zero_le _,rfl,by go_num,rfl,aW (λ t h=>by simp at h)⟩
  case round =>
   obtain ⟨j,hj,hgk2,rfl,rfl,HNO⟩:=hrel;have HGJ:=aW hgk2;clear hgk2;by_cases hjl:j<ln
   ·obtain ⟨t,ht⟩:∃ t,N[j]? = some t:=⟨_,List.getElem?_eq_getElem (by rw [HLN.out];exact hjl)⟩
    obtain ⟨b9,o9,rfl,hb9,hz9⟩:=HR.out (by intro e;have:=congrArg List.length e;rw [av,HLN.out] at this;simp at this;omega);have hz8:=hz9 j (by rw [av,HLN.out];exact hjl);have x0:wr.cell? ⟨b9,o9+j,none⟩=some (Zt ⟨t.toArray⟩):=by
     rw [hz8];have hs9:=(List.getElem?_eq_some_iff.1 ht).2;simp [ar,hs9]
    have HT:=aW ht;clear hz9 hz8 ht;go_wp2_with fail;refine (va kn t KA kl kc wr HKN.out (by omega) HKZ.out).mono ?_;rintro e W9 ⟨rfl,h9⟩;subst h9;by_cases hm:t ∈ kn
    ·rw [decide_eq_true hm];have HMM:=aW hm;clear hm;go_wp2_with fail;go_roundg (ln-(j+1))
     case measure=>rw [HGJ.out];omega
     case rel =>
      refine ⟨j+1,hjl,rfl,by go_num,rfl,aW λ t' h'=>?_⟩;rw [List.take_add_one,HT.out] at h';rcases List.mem_append.1 h' with h' | h'
      ·exact HNO.out t' h'
      ·simp at h';rw [h'];exact HMM.out
    ·rw [decide_eq_false hm];have hv:rgL kn lp l=340:=by
      have h9:=HRS.out;rw [if_pos ⟨t,List.mem_of_getElem? HT.out,hm⟩] at h9;rw [HAT.out.2 (by rw [h9];decide),h9]
     clear hm;go_wp2_with fail;go_ret;exact ⟨congrArg (λ b=>Ending.returned (Zi Zq b)) hv.symm,HE.out⟩
   ·obtain rfl:j=ln:=by omega
    have hall:¬ ∃ t ∈ N,t ∉ kn:=by
     rintro ⟨t,h1,h2⟩;have h3:=HNO.out t;rw [List.take_of_length_le (by rw [HLN.out];exact Nat.le_refl _)] at h3;exact h2 (h3 h1)
    have hrs:=HRS.out;rw [if_neg hall] at hrs;have HRT:=aW hrs;clear HRS hrs hall HR HNO;obtain ⟨c0,f0,l0⟩:=HX.out.rules;have z0:=c0 0;have z1:=c0 1;have z18:=c0 18;have z19:=c0 19;simp at z0 z1 z18 z19;clear c0 f0;obtain ⟨k0,hk0⟩:∃ k0,k0=k:=⟨_,rfl⟩
    rw [← hk0] at HRT HAT;by_cases hk:k=3
    ·subst hk;replace HRT:=aW (show rgS kn lp (.mk k0 s a b body els)=(if s ∈ kn then 341 else if lp=2 then 342 else if rgL (kn++[s]) (lp+1) body≠0 then rgL (kn++[s]) (lp+1) body else rgL kn lp els) from by have h9:=HRT.out;rwa [if_pos hk0] at h9);clear hk0;go_wp2_with fail;refine (va kn s KA kl kc wr HKN.out (by omega) HKZ.out).mono ?_;rintro e W8 ⟨rfl,h9⟩;subst h9;by_cases hm:s ∈ kn
     ·rw [decide_eq_true hm];have hv:rgL kn lp l=341:=by
       have h9:=HRT.out;rw [if_pos hm] at h9;rw [HAT.out.2 (by rw [h9];decide),h9]
      clear hm;go_wp2_with fail;go_ret;exact ⟨congrArg (λ b=>Ending.returned (Zi Zq b)) hv.symm,HE.out⟩
     rw [decide_eq_false hm];by_cases hl2:lp=2
     ·have hv:rgL kn lp l=342:=by
       have h9:=HRT.out;rw [if_neg hm,if_pos hl2] at h9;rw [HAT.out.2 (by rw [h9];decide),h9]
      have hl2b:((lp:Int) == 2)=true:=by simp;omega
      clear hm;go_wp2_with fail;go_ret;exact ⟨congrArg (λ b=>Ending.returned (Zi Zq b)) hv.symm,HE.out⟩
     have hl2b:((lp:Int) == 2)=false:=by simp;omega
     replace HRT:=aW (show rgS kn lp (.mk k0 s a b body els)=if rgL (kn++[s]) (lp+1) body≠0 then rgL (kn++[s]) (lp+1) body else rgL kn lp els from by have h9:=HRT.out;rwa [if_neg hm,if_neg hl2] at h9);clear hm;go_wp2_with fail;refine (kL kn s KA kl kc W8 HKN.out (by omega) (ga (by rw [av];exact HKN.out) HKZ.out) HKZ.out).mono ?_;rintro e W9 ⟨v9,rfl,hown,hb⟩;obtain ⟨QA,qc,rfl,hqc,hqr⟩:=Rd.of_own hown;have hql:(kn++[s]).length=kl+1:=by rw [List.length_append,HKN.out];rfl
     rw [hql];replace HE:=aW (HE.out.trans (hb.mono HE.out.size));replace HX:=aW (HX.out.keep hb);have hgo:=HIBo.out W9 HE.out (kn++[s]) QA (kl+1) qc (lp+1) hql (by omega) (by omega) hqr;rw [show ((lp+1:Nat):Int)=(lp:Int)+1 by omega] at hgo;have HGO:=aW hgo;clear hgo hown hqr hqc hql hb z0 z1 z18 z19 l0 HKZ;obtain ⟨c0,f0,l0⟩:=HX.out.rules;have z18:=c0 18;have z19:=c0 19;simp at z18 z19;clear c0 f0;obtain ⟨e1,he1⟩:∃ z,rgL (kn++[s]) (lp+1) body=z:=⟨_,rfl⟩
     obtain ⟨e2,he2⟩:∃ z,rgL kn lp els=z:=⟨_,rfl⟩
     have HR1:=aW (show rgS kn lp (.mk k0 s a b body els)=if e1≠0 then e1 else e2 by rw [← he1,← he2];exact HRT.out);go_wp2_with fail;refine (HGO.out).mono ?_;rintro e Y1 ⟨rfl,hb⟩;have HE1:=aW (HE.out.trans (hb.mono HE.out.size));have HX1:=aW (HX.out.keep hb);clear hb z18 z19 l0;rw [he1];clear he1;by_cases hz1:e1=0;rotate_left
     ·have hzb:(e1 != 0)=true:=by simpa using hz1
      have hv:rgL kn lp l=e1:=by
       have h9:=HR1.out;rw [if_pos hz1] at h9;rw [HAT.out.2 (by rw [h9];exact hz1),h9]
      clear HR1 he2;go_wp2_with fail;go_ret;exact ⟨congrArg (λ b=>Ending.returned (Zi Zq b)) hv.symm,HE1.out⟩
     subst hz1;obtain ⟨c0,f0,l0⟩:=HX1.out.rules;have z19:=c0 19;simp at z19;clear c0 f0;go_wp2_with fail;refine (HIE.out _ HE1.out).mono ?_;rintro e Y2 ⟨rfl,hb⟩;have HE2:=aW (HE1.out.trans (hb.mono HE1.out.size));clear hb z19 l0;rw [he2];clear he2;have HR2:=aW (show rgS kn lp (.mk k0 s a b body els)=e2 from by have h9:=HR1.out;rwa [if_neg (λ h=>h rfl)] at h9);clear HR1;by_cases hz2:e2=0;rotate_left
     ·have hzb:(e2 != 0)=true:=by simpa using hz2
      have hv:rgL kn lp l=e2:=by rw [HAT.out.2 (by rw [HR2.out];exact hz2),HR2.out]
      clear HR2;go_wp2_with fail;go_ret;exact ⟨congrArg (λ b=>Ending.returned (Zi Zq b)) hv.symm,HE2.out⟩
     subst hz2;go_wp2_with fail;go_roundg (n-(i+1))
     case measure=>rw [HGK.out];omega
     case rel=>exact ⟨i+1,hlt,rfl,by go_num,aW (HAT.out.1.trans HR2.out),HE2⟩
    ·have hkb:(k == 3)=false:=by simpa using hk
     replace HRT:=aW (show rgS kn lp (.mk k0 s a b body els)=if rgL kn lp body≠0 then rgL kn lp body else rgL kn lp els from by have h9:=HRT.out;rwa [if_neg (by rw [hk0];exact hk)] at h9);clear hk0;have HGO:=aW (HIBo.out wr HE.out kn KA kl kc lp HKN.out hkl hlp HKZ.out);clear z1 z18 z19 l0 HKZ;obtain ⟨c0,f0,l0⟩:=HX.out.rules;have z18:=c0 18;have z19:=c0 19;simp at z18 z19;clear c0 f0;obtain ⟨e1,he1⟩:∃ z,rgL kn lp body=z:=⟨_,rfl⟩
     obtain ⟨e2,he2⟩:∃ z,rgL kn lp els=z:=⟨_,rfl⟩
     have HR1:=aW (show rgS kn lp (.mk k0 s a b body els)=if e1≠0 then e1 else e2 by rw [← he1,← he2];exact HRT.out);go_wp2_with fail;refine (HGO.out).mono ?_;rintro e Y1 ⟨rfl,hb⟩;have HE1:=aW (HE.out.trans (hb.mono HE.out.size));have HX1:=aW (HX.out.keep hb);clear hb z18 z19 l0;rw [he1];clear he1;by_cases hz1:e1=0;rotate_left
     ·have hzb:(e1 != 0)=true:=by simpa using hz1
      have hv:rgL kn lp l=e1:=by
       have h9:=HR1.out;rw [if_pos hz1] at h9;rw [HAT.out.2 (by rw [h9];exact hz1),h9]
      clear HR1 he2;go_wp2_with fail;go_ret;exact ⟨congrArg (λ b=>Ending.returned (Zi Zq b)) hv.symm,HE1.out⟩
     subst hz1;obtain ⟨c0,f0,l0⟩:=HX1.out.rules;have z19:=c0 19;simp at z19;clear c0 f0;go_wp2_with fail;refine (HIE.out _ HE1.out).mono ?_;rintro e Y2 ⟨rfl,hb⟩;have HE2:=aW (HE1.out.trans (hb.mono HE1.out.size));clear hb z19 l0;rw [he2];clear he2;have HR2:=aW (show rgS kn lp (.mk k0 s a b body els)=e2 from by have h9:=HR1.out;rwa [if_neg (λ h=>h rfl)] at h9);clear HR1;by_cases hz2:e2=0;rotate_left
     ·have hzb:(e2 != 0)=true:=by simpa using hz2
      have hv:rgL kn lp l=e2:=by rw [HAT.out.2 (by rw [HR2.out];exact hz2),HR2.out]
      clear HR2;go_wp2_with fail;go_ret;exact ⟨congrArg (λ b=>Ending.returned (Zi Zq b)) hv.symm,HE2.out⟩
     subst hz2;go_wp2_with fail;go_roundg (n-(i+1))
     case measure=>rw [HGK.out];omega
     case rel=>exact ⟨i+1,hlt,rfl,by go_num,aW (HAT.out.1.trans HR2.out),HE2⟩
theorem xS:∀ M,M<=4194304->rO M
 | 0,_=>λ l css A n ca kn KA kl kc lp w hM=>absurd hM (Nat.not_lt_zero _)
 | M+1,h=>xT M (by omega) (xS M (by omega))
end
end Go.Proofs.YtgmnmnnoahdjnaaGreatDoor
