import Derived.Test.YtgmnmnnoahdjnaaGreatDoorH42
open Go.Value renaming int → Zi, slice → Zs, string → Zt, pointer → Zp
open Go.IntKind renaming i64 → Zq
set_option maxRecDepth 100000
set_option maxHeartbeats 16000000
set_option linter.unusedVariables false
set_option linter.unusedSimpArgs false
namespace Go.Proofs.YtgmnmnnoahdjnaaGreatDoor
section
open Go.RowKit
attribute [local go_sem] ab ae af ac
theorem mN (ks:List (List UInt8)) (k:Nat):(ar ks).take k=ar (ks.take k):=by simp [ar]
theorem qv (ks:List (List UInt8)) (k:Nat):(ar ks).drop k=ar (ks.drop k):=by simp [ar]
theorem iD {t:List UInt8}:∀ (out:List (List UInt8)) (d:Nat),(∀ j x,j<d->out[j]? = some x->x<t)->(d=out.length∨∃ x,out[d]? = some x/\¬ x<t)->out.take d++t::out.drop d=jM t out
 | [],d,_,_=>by simp [jM]
 |x::r,0,_,h=>by
  rcases h with h | ⟨y,h1,h2⟩
  ·simp at h
  ·simp at h1;subst h1;unfold jM;rw [List.takeWhile_cons_of_neg (by simpa using h2),List.dropWhile_cons_of_neg (by simpa using h2)];rfl
 |x::r,d+1,h,h'=>by
  have hx:x<t:=h 0 x (by omega) rfl;have ih:=iD (t:=t) r d (λ j y hj hy=>h (j+1) y (by omega) (by simpa using hy)) (by
   rcases h' with h' | ⟨y,h1,h2⟩
   ·exact .inl (by simpa using h')
   ·exact .inr ⟨y,by simpa using h1,h2⟩)
  unfold jM at ih ⊢;rw [List.takeWhile_cons_of_pos (by simpa using hx),List.dropWhile_cons_of_pos (by simpa using hx),List.take_succ_cons,List.drop_succ_cons,List.cons_append,List.cons_append,ih]
theorem ir:∀ (l out:List (List UInt8)),(l.foldl cu out).length<=out.length+l.length
 | [],out=>Nat.le_refl _
 |t::r,out=>by
  have h1:=ir r (cu out t);have h2:=sW out t;rw [List.foldl_cons,List.length_cons];omega
mutual
theorem uC (bd:List (List UInt8)):∀ x:SJ,(frS bd x).length<=dv x
 | .mk k s a b body els=>by
  have h1:=eo (bd++[s]) body;have h2:=eo bd body;have h3:=eo bd els;have h4:=List.length_filter_le (λ t=>decide (t ∉ bd)) (aF a++aF b);have h5:=bj a;have h6:=bj b;rw [List.length_append] at h4;rw [frS,dv,List.length_append,List.length_append];split<;>omega
theorem eo (bd:List (List UInt8)):∀ l:List SJ,(bB bd l).length<=ap l
 | []=>Nat.le_refl _
 |x::r=>by
  have h1:=uC bd x;have h2:=eo bd r;rw [bB,ap,List.length_append];omega
end
theorem uB {bd:List (List UInt8)} {l:List SJ} {i:Nat} {x:SJ} (h:l[i]? = some x):bB bd (l.take (i+1))=bB bd (l.take i)++frS bd x:=by
 rw [List.take_add_one,h,nI];congr 1;show bB bd [x]=_
 rw [bB,bB,List.append_nil]
def rS (l:List (List UInt8)) (w:World) (e:Ending) (w':World):Prop:=∃ RA rn rc,e=.returned (Zs RA rn rc)/\l.length=rn/\rn<=rc/\(RA=none->rc=0)/\Rd w' RA (ar l)/\Below w.heap.size w w'
def rN (M:Nat):Prop:=∀ (l:List SJ) (css:List (List Value)) (A:Option Addr) (n ca:Nat) (bd:List (List UInt8)) (BD:Option Addr) (kl kc:Nat) (out:List (List UInt8)) (OA:Option Addr) (ol oc:Nat) (w:World),ap l<M->SRs w TT css l->l.length=n->n<=ca->RdF w TT A css.flatten->n<=4194304 ->
 bd.length=kl->kl+ap l<=4194304->Rd w BD (ar bd)->out.length=ol->ol+ap l<=4194304->ol<=oc->(OA=none->oc=0)->Rd w OA (ar out) ->
 Calls Tryz.prog 68 #[Zs A n ca,Zs BD kl kc,Zs OA ol oc] w (rS ((bB bd l).foldl cu out) w)
set_option maxHeartbeats 32000000 in
theorem uZ (M:Nat) (hM4:M<=4194304) (ih:rN M):rN (M+1):=by
 intro l css A n ca bd BD kl kc out OA ol oc w hM hS hln hnc hR hn hbd hkl hBR hol holm hoc hON hOR;have HS:=aW (And.intro hS hR);have HL:=aW hln;have HI:=aW ih;have HM:=aW hM;have HKN:=aW hbd;have HKR:=aW hBR;have HKL:=aW (And.intro hkl holm);have hkl4:kl<=4194304:=by omega
 obtain ⟨i0,hi,hz,hs1,hs2⟩:=fd;have HII:=aW (And.intro hi (And.intro hz (And.intro hs1 hs2)));have HL0:=aW (And.intro hol (And.intro hON hOR));clear hS hR hln ih hM hbd hBR hi hz hs1 hs2 hol hON hOR hkl holm;go_enter Tryz.func68,Tryz.ntmps68;go_wp2_with fail;go_loopg [2,7] n (λ gk s2 s7 wr => ∃ (i o1:Nat) (OA1:Option Addr) (oc1:Nat),i<=n/\gk=n-i/\s2=Zs OA1 o1 oc1/\s7=Zi Zq (i:Int)/\o1<=oc1/\Hid (((bB bd (l.take i)).foldl cu out).length=o1)/\Hid (OA1=none->oc1=0)/\Hid (Rd wr OA1 (ar ((bB bd (l.take i)).foldl cu out)))/\Hid (Below w.heap.size w wr))
 case atStart=>exact ⟨0,ol,OA,oc,Nat.zero_le _,rfl,rfl,by go_num,hoc,aW (by rw [List.take_zero,bB];exact HL0.out.1),aW HL0.out.2.1,aW (by rw [List.take_zero,bB];exact HL0.out.2.2),aW (Below.refl _ _)⟩
 case round =>
  obtain ⟨i,o1,OA1,oc1,hi,hgk,rfl,rfl,hoc1,HV,HN1,HR1,HB⟩:=hrel;have HGK:=aW hgk;clear hgk;by_cases hlt:i<n;rotate_left
  ·obtain rfl:i=n:=by omega
   have htk:l.take i=l:=List.take_of_length_le (by rw [HL.out];exact Nat.le_refl _);rw [htk] at HV HR1;go_wp2_with fail;go_ret;exact ⟨OA1,o1,oc1,rfl,HV.out,hoc1,HN1.out,HR1.out,HB.out⟩
  obtain ⟨⟨k,s,a,b,body,els⟩,hx⟩:∃ x,l[i]? = some x:=⟨_,List.getElem?_eq_getElem (by rw [HL.out];exact hlt)⟩
  obtain ⟨bl,o,ka,kva,nva,sva,Ava,nka,cka,Bva,nya,cya,sa,Ca,nxa,cxa,kb,kvb,nvb,svb,Avb,nkb,ckb,Bvb,nyb,cyb,sb,Cb,nxb,cxb,BA,EA,cbo,cel,bss,ess,rfl,hbl,hblo,hEA,hEB,⟨hb1,hb2_,hb3⟩,⟨he1,he2,he3⟩,hSR,hz⟩:=dH HS.out.1 HS.out.2 hx;obtain ⟨nbo,hnbo⟩:∃ q,body.length=q:=⟨_,rfl⟩
  obtain ⟨nel,hnel⟩:∃ q,els.length=q:=⟨_,rfl⟩
  rw [hnbo] at hb2_ hz hSR;rw [hnel] at he2 hz hSR;have hsum:=iO hx;rw [dv] at hsum;have HAT:=aW (uB (bd:=bd) hx);have hlb:bl<wr.heap.size:=Nat.lt_of_lt_of_le hbl HB.out.size;have HRG:=aW (show wr.rangeAt bl (o+i*20) [Zi Zq k,Zt ⟨s.toArray⟩,Zi Zq ka,Zi Zq kva,Zi Zq nva,Zt sva,Zs Ava nka cka,Zs Bva nya cya,Zt sa,Zs Ca nxa cxa,Zi Zq kb,Zi Zq kvb,Zi Zq nvb,Zt svb,Zs Avb nkb ckb,Zs Bvb nyb cyb,Zt sb,Zs Cb nxb cxb,Zs BA nbo cbo,Zs EA nel cel] from λ j v hv=>by
   rw [Nat.add_assoc];exact (HB.out.cell (p:=⟨bl,o+(i*20+j),none⟩) hbl).trans (hz j v hv))
  have hM9:=HM.out;have hbn:nbo<=4194304/\nel<=4194304:=by
   have h1:=bD body;have h2:=bD els;omega
  have hna:(aF a).length<=4194304/\(aF b).length<=4194304/\(aF a++aF b).length<=4194304:=by
   have h1:=bj a;have h2:=bj b;rw [List.length_append];omega
  have hbud:o1+(aF a++aF b).length+ap body+ap els<=4194304/\kl+1+ap body<=4194304/\kl+ap els<=4194304:=by
   have h1:=bj a;have h2:=bj b;have h3:=ir (bB bd (l.take i)) out;have h4:=eo bd (l.take i);have h5:=HKL.out;have h6:=HV.out;have h7:=HL0.out.1;rw [List.length_append];omega
  obtain ⟨gs,hgs⟩:∃ z,wr.heap.size=z:=⟨_,rfl⟩
  obtain ⟨Wa,hWa⟩:∃ Wa,wr.alloc (.cells #[Zi Zq k,Zt ⟨s.toArray⟩,Zi Zq ka,Zi Zq kva,Zi Zq nva,Zt sva,Zs Ava nka cka,Zs Bva nya cya,Zt sa,Zs Ca nxa cxa,Zi Zq kb,Zi Zq kvb,Zi Zq nvb,Zt svb,Zs Avb nkb ckb,Zs Bvb nyb cyb,Zt sb,Zs Cb nxb cxb,Zs BA nbo cbo,Zs EA nel cel] 48)=Wa:=⟨_,rfl⟩
  have HBA:=aW (show Blk Wa gs 48 #[Zi Zq k,Zt ⟨s.toArray⟩,Zi Zq ka,Zi Zq kva,Zi Zq nva,Zt sva,Zs Ava nka cka,Zs Bva nya cya,Zt sa,Zs Ca nxa cxa,Zi Zq kb,Zi Zq kvb,Zi Zq nvb,Zt svb,Zs Avb nkb ckb,Zs Bvb nyb cyb,Zt sb,Zs Cb nxb cxb,Zs BA nbo cbo,Zs EA nel cel] by rw [← hWa,← hgs];exact Blk.new _ _ _);have HRW:=aW (show Rd Wa OA1 (ar ((bB bd (l.take i)).foldl cu out)) by rw [← hWa];exact HR1.out.alloc _);have HWB:=aW (show Below w.heap.size w Wa by rw [← hWa];exact HB.out.alloc HB.out.size _);have HIBo:=aW (λ (W:World) (h:Below w.heap.size w W) (bd':List (List UInt8)) (KA':Option Addr) (kl' kc':Nat) (out':List (List UInt8)) (OA':Option Addr) (ol' oc':Nat)=>HI.out body bss BA nbo cbo bd' KA' kl' kc' out' OA' ol' oc' W (by omega) (RR.imp hb1 λ c x hc=>hc.bel h) hnbo hb2_ (hb3.keep (aj.of_below h)) hbn.1);have HIE:=aW (λ (W:World) (h:Below w.heap.size w W) (out':List (List UInt8)) (OA':Option Addr) (ol' oc':Nat)=>HI.out els ess EA nel cel bd BD kl kc out' OA' ol' oc' W (by omega) (RR.imp he1 λ c x hc=>hc.bel h) hnel he2 (he3.keep (aj.of_below h)) hbn.2 HKN.out hbud.2.2 (HKR.out.below h));have HIA:=aW (λ (W:World) (h:Below Wa.heap.size Wa W)=>show Calls Tryz.prog 97 #[.agg #[Zi Zq ka,Zi Zq kva,Zi Zq nva,Zt sva,Zs Ava nka cka,Zs Bva nya cya,Zt sa,Zs Ca nxa cxa]] W (qL (aF a) W) from iH 4194304 (Nat.le_refl _) a _ W (by omega) (hEA.bel (HWB.out.trans (h.mono HWB.out.size))));have HIB:=aW (λ (W:World) (h:Below Wa.heap.size Wa W)=>show Calls Tryz.prog 97 #[.agg #[Zi Zq kb,Zi Zq kvb,Zi Zq nvb,Zt svb,Zs Avb nkb ckb,Zs Bvb nyb cyb,Zt sb,Zs Cb nxb cxb]] W (qL (aF b) W) from iH 4194304 (Nat.le_refl _) b _ W (by omega) (hEB.bel (HWB.out.trans (h.mono HWB.out.size))));have HBUD:=aW hbud;have ho14:o1+(aF a++aF b).length<=4194304:=by omega
  clear hz hSR hEA hEB hb1 hb2_ hb3 he1 he2 he3 hnbo hnel hbl hblo hx hsum hM9 hbn hbud HR1;have HWA:=aW hWa;have HGS:=aW hgs;clear hWa hgs;go_upto_region 4 with fail;go_step;go_step;go_step;go_step;go_step;go_step;go_step;go_step;go_step;go_step;refine wpList_load_mid rfl 48 (.tmp 22) rfl bl (o+i*20) rfl [Zi Zq k,Zt ⟨s.toArray⟩,Zi Zq ka,Zi Zq kva,Zi Zq nva,Zt sva,Zs Ava nka cka,Zs Bva nya cya,Zt sa,Zs Ca nxa cxa,Zi Zq kb,Zi Zq kvb,Zi Zq nvb,Zt svb,Zs Avb nkb ckb,Zs Bvb nyb cyb,Zt sb,Zs Cb nxb cxb,Zs BA nbo cbo,Zs EA nel cel] _ HRG.out Tryz.underlying48 rfl (by kernel_rfl) ?_;go_step;go_step;go_step;refine bK rfl 48 (.tmp 8) (.tmp 23) rfl _ _ rfl rfl (by kernel_rfl) (by kernel_rfl) (by first | kernel_rfl | simp [Value.oneCell']) ?_;rw [HWA.out]
  try rw [HGS.out]
  clear HWA HRG hlb;go_upto_region 5 with fail;have HKS:=aW (show ∀ W',Below Wa.heap.size Wa W'->Blk W' gs 48 #[Zi Zq k,Zt ⟨s.toArray⟩,Zi Zq ka,Zi Zq kva,Zi Zq nva,Zt sva,Zs Ava nka cka,Zs Bva nya cya,Zt sa,Zs Ca nxa cxa,Zi Zq kb,Zi Zq kvb,Zi Zq nvb,Zt svb,Zs Avb nkb ckb,Zs Bvb nyb cyb,Zt sb,Zs Cb nxb cxb,Zs BA nbo cbo,Zs EA nel cel] from λ W' h=>HBA.out.keep h);refine wp_region_held_drew (S:=λ W'=>Blk W' gs 48 #[Zi Zq k,Zt ⟨s.toArray⟩,Zi Zq ka,Zi Zq kva,Zi Zq nva,Zt sva,Zs Ava nka cka,Zs Bva nya cya,Zt sa,Zs Ca nxa cxa,Zi Zq kb,Zi Zq kvb,Zi Zq nvb,Zt svb,Zs Avb nkb ckb,Zs Bvb nyb cyb,Zt sb,Zs Cb nxb cxb,Zs BA nbo cbo,Zs EA nel cel]) (by kernel_rfl) (by exact HBA.out.drew) (λ hHeld=>?_);refine bA (λ Z0 hw=>?_);have HZ:=aW (show Below Wa.heap.size Wa Z0 by rw [hw];exact (Below.refl _ _).drew);clear hw hHeld;have hHeld:=HKS.out _ HZ.out;refine tA 0 24 (Zp (some ⟨gs,2,none⟩)) rfl ?_;refine aY 1 25 (.agg #[Zi Zq ka,Zi Zq kva,Zi Zq nva,Zt sva,Zs Ava nka cka,Zs Bva nya cya,Zt sa,Zs Ca nxa cxa]) rfl ?_ ?_
  ·intro W hSw;obtain ⟨c8,f8,l8⟩:=hSw.rules;go_simp
  refine tA 3 27 (Zp (some ⟨gs,10,none⟩)) rfl ?_;refine aY 4 28 (.agg #[Zi Zq kb,Zi Zq kvb,Zi Zq nvb,Zt svb,Zs Avb nkb ckb,Zs Bvb nyb cyb,Zt sb,Zs Cb nxb cxb]) rfl ?_ ?_
  ·intro W hSw;obtain ⟨c8,f8,l8⟩:=hSw.rules;go_simp
  refine aV 2 26 rfl (λ K hK=>?_);go_simp;refine (HIA.out _ HZ.out).mono ?_;rintro e Z1 ⟨v1,rfl,hown,hb⟩;replace hown:=et hown HZ.out.size;replace HZ:=aW (HZ.out.trans (hb.mono HZ.out.size));have HO:=aW hown;clear hb hown;refine hK.out _ _ (by exact HKS.out _ HZ.out) (λ hHeld2=>?_);clear hK K hHeld;have hHeld:=hHeld2;clear hHeld2
  try simp only [pU]
  replace hHeld:=HKS.out _ HZ.out;refine aV 5 29 rfl (λ K hK=>?_);go_simp;refine (HIB.out _ HZ.out).mono ?_;rintro e Z2 ⟨v2,rfl,hown,hb⟩;obtain ⟨B2,cb2,rfl,_,hrd2⟩:=Rd.of_own hown;have ho:=py HO.out hb;replace HZ:=aW (HZ.out.trans (hb.mono HZ.out.size));clear HO;have HO:=aW ho;have HR2:=aW hrd2;clear hb hown hrd2 ho;refine hK.out _ _ (by exact HKS.out _ HZ.out) (λ hHeld2=>?_);clear hK K hHeld;have hHeld:=hHeld2;clear hHeld2
  try simp only [pU]
  replace hHeld:=HKS.out _ HZ.out;refine aV 6 30 rfl (λ K hK=>?_);rw [if_pos (by kernel_rfl)];refine ej _ (.tmp 26) (.tmp 29) 40 rfl Wa.heap.size 9 i0 _ 1 16 Tryz.underlying40 HII.out.1 HII.out.2.1 HII.out.2.2.1 HII.out.2.2.2 rfl (by decide) v1 (aF a).length (ar (aF a)) (by rfl) HO.out B2 (aF b).length cb2 (ga (av _) HR2.out) (ar (aF b)) (by rfl) (by rw [av,Nat.mul_one]) HR2.out (cg _) (by unfold maxLen;omega) (by omega) HZ.out.size ?_;intro row3 Z3 hown hgr hob;have ho:=aW (show Z3.ownsRow Wa.heap.size 9 1 row3 (aF a++aF b).length (ar (aF a++aF b)) by rw [List.length_append,gg];exact hown);have hz:=aW (show Below Wa.heap.size Wa Z3 from HZ.out.grown hgr HZ.out.size (λ k e=>(HO.out.lt k e).1));clear hown hgr hob HO HZ HR2;have HO:=ho;have HZ:=hz;clear ho hz;obtain ⟨NA,cn,rfl,hcn,hrd3⟩:=Rd.of_own HO.out;have HR:=aW hrd3;clear hrd3 HO;refine hK.out _ _ (by exact HKS.out _ HZ.out) (λ hHeld2=>?_);clear hK K hHeld;have hHeld:=hHeld2;clear hHeld2
  try simp only [pU]
  replace hHeld:=HKS.out _ HZ.out;refine tA 7 9 (.slice NA (aF a++aF b).length cn) rfl ?_;refine aX ?_;clear hHeld HKS HIA HIB;have HWO:=aW (show Rd Z3 OA1 (ar ((bB bd (l.take i)).foldl cu out)) from HRW.out.below HZ.out);have HX:=aW (HBA.out.keep HZ.out);have HE:=aW (HWB.out.trans (HZ.out.mono HWB.out.size));have HKZ:=aW (HKR.out.below HE.out);clear HRW HBA HWB HZ;obtain ⟨N,hN⟩:∃ N,aF a++aF b=N:=⟨_,rfl⟩
  obtain ⟨out1,hout1⟩:∃ z,(bB bd (l.take i)).foldl cu out=z:=⟨_,rfl⟩
  have HRS:=aW (show (bB bd (l.take (i+1))).foldl cu out=(bB bd els).foldl cu ((if k=3 then bB (bd++[s]) body else bB bd body).foldl cu ((N.filter (λ t=>decide (t ∉ bd))).foldl cu out1)) by rw [HAT.out,frS,List.foldl_append,List.foldl_append,List.foldl_append,hN,hout1]);rw [hN] at HR hna ho14 HBUD ⊢;rw [hout1] at HWO HV;clear hN hout1 HAT;obtain ⟨ln,hln⟩:∃ z,N.length=z:=⟨_,rfl⟩
  rw [hln] at hna ho14 HBUD ⊢;have HLN:=aW hln;have hln4:=hna.2.2;clear hln hna;go_wp2_with fail;go_loopg [2,10] ln (λ gk s2 s10 wr => ∃ (j o2:Nat) (OA2:Option Addr) (oc2:Nat) (out2:List (List UInt8)),j<=ln/\gk=ln-j/\s2=Zs OA2 o2 oc2/\s10=Zi Zq (j:Int)/\o2<=o1+j/\o2<=oc2/\Hid (out2=((N.take j).filter (λ t=>decide (t ∉ bd))).foldl cu out1)/\Hid (out2.length=o2)/\Hid (OA2=none->oc2=0)/\Hid (Rd wr OA2 (ar out2))/\Hid (Below Z3.heap.size Z3 wr))
  case atStart=>exact ⟨0,o1,OA1,oc1,out1,Nat.zero_le _,rfl,rfl,by go_num,by omega,hoc1,aW rfl,HV,HN1,HWO,aW (Below.refl _ _)⟩
  case round =>
   obtain ⟨j,o2,OA2,oc2,out2,hj,hgk2,rfl,rfl,ho2,hoc2,HF2,HL2,HN2,HR2,HW2⟩:=hrel;have HGJ:=aW hgk2;clear hgk2;by_cases hjl:j<ln
   ·obtain ⟨t,ht⟩:∃ t,N[j]? = some t:=⟨_,List.getElem?_eq_getElem (by rw [HLN.out];exact hjl)⟩
    have HT:=aW ht;clear ht;obtain ⟨b7,o7,rfl,hb7,hz7⟩:=HR.out (by intro e;have:=congrArg List.length e;rw [av,HLN.out] at this;simp at this;omega);have x0:wr.cell? ⟨b7,o7+j,none⟩=some (Zt ⟨t.toArray⟩):=by
     rw [HW2.out.cell (p:=⟨b7,o7+j,none⟩) hb7,hz7 j (by rw [av,HLN.out];exact hjl)];have hs9:=(List.getElem?_eq_some_iff.1 HT.out).2;simp [ar,hs9]
    have HX0:=aW x0;clear hz7;go_wp2_with fail;refine (va bd t BD kl kc wr HKN.out (by omega) (HKZ.out.below HW2.out)).mono ?_;rintro e W9 ⟨rfl,h9⟩;subst h9;by_cases hm:t ∈ bd
    ·rw [decide_eq_true hm];have HMB:=aW hm;clear hm;go_wp2_with fail;go_roundg (ln-(j+1))
     case measure=>rw [HGJ.out];omega
     case rel =>
      refine ⟨j+1,o2,_,oc2,out2,hjl,rfl,rfl,by go_num,by omega,hoc2,aW ?_,HL2,HN2,HR2,HW2⟩;rw [List.take_add_one,HT.out,List.filter_append,List.foldl_append,← HF2.out];simp [HMB.out]
    rw [decide_eq_false hm];have HMB:=aW hm;clear hm;go_wp2_with fail;refine (va out2 t OA2 o2 oc2 W9 HL2.out (by omega) HR2.out).mono ?_;rintro e W8 ⟨rfl,h9⟩;subst h9;by_cases hm:t ∈ out2
    ·rw [decide_eq_true hm];have HMO:=aW hm;clear hm;go_wp2_with fail;go_roundg (ln-(j+1))
     case measure=>rw [HGJ.out];omega
     case rel =>
      refine ⟨j+1,o2,_,oc2,out2,hjl,rfl,rfl,by go_num,by omega,hoc2,aW ?_,HL2,HN2,HR2,HW2⟩;rw [List.take_add_one,HT.out,List.filter_append,List.foldl_append,← HF2.out];simp [HMB.out,cu,HMO.out]
    rw [decide_eq_false hm];have HPU:=aW (show cu out2 t=jM t out2 from if_neg hm);clear hm x0;rcases OA2 with _ | aa
    ·obtain rfl:oc2=0:=HN2.out rfl;obtain rfl:o2=0:=by omega
     go_wp2_with fail;go_loopg [11] 0 (λ gk s11 wr=>gk=0/\s11=Zi Zq 0/\Hid (Below W8.heap.size W8 wr))
     case atStart=>exact ⟨rfl,by go_num,aW (Below.refl _ _)⟩
     case round =>
      obtain ⟨hgk3,rfl,HWD⟩:=hrel;have HCUT:=aW (show out2.take 0++t::out2.drop 0=cu out2 t by rw [HPU.out];exact iD out2 0 (λ j x h=>by omega) (.inl HL2.out.symm));clear hgk3;go_wp2_with fail;go_quiet (fail);obtain ⟨Zc,hZc⟩:∃ Z,wr.drewN nq=Z:=⟨_,rfl⟩
      have hd9:Below W8.heap.size W8 Zc:=by rw [← hZc];exact ah HWD.out nq
      rw [hZc];clear HWD hZc HX0;have HWD:=aW hd9;have HWC:=aW (HW2.out.trans (hd9.mono HW2.out.size));clear hd9;have HXN:=aW (λ (W:World) (h:Below Zc.heap.size Zc W)=>show W.cell? ⟨b7,o7+j,none⟩=some (Zt ⟨t.toArray⟩) from by
       obtain ⟨b8,o8,e8,_,hz8⟩:=HR.out.below (HWC.out.trans (h.mono HWC.out.size)) (by intro e;have:=congrArg List.length e;rw [av,HLN.out] at this;simp at this;omega);injection e8 with e8;injection e8 with e81 e82
       subst e81 e82;rw [hz8 j (by rw [av,HLN.out];exact hjl)];have hs9:=(List.getElem?_eq_some_iff.1 HT.out).2;simp [ar,hs9])
      have hdc:0<=0:=by omega
      have HWT:=aW (λ (W:World) (h:Below Zc.heap.size Zc W)=>kL (out2.take 0) t none 0 0 W (by rw [List.length_take,HL2.out];omega) (by omega) (λ _=>rfl) (by rw [← mN];exact (HR2.out.below (HWD.out.trans (h.mono HWD.out.size))).take 0));go_upto_region 13 with fail;refine wp_region_held_drew (S:=λ W'=>Below Zc.heap.size Zc W') (by kernel_rfl) (by exact (Below.refl _ _).drew) (λ hHeld=>?_);refine bA (λ Z0 hw=>?_);have HQ:=aW (show Below Zc.heap.size Zc Z0 by rw [hw];exact (Below.refl _ _).drew);clear hw;refine tA 0 68 (Zs none 0 0) rfl ?_;refine tA 1 69 (Zi Zq 0) rfl ?_;refine tA 2 70 (Zs none 0 0) rfl ?_;refine tA 3 71 (Zs (some ⟨b7,o7,none⟩) ln cn) rfl ?_;refine tA 4 72 (Zi Zq (j:Int)) rfl ?_;refine tA 5 73 (Zp (some ⟨b7,o7+j,none⟩)) rfl ?_;refine aY 6 74 (Zt ⟨t.toArray⟩) rfl ?_ ?_
      ·intro W hSw;have x9:=HXN.out W hSw;go_simp
      refine aV 7 75 rfl (λ K hK=>?_);go_simp;refine (HWT.out _ HQ.out).mono ?_;rintro e Z1 ⟨v1,rfl,hown,hb⟩;replace hown:=et hown HQ.out.size;replace HQ:=aW (HQ.out.trans (hb.mono HQ.out.size));have HO:=aW hown;clear hb hown;refine hK.out _ _ (by exact HQ.out) (λ hHeld2=>?_);clear hK K hHeld;have hHeld:=hHeld2;clear hHeld2
      try simp only [pU]
      refine tA 8 12 v1 rfl ?_;refine aX ?_;clear hHeld;have hld:(out2.take 0++[t]).length=0+1:=by rw [List.length_append,List.length_take,HL2.out,Nat.min_eq_left (Nat.le_refl _)];rfl
      rw [hld] at HO;clear hld;have HRQ:=aW (HR2.out.below (HWD.out.trans (HQ.out.mono HWD.out.size)));have HDR:=aW (show out2.drop 0=[] by rw [List.drop_zero];exact List.eq_nil_of_length_eq_zero HL2.out);go_wp2_with (at_builtin;refine aD _ rfl (.tmp 76) (.tmp 79) 40 rfl Zc.heap.size 9 i0 _ 1 16 Tryz.underlying40 HII.out.1 HII.out.2.1 HII.out.2.2.1 HII.out.2.2.2 rfl (by decide) v1 (0+1) (ar (out2.take 0++[t])) (by rfl) HO.out none (0) (0) (λ _=>rfl) (ar []) (by rfl) (by rfl) (Rd.nil) (cg _) (by unfold maxLen;omega) (by omega) HQ.out.size ?_;intro row3 Z3' hown hgr _);have hz3:=HQ.out.grown hgr HQ.out.size (λ k e=>(HO.out.lt k e).1);have hlen2:(0+1)+(0)=0+1:=by omega
      obtain ⟨RA,rc,rfl,hrc,hrn,hrr⟩:=bJ hown;have hrd:=hrr.rd
      try rw [hlen2] at hrc
      go_roundg (ln-(j+1))
      case measure=>rw [HGJ.out];omega
      case rel =>
       refine ⟨j+1,0+1,RA,rc,cu out2 t,hjl,rfl,rfl,by go_num,by omega,hrc,aW ?_,aW ?_,aW hrn,aW ?_,aW (HWC.out.trans (hz3.mono HWC.out.size))⟩
       ·rw [List.take_add_one,HT.out,List.filter_append,List.foldl_append,← HF2.out];simp [HMB.out]
       ·rw [← HCUT.out,List.length_append,List.length_cons,List.length_take,List.length_drop,HL2.out];omega
       ·rw [← HCUT.out];simpa [ar,HDR.out] using hrd
    go_wp2_with fail;go_loopg [11] o2 (λ gk s11 wr => ∃ d:Nat,d<=o2/\gk=o2-d/\s11=Zi Zq (d:Int)/\Hid (∀ j x,j<d->out2[j]? = some x->x<t)/\Hid (Below W8.heap.size W8 wr))
    case atStart=>exact ⟨0,Nat.zero_le _,rfl,by go_num,aW (λ j x h=>by omega),aW (Below.refl _ _)⟩
    case round =>
     obtain ⟨d,hd,hgk3,rfl,HLT,HWD⟩:=hrel;have HGD:=aW hgk3;clear hgk3;by_cases hdl:d<o2;rotate_left
     ·have HCUT:=aW (show out2.take d++t::out2.drop d=cu out2 t by rw [HPU.out];exact iD out2 d HLT.out (.inl (by rw [HL2.out];omega)));clear HLT HGD;go_wp2_with fail;go_quiet (fail);obtain ⟨Zc,hZc⟩:∃ Z,wr.drewN nq=Z:=⟨_,rfl⟩
      have hd9:Below W8.heap.size W8 Zc:=by rw [← hZc];exact ah HWD.out nq
      rw [hZc];clear HWD hZc HX0;have HWD:=aW hd9;have HWC:=aW (HW2.out.trans (hd9.mono HW2.out.size));clear hd9;have HXN:=aW (λ (W:World) (h:Below Zc.heap.size Zc W)=>show W.cell? ⟨b7,o7+j,none⟩=some (Zt ⟨t.toArray⟩) from by
       obtain ⟨b8,o8,e8,_,hz8⟩:=HR.out.below (HWC.out.trans (h.mono HWC.out.size)) (by intro e;have:=congrArg List.length e;rw [av,HLN.out] at this;simp at this;omega);injection e8 with e8;injection e8 with e81 e82
       subst e81 e82;rw [hz8 j (by rw [av,HLN.out];exact hjl)];have hs9:=(List.getElem?_eq_some_iff.1 HT.out).2;simp [ar,hs9])
      have hdc:d<=oc2:=by omega
      have HWT:=aW (λ (W:World) (h:Below Zc.heap.size Zc W)=>kL (out2.take d) t (some aa) d oc2 W (by rw [List.length_take,HL2.out];omega) (by omega) (by intro e;have:=HN2.out e;omega) (by rw [← mN];exact (HR2.out.below (HWD.out.trans (h.mono HWD.out.size))).take d));go_upto_region 13 with fail;refine wp_region_held_drew (S:=λ W'=>Below Zc.heap.size Zc W') (by kernel_rfl) (by exact (Below.refl _ _).drew) (λ hHeld=>?_);refine bA (λ Z0 hw=>?_);have HQ:=aW (show Below Zc.heap.size Zc Z0 by rw [hw];exact (Below.refl _ _).drew);clear hw;refine tA 0 68 (Zs (some aa) o2 oc2) rfl ?_;refine tA 1 69 (Zi Zq (d:Int)) rfl ?_;refine tA 2 70 (Zs (some aa) d oc2) rfl ?_;refine tA 3 71 (Zs (some ⟨b7,o7,none⟩) ln cn) rfl ?_;refine tA 4 72 (Zi Zq (j:Int)) rfl ?_;refine tA 5 73 (Zp (some ⟨b7,o7+j,none⟩)) rfl ?_;refine aY 6 74 (Zt ⟨t.toArray⟩) rfl ?_ ?_
      ·intro W hSw;have x9:=HXN.out W hSw;go_simp
      refine aV 7 75 rfl (λ K hK=>?_);go_simp;refine (HWT.out _ HQ.out).mono ?_;rintro e Z1 ⟨v1,rfl,hown,hb⟩;replace hown:=et hown HQ.out.size;replace HQ:=aW (HQ.out.trans (hb.mono HQ.out.size));have HO:=aW hown;clear hb hown;refine hK.out _ _ (by exact HQ.out) (λ hHeld2=>?_);clear hK K hHeld;have hHeld:=hHeld2;clear hHeld2
      try simp only [pU]
      refine tA 8 12 v1 rfl ?_;refine aX ?_;clear hHeld;have hld:(out2.take d++[t]).length=d+1:=by rw [List.length_append,List.length_take,HL2.out,Nat.min_eq_left hd];rfl
      rw [hld] at HO;clear hld;have HRQ:=aW (HR2.out.below (HWD.out.trans (HQ.out.mono HWD.out.size)));by_cases hck:oc2=d
      ·obtain rfl:d=o2:=by omega
       obtain rfl:d=oc2:=by omega
       have HDR:=aW (show out2.drop d=[] by rw [List.drop_of_length_le (by rw [HL2.out];exact Nat.le_refl _)]);go_wp2_with (at_builtin;refine aD _ rfl (.tmp 76) (.tmp 79) 40 rfl Zc.heap.size 9 i0 _ 1 16 Tryz.underlying40 HII.out.1 HII.out.2.1 HII.out.2.2.1 HII.out.2.2.2 rfl (by decide) v1 (d+1) (ar (out2.take d++[t])) (by rfl) HO.out (some aa) (0) (0) (λ _=>rfl) (ar []) (by rfl) (by rfl) (Rd.nil) (cg _) (by unfold maxLen;omega) (by omega) HQ.out.size ?_;intro row3 Z3' hown hgr _);have hz3:=HQ.out.grown hgr HQ.out.size (λ k e=>(HO.out.lt k e).1);have hlen2:(d+1)+(0)=d+1:=by omega
       obtain ⟨RA,rc,rfl,hrc,hrn,hrr⟩:=bJ hown;have hrd:=hrr.rd
       try rw [hlen2] at hrc
       go_roundg (ln-(j+1))
       case measure=>rw [HGJ.out];omega
       case rel =>
        refine ⟨j+1,d+1,RA,rc,cu out2 t,hjl,rfl,rfl,by go_num,by omega,hrc,aW ?_,aW ?_,aW hrn,aW ?_,aW (HWC.out.trans (hz3.mono HWC.out.size))⟩
        ·rw [List.take_add_one,HT.out,List.filter_append,List.foldl_append,← HF2.out];simp [HMB.out]
        ·rw [← HCUT.out,List.length_append,List.length_cons,List.length_take,List.length_drop,HL2.out];omega
        ·rw [← HCUT.out];simpa [ar,HDR.out] using hrd
      ·have HRD:=aW (show Rd _ (some (aa.add d)) (ar (out2.drop d)) by rw [← qv];exact HRQ.out.drop d);go_wp2_with (at_builtin;refine aD _ rfl (.tmp 76) (.tmp 79) 40 rfl Zc.heap.size 9 i0 _ 1 16 Tryz.underlying40 HII.out.1 HII.out.2.1 HII.out.2.2.1 HII.out.2.2.2 rfl (by decide) v1 (d+1) (ar (out2.take d++[t])) (by rfl) HO.out (some (aa.add d)) (o2-d) (oc2-d) (by intro h;cases h) (ar (out2.drop d)) (by rfl) (by rw [av,List.length_drop,HL2.out,Nat.mul_one]) (HRD.out) (cg _) (by unfold maxLen;omega) (by omega) HQ.out.size ?_;intro row3 Z3' hown hgr _);have hz3:=HQ.out.grown hgr HQ.out.size (λ k e=>(HO.out.lt k e).1);have hlen2:(d+1)+(o2-d)=o2+1:=by omega
       obtain ⟨RA,rc,rfl,hrc,hrn,hrr⟩:=bJ hown;have hrd:=hrr.rd
       try rw [hlen2] at hrc
       go_roundg (ln-(j+1))
       case measure=>rw [HGJ.out];omega
       case rel =>
        refine ⟨j+1,o2+1,RA,rc,cu out2 t,hjl,rfl,by rw [hlen2],by go_num,by omega,hrc,aW ?_,aW ?_,aW hrn,aW ?_,aW (HWC.out.trans (hz3.mono HWC.out.size))⟩
        ·rw [List.take_add_one,HT.out,List.filter_append,List.foldl_append,← HF2.out];simp [HMB.out]
        ·rw [← HCUT.out,List.length_append,List.length_cons,List.length_take,List.length_drop,HL2.out];omega
        ·rw [← HCUT.out];simpa [ar] using hrd
     obtain ⟨x,hxx⟩:∃ x,out2[d]? = some x:=⟨_,List.getElem?_eq_getElem (by rw [HL2.out];exact hdl)⟩
     have HXX:=aW hxx;clear hxx;obtain ⟨b6,o6,e6,hb6,hz6⟩:=(HR2.out.below HWD.out) (by intro e;have:=congrArg List.length e;rw [av,HL2.out] at this;simp at this;omega)
     injection e6 with e6
     subst e6;have xo:wr.cell? ⟨b6,o6+d,none⟩=some (Zt ⟨x.toArray⟩):=by
      rw [hz6 d (by rw [av,HL2.out];exact hdl)];have hs9:=(List.getElem?_eq_some_iff.1 HXX.out).2;simp [ar,hs9]
     have xn:wr.cell? ⟨b7,o7+j,none⟩=some (Zt ⟨t.toArray⟩):=(HWD.out.cell (p:=⟨b7,o7+j,none⟩) (Nat.lt_of_lt_of_le hb7 HW2.out.size)).trans HX0.out;clear hz6;have hbl:=bytesLess_eq x t;by_cases hxt:x<t
     ·rw [decide_eq_true hxt] at hbl;have HLX:=aW hxt;clear hxt;go_wp2_with fail;go_quiet (fail);go_wp2;go_roundg (o2-(d+1))
      case measure=>rw [HGD.out];omega
      case rel =>
       refine ⟨d+1,hdl,rfl,by go_num,aW λ j' x' hj' hx'=>?_,aW (ah HWD.out _)⟩;rcases Nat.lt_or_ge j' d with h | h
       ·exact HLT.out j' x' h hx'
       ·obtain rfl:j'=d:=by omega
        rw [HXX.out] at hx';injection hx' with hx'
        rw [← hx'];exact HLX.out
     ·rw [decide_eq_false hxt] at hbl;have HCUT:=aW (show out2.take d++t::out2.drop d=cu out2 t by rw [HPU.out];exact iD out2 d HLT.out (.inr ⟨x,HXX.out,hxt⟩));clear hxt HLT HGD;go_wp2_with fail;go_quiet (fail);clear xo xn hbl hb6;obtain ⟨Zc,hZc⟩:∃ Z,wr.drewN nq=Z:=⟨_,rfl⟩
      have hd9:Below W8.heap.size W8 Zc:=by rw [← hZc];exact ah HWD.out nq
      rw [hZc];clear HWD hZc HX0;have HWD:=aW hd9;have HWC:=aW (HW2.out.trans (hd9.mono HW2.out.size));clear hd9;have HXN:=aW (λ (W:World) (h:Below Zc.heap.size Zc W)=>show W.cell? ⟨b7,o7+j,none⟩=some (Zt ⟨t.toArray⟩) from by
       obtain ⟨b8,o8,e8,_,hz8⟩:=HR.out.below (HWC.out.trans (h.mono HWC.out.size)) (by intro e;have:=congrArg List.length e;rw [av,HLN.out] at this;simp at this;omega);injection e8 with e8;injection e8 with e81 e82
       subst e81 e82;rw [hz8 j (by rw [av,HLN.out];exact hjl)];have hs9:=(List.getElem?_eq_some_iff.1 HT.out).2;simp [ar,hs9])
      have hdc:d<=oc2:=by omega
      have HWT:=aW (λ (W:World) (h:Below Zc.heap.size Zc W)=>kL (out2.take d) t (some ⟨b6,o6,none⟩) d oc2 W (by rw [List.length_take,HL2.out];omega) (by omega) (by intro e;have:=HN2.out e;omega) (by rw [← mN];exact (HR2.out.below (HWD.out.trans (h.mono HWD.out.size))).take d));go_upto_region 13 with fail;refine wp_region_held_drew (S:=λ W'=>Below Zc.heap.size Zc W') (by kernel_rfl) (by exact (Below.refl _ _).drew) (λ hHeld=>?_);refine bA (λ Z0 hw=>?_);have HQ:=aW (show Below Zc.heap.size Zc Z0 by rw [hw];exact (Below.refl _ _).drew);clear hw;refine tA 0 68 (Zs (some ⟨b6,o6,none⟩) o2 oc2) rfl ?_;refine tA 1 69 (Zi Zq (d:Int)) rfl ?_;refine tA 2 70 (Zs (some ⟨b6,o6,none⟩) d oc2) rfl ?_;refine tA 3 71 (Zs (some ⟨b7,o7,none⟩) ln cn) rfl ?_;refine tA 4 72 (Zi Zq (j:Int)) rfl ?_;refine tA 5 73 (Zp (some ⟨b7,o7+j,none⟩)) rfl ?_;refine aY 6 74 (Zt ⟨t.toArray⟩) rfl ?_ ?_
      ·intro W hSw;have x9:=HXN.out W hSw;go_simp
      refine aV 7 75 rfl (λ K hK=>?_);go_simp;refine (HWT.out _ HQ.out).mono ?_;rintro e Z1 ⟨v1,rfl,hown,hb⟩;replace hown:=et hown HQ.out.size;replace HQ:=aW (HQ.out.trans (hb.mono HQ.out.size));have HO:=aW hown;clear hb hown;refine hK.out _ _ (by exact HQ.out) (λ hHeld2=>?_);clear hK K hHeld;have hHeld:=hHeld2;clear hHeld2
      try simp only [pU]
      refine tA 8 12 v1 rfl ?_;refine aX ?_;clear hHeld;have hld:(out2.take d++[t]).length=d+1:=by rw [List.length_append,List.length_take,HL2.out,Nat.min_eq_left hd];rfl
      rw [hld] at HO;clear hld;have HRQ:=aW (HR2.out.below (HWD.out.trans (HQ.out.mono HWD.out.size)));by_cases hck:oc2=d
      ·obtain rfl:d=o2:=by omega
       obtain rfl:d=oc2:=by omega
       have HDR:=aW (show out2.drop d=[] by rw [List.drop_of_length_le (by rw [HL2.out];exact Nat.le_refl _)]);go_wp2_with (at_builtin;refine aD _ rfl (.tmp 76) (.tmp 79) 40 rfl Zc.heap.size 9 i0 _ 1 16 Tryz.underlying40 HII.out.1 HII.out.2.1 HII.out.2.2.1 HII.out.2.2.2 rfl (by decide) v1 (d+1) (ar (out2.take d++[t])) (by rfl) HO.out (some ⟨b6,o6,none⟩) (0) (0) (λ _=>rfl) (ar []) (by rfl) (by rfl) (Rd.nil) (cg _) (by unfold maxLen;omega) (by omega) HQ.out.size ?_;intro row3 Z3' hown hgr _);have hz3:=HQ.out.grown hgr HQ.out.size (λ k e=>(HO.out.lt k e).1);have hlen2:(d+1)+(0)=d+1:=by omega
       obtain ⟨RA,rc,rfl,hrc,hrn,hrr⟩:=bJ hown;have hrd:=hrr.rd
       try rw [hlen2] at hrc
       go_roundg (ln-(j+1))
       case measure=>rw [HGJ.out];omega
       case rel =>
        refine ⟨j+1,d+1,RA,rc,cu out2 t,hjl,rfl,rfl,by go_num,by omega,hrc,aW ?_,aW ?_,aW hrn,aW ?_,aW (HWC.out.trans (hz3.mono HWC.out.size))⟩
        ·rw [List.take_add_one,HT.out,List.filter_append,List.foldl_append,← HF2.out];simp [HMB.out]
        ·rw [← HCUT.out,List.length_append,List.length_cons,List.length_take,List.length_drop,HL2.out];omega
        ·rw [← HCUT.out];simpa [ar,HDR.out] using hrd
      ·have HRD:=aW (show Rd _ (some ⟨b6,o6+d,none⟩) (ar (out2.drop d)) by rw [← qv];have h9:=HRQ.out.drop d;rwa [show ((some (⟨b6,o6,none⟩:Addr)).map λ a=>a.add d)=some ⟨b6,o6+d,none⟩ by simp [Addr.add]] at h9);go_wp2_with (at_builtin;refine aD _ rfl (.tmp 76) (.tmp 79) 40 rfl Zc.heap.size 9 i0 _ 1 16 Tryz.underlying40 HII.out.1 HII.out.2.1 HII.out.2.2.1 HII.out.2.2.2 rfl (by decide) v1 (d+1) (ar (out2.take d++[t])) (by rfl) HO.out (some ⟨b6,o6+d,none⟩) (o2-d) (oc2-d) (by intro h;cases h) (ar (out2.drop d)) (by rfl) (by rw [av,List.length_drop,HL2.out,Nat.mul_one]) (HRD.out) (cg _) (by unfold maxLen;omega) (by omega) HQ.out.size ?_;intro row3 Z3' hown hgr _);have hz3:=HQ.out.grown hgr HQ.out.size (λ k e=>(HO.out.lt k e).1);have hlen2:(d+1)+(o2-d)=o2+1:=by omega
       obtain ⟨RA,rc,rfl,hrc,hrn,hrr⟩:=bJ hown;have hrd:=hrr.rd
       try rw [hlen2] at hrc
       go_roundg (ln-(j+1))
       case measure=>rw [HGJ.out];omega
       case rel =>
        refine ⟨j+1,o2+1,RA,rc,cu out2 t,hjl,rfl,by rw [hlen2],by go_num,by omega,hrc,aW ?_,aW ?_,aW hrn,aW ?_,aW (HWC.out.trans (hz3.mono HWC.out.size))⟩
        ·rw [List.take_add_one,HT.out,List.filter_append,List.foldl_append,← HF2.out];simp [HMB.out]
        ·rw [← HCUT.out,List.length_append,List.length_cons,List.length_take,List.length_drop,HL2.out];omega
        ·rw [← HCUT.out];simpa [ar] using hrd
   ·obtain rfl:j=ln:=by omega
    have htk:N.take j=N:=List.take_of_length_le (by rw [HLN.out];exact Nat.le_refl _);rw [htk] at HF2;rw [← HF2.out] at HRS;clear htk HF2 HR HWO;replace HE:=aW (HE.out.trans (HW2.out.mono HE.out.size));replace HX:=aW (HX.out.keep HW2.out);replace HKZ:=aW (HKZ.out.below HW2.out);clear HW2;obtain ⟨c0,f0,l0⟩:=HX.out.rules;have z0:=c0 0;have z1:=c0 1;have z18:=c0 18;have z19:=c0 19;simp at z0 z1 z18 z19;clear c0 f0;obtain ⟨k0,hk0⟩:∃ k0,k0=k:=⟨_,rfl⟩
    rw [← hk0] at HRS;by_cases hk:k=3
    ·subst hk;replace HRS:=aW (show (bB bd (l.take (i+1))).foldl cu out=(bB bd els).foldl cu ((bB (bd++[s]) body).foldl cu out2) from by have h9:=HRS.out;rwa [if_pos hk0] at h9);clear hk0;go_wp2_with fail;refine (kL bd s BD kl kc wr HKN.out (by omega) (ga (by rw [av];exact HKN.out) HKZ.out) HKZ.out).mono ?_;rintro e W9 ⟨v9,rfl,hown,hb⟩;obtain ⟨QA,qc,rfl,hqc,hqr⟩:=Rd.of_own hown;have hql:(bd++[s]).length=kl+1:=by rw [List.length_append,HKN.out];rfl
     rw [hql];replace HE:=aW (HE.out.trans (hb.mono HE.out.size));replace HX:=aW (HX.out.keep hb);have HGO:=aW (HIBo.out W9 HE.out (bd++[s]) QA (kl+1) qc out2 OA2 o2 oc2 hql HBUD.out.2.1 hqr HL2.out (by have:=HBUD.out.1;omega) hoc2 HN2.out (HR2.out.below hb));clear hown hqr hqc hql hb z0 z1 z18 z19 l0 HKZ HR2 HN2;obtain ⟨c0,f0,l0⟩:=HX.out.rules;have z18:=c0 18;have z19:=c0 19;simp at z18 z19;clear c0 f0;go_wp2_with fail;refine HGO.out.mono ?_;rintro e Y1 ⟨R1,r1,rc1,rfl,hr1,hrc1,hrn1,hrr1,hb⟩;have HE1:=aW (HE.out.trans (hb.mono HE.out.size));have HX1:=aW (HX.out.keep hb);have HGE:=aW (HIE.out Y1 HE1.out _ R1 r1 rc1 hr1 (by have h1:=ir (bB (bd++[s]) body) out2;have h2:=eo (bd++[s]) body;have h3:=HBUD.out.1;have h4:=HL2.out;omega) hrc1 hrn1 hrr1);clear hb z18 z19 l0 hr1 hrn1 hrr1;obtain ⟨c0,f0,l0⟩:=HX1.out.rules;have z19:=c0 19;simp at z19;clear c0 f0;go_wp2_with fail;refine HGE.out.mono ?_;rintro e Y2 ⟨R2,r2,rc2,rfl,hr2,hrc2,hrn2,hrr2,hb⟩;have HE2:=aW (HE1.out.trans (hb.mono HE1.out.size));rw [← HRS.out] at hr2 hrr2;have HZ2:=aW (And.intro hr2 (And.intro hrn2 hrr2));clear hb z19 l0 hr2 hrn2 hrr2;go_wp2_with fail;go_roundg (n-(i+1))
     case measure=>rw [HGK.out];omega
     case rel=>exact ⟨i+1,r2,R2,rc2,hlt,rfl,rfl,by go_num,hrc2,aW HZ2.out.1,aW HZ2.out.2.1,aW HZ2.out.2.2,HE2⟩
    ·have hkb:(k == 3)=false:=by simpa using hk
     replace HRS:=aW (show (bB bd (l.take (i+1))).foldl cu out=(bB bd els).foldl cu ((bB bd body).foldl cu out2) from by have h9:=HRS.out;rwa [if_neg (by rw [hk0];exact hk)] at h9);clear hk0;have HGO:=aW (HIBo.out wr HE.out bd BD kl kc out2 OA2 o2 oc2 HKN.out (by have:=HBUD.out.2.1;omega) HKZ.out HL2.out (by have:=HBUD.out.1;omega) hoc2 HN2.out HR2.out);clear z1 z18 z19 l0 HKZ HR2 HN2;obtain ⟨c0,f0,l0⟩:=HX.out.rules;have z18:=c0 18;have z19:=c0 19;simp at z18 z19;clear c0 f0;go_wp2_with fail;refine HGO.out.mono ?_;rintro e Y1 ⟨R1,r1,rc1,rfl,hr1,hrc1,hrn1,hrr1,hb⟩;have HE1:=aW (HE.out.trans (hb.mono HE.out.size));have HX1:=aW (HX.out.keep hb);have HGE:=aW (HIE.out Y1 HE1.out _ R1 r1 rc1 hr1 (by have h1:=ir (bB bd body) out2;have h2:=eo bd body;have h3:=HBUD.out.1;have h4:=HL2.out;omega) hrc1 hrn1 hrr1);clear hb z18 z19 l0 hr1 hrn1 hrr1;obtain ⟨c0,f0,l0⟩:=HX1.out.rules;have z19:=c0 19;simp at z19;clear c0 f0;go_wp2_with fail;refine HGE.out.mono ?_;rintro e Y2 ⟨R2,r2,rc2,rfl,hr2,hrc2,hrn2,hrr2,hb⟩;have HE2:=aW (HE1.out.trans (hb.mono HE1.out.size));rw [← HRS.out] at hr2 hrr2;have HZ2:=aW (And.intro hr2 (And.intro hrn2 hrr2));clear hb z19 l0 hr2 hrn2 hrr2;go_wp2_with fail;go_roundg (n-(i+1))
     case measure=>rw [HGK.out];omega
     case rel=>exact ⟨i+1,r2,R2,rc2,hlt,rfl,rfl,by go_num,hrc2,aW HZ2.out.1,aW HZ2.out.2.1,aW HZ2.out.2.2,HE2⟩
theorem tx:∀ M,M<=4194304->rN M
 | 0,_=>λ l css A n ca bd BD kl kc out OA ol oc w hM=>absurd hM (Nat.not_lt_zero _)
 | M+1,h=>uZ M (by omega) (tx M (by omega))
end
end Go.Proofs.YtgmnmnnoahdjnaaGreatDoor
