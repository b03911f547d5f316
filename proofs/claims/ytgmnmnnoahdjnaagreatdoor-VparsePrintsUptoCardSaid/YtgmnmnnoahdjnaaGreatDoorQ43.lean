import Derived.Test.YtgmnmnnoahdjnaaGreatDoorQ40
import Derived.Test.YtgmnmnnoahdjnaaGreatDoorQ34
open Go.Value renaming int → Zi, slice → Zs, string → Zt, pointer → Zp
open Go.IntKind renaming i64 → Zq
set_option maxRecDepth 100000
set_option maxHeartbeats 16000000
set_option linter.unusedVariables false
set_option linter.unusedSimpArgs false
namespace Go.Proofs.YtgmnmnnoahdjnaaGreatDoor
section
open Go.RowKit
attribute [local go_sem] aa ac ae ab
theorem zU (r:Nat) (ih:jJ r):kU r (λ k=>8<=k/\k<=15/\(11<=k/\k<=13)):=by
 intro k v s kids cs f F w hk hx hc hd hf hlen;have hkk:=hk;obtain ⟨k1,n1,s1,A1,na1,ca1,B1,nb1,cb1,A,ca,css,rfl,hv,h1,h2,h3,h4⟩:=hx.out;have hc':=hc;unfold bh at hc';obtain ⟨_,hcv,hsl,hck,hcl⟩:=hc';have hcl:=aK.1 hcl;obtain ⟨_,hok,hdk⟩:=aR hd;have hdk:∀ x ∈ kids,bj r x≠0:=hdk;have hn2:kids.length=2:=by
  unfold okX at hok;rw [if_neg (by omega)] at hok;split at hok
  ·cases hok
  ·rw [if_neg (by omega),if_neg (by omega),if_neg (by omega),if_neg (by omega),if_pos (by omega)] at hok;simp only [decide_eq_true_eq] at hok;exact hok.2
 obtain ⟨y,z,hy⟩:∃ y z,kids=[y,z]:=by
  match kids,hn2 with
  | [y,z],_=>exact ⟨y,z,rfl⟩
 have hbody:bK k v s (bR kids)=az (gP (ay k)) y++opK k::az (ay k+1) z:=by rw [hy];exact (if_neg (by omega)).trans ((if_neg (by omega)).trans ((if_neg (by omega)).trans (if_neg (by omega))))
 have hL9:ay k<=6/\ay k=4:=by unfold ay;(repeat' split)<;>omega
 have hfs:gP (ay k)=5:=by unfold gP;rw [if_pos hL9.2]
 rw [hbody] at hlen ⊢;rw [hfs] at hlen ⊢;obtain ⟨b,o,k',k1',n1',s1',A1',na1',ca1',B1',nb1',cb1',s',A2',n2',ca2',rfl,hb,hER,hz⟩:=bW h1 h4 (i:=0) (x:=y) (by rw [hy];rfl);simp only [Nat.zero_mul,Nat.add_zero,Nat.one_mul] at hz;obtain ⟨b2,o2,kb',k1b',n1b',s1b',A1b',na1b',ca1b',B1b',nb1b',cb1b',sb',A2b',n2b',ca2b',hA2,hb2,hER2,hz2⟩:=bW h1 h4 (i:=1) (x:=z) (by rw [hy];rfl);obtain ⟨rfl,rfl⟩:b=b2/\o=o2:=by simpa using hA2
 simp only [Nat.zero_mul,Nat.add_zero,Nat.one_mul] at hz2;have hl9:=hlen;rw [al,ai] at hl9;have HE:=aW (λ (W:World) (h:Below w.heap.size w W)=>ih y _ 5 F W (hER.bel h) (hcl y (by rw [hy];simp)) (hdk y (by rw [hy];simp)) (by omega) (by omega));have HE2:=aW (λ (W:World) (h:Below w.heap.size w W)=>ih z _ (ay k+1) F W (hER2.bel h) (hcl z (by rw [hy];simp)) (hdk z (by rw [hy];simp)) (by omega) (by omega));obtain ⟨l,hl⟩:∃ l,(az 5 y).map aF=l:=⟨_,rfl⟩
 rw [hl] at HE;obtain ⟨l2,hl2⟩:∃ l,(az (ay k+1) z).map aF=l:=⟨_,rfl⟩
 rw [hl2] at HE2;obtain ⟨t,ht⟩:∃ t,aF (opK k)=t:=⟨_,rfl⟩
 have HTT:=aW (show (az 5 y++opK k::az (ay k+1) z).map aF=(l++[t])++l2 by rw [List.map_append,List.map_cons,hl,hl2,ht];simp);have HLL:=aW (show l.length+1<=100000000000/\(l++[t]).length+l2.length<=100000000000 by
  have h1:=dL (az 5 y);have h2:=dL (az (ay k+1) z);rw [hl] at h1;rw [hl2] at h2;rw [List.length_append,List.length_cons,List.length_nil];omega)
 unfold jQ at HE HE2;have HWD:=aW (λ (W:World)=>wj k W (by omega));rw [ht] at HWD;obtain ⟨wst,hws⟩:∃ wst:ByteArray,⟨t.toArray⟩=wst:=⟨_,rfl⟩
 rw [hws] at HWD;have HWS:=aW hws;have e1:(k == 1)=false:=by rw [beq_eq_false_iff_ne];omega
 have e2:(k == 2)=false:=by rw [beq_eq_false_iff_ne];omega
 have e3:(k == 3)=false:=by rw [beq_eq_false_iff_ne];omega
 have e4:(k == 4)=false:=by rw [beq_eq_false_iff_ne];omega
 obtain ⟨S,hS⟩:∃ S:ByteArray,⟨s.toArray⟩=S:=⟨_,rfl⟩
 rw [hS];have HSS:=aW hS;obtain ⟨nk,hnk⟩:∃ q,kids.length=q:=⟨_,rfl⟩
 rw [hnk];have HNK:=aW hnk;have HT0:=aW (TX.new w 45 #[Zi Zq k,Zi Zq k1,Zi Zq n1,Zt s1,Zs A1 na1 ca1,Zs B1 nb1 cb1,Zt S,Zs (some ⟨b,o,none⟩) nk ca]);have HLV:=aW (λ W=>iF k W);obtain ⟨L,hL⟩:∃ L,ay k=L:=⟨_,rfl⟩
 rw [hL] at hf HLV;have HLK:=aW hL;have hlt:¬ (L:Int)<(f:Int):=by omega
 have HLEN:=aW hlen;rw [hL] at HE2 hL9;have hLi:(L:Int)=4:=by omega
 have eL4:((L:Int) == 4)=true:=by simp;omega
 have hL6:L<=6:=hL9.1;obtain rfl:L=4:=hL9.2;have HZ2:=aW hz2;have hnk2:nk=2:=by rw [← HNK.out];exact hn2
 subst hnk2;clear hbody hl hl2 hn2 hy hER hER2 hl9 ht hws hkk hk hL9 hfs hz2 hA2;clear hx hc hd hok hdk hv h1 h4 hcv hcl hS hnk hL hlen hck hsl h2 h3 hf;obtain ⟨c0,f0,l0⟩:=HT0.out.blk.rules;go_enter Tryz.func82,Tryz.ntmps82;go_upto_region 25 with (go_at_call 125;refine (HLV.out _).mono ?_;rintro e wl ⟨rfl,hwl⟩;rw [hwl];clear hwl);refine wp_region_held_drew (S:=λ W'=>TX w W' 45 #[Zi Zq k,Zi Zq k1,Zi Zq n1,Zt s1,Zs A1 na1 ca1,Zs B1 nb1 cb1,Zt S,Zs (some ⟨b,o,none⟩) 2 ca]) (by kernel_rfl) (by exact ⟨HT0.out.bel.drew,HT0.out.blk.drew⟩) (λ hHeld=>?_);refine ap (λ Z0 hw=>?_);have HT:=aW (show TX w Z0 45 #[Zi Zq k,Zi Zq k1,Zi Zq n1,Zt s1,Zs A1 na1 ca1,Zs B1 nb1 cb1,Zt S,Zs (some ⟨b,o,none⟩) 2 ca] by rw [hw];exact ⟨HT0.out.bel.drew,HT0.out.blk.drew⟩);clear hw hHeld;have hHeld:=HT.out;refine tA 0 99 (Zp (some ⟨w.heap.size,7,none⟩)) rfl ?_;refine aY 1 100 (Zs (some ⟨b,o,none⟩) 2 ca) rfl ?_ ?_
 ·intro W hSw;obtain ⟨c8,f8,l8⟩:=hSw.blk.rules;go_simp
 refine tA 2 101 (Zp (some ⟨b,o,none⟩)) rfl ?_;refine aY 3 102 (.agg #[Zi Zq k',Zi Zq k1',Zi Zq n1',Zt s1',Zs A1' na1' ca1',Zs B1' nb1' cb1',Zt s',Zs A2' n2' ca2']) rfl ?_ ?_
 ·intro W hSw;obtain ⟨z0,z1,z2,z3,z4,z5,z6,z7⟩:=hz W hSw.bel;go_simp
 refine tA 4 103 (Zi Zq 5) rfl ?_;refine tA 6 105 (Zp (some ⟨w.heap.size,0,none⟩)) rfl ?_;refine aY 7 106 (Zi Zq k) rfl ?_ ?_
 ·intro W hSw;obtain ⟨c8,f8,l8⟩:=hSw.blk.rules;go_simp
 refine aV 5 104 rfl (λ K hK=>?_);go_simp;refine (HE.out _ HT.out.bel).mono ?_;rintro e Z1 ⟨row,rfl,hrow,hb⟩;have HR:=aW hrow;have HRB:=aW HT.out.le;have HRS:=aW hb.size;have h9:=aW (HT.out.keep hb);clear HT;have HT:=h9;clear h9;clear hb hrow;refine hK.out _ _ (by exact HT.out) (λ hHeld2=>?_);clear hK K hHeld;have hHeld:=hHeld2;clear hHeld2
 try simp only [pU]
 replace hHeld:=HT.out;refine aV 8 107 rfl (λ K hK=>?_);go_simp;refine (HWD.out _).mono ?_;rintro e Wn ⟨rfl,hwn⟩;rw [hwn];clear hwn Wn;refine hK.out _ _ (by exact HT.out) (λ hHeld2=>?_);clear hK K hHeld;have hHeld:=hHeld2;clear hHeld2
 try simp only [pU]
 replace hHeld:=HT.out;refine aV 9 108 rfl (λ K hK=>?_);go_simp;have hbA:=(Below.refl _ Z1).alloc (Nat.le_refl _) (.cells #[Zt wst] 9);have HA:=aW (Blk.new Z1 9 #[Zt wst]);have h9:=aW (HT.out.keep hbA);clear HT;have HT:=h9;clear h9;have h9:=aW (HR.out.bel hbA);clear HR;have HR:=h9;clear h9;clear hbA;refine hK.out _ _ (by exact HT.out) (λ hHeld2=>?_);clear hK K hHeld;have hHeld:=hHeld2;clear hHeld2
 try simp only [pU]
 refine ap (λ Z2 hY=>?_);obtain ⟨b9,hbb⟩:∃ b,Z1.heap.size=b:=⟨_,rfl⟩
 rw [hbb] at HA ⊢;rw [← hY] at HA HT HR;clear hY hbb;replace hHeld:=HT.out;refine aV 10 109 rfl (λ K hK=>?_);rw [if_pos (by kernel_rfl)];refine fG (.tmp 104) (.tmp 108) rfl rfl HR.out rfl ([t]) (some ⟨b9,0,none⟩) 1 1 rfl rfl (λ e=>by cases e) (by have h9:=Rd.of_blk HA.out;rw [← HWS.out] at h9;exact h9) HLL.out.1 ?_;intro row3 Z3 hown hb;have HR9:=aW hown;have ht:=aW (HT.out.up (hb.mono HRB.out));have HB9:=aW (hb.mono HRB.out);clear HT hown hb;have HT:=ht;clear ht;refine hK.out _ _ (by exact HT.out) (λ hHeld2=>?_);clear hK K hHeld;have hHeld:=hHeld2;clear hHeld2
 try simp only [pU]
 replace hHeld:=HT.out;refine tA 11 10 row3 rfl ?_;refine aX ?_;obtain ⟨c9,f9,l9⟩:=HT.out.blk.rules;obtain ⟨z0,z1,z2,z3,z4,z5,z6,z7⟩:=HZ2.out _ HT.out.bel;have HR8:=aW (HR9.out.low HRB.out);clear HR9 HR;go_wp2_with (first
  | (go_at_call 82;refine (HE2.out _ HT.out.bel).mono ?_;rintro e W4 ⟨row4,rfl,hrow4,hb4⟩;obtain ⟨RA4,rca4,rfl⟩:=hrow4.sl;have HR4:=aW hrow4;have HO4:=aW (HR8.out.bel hb4);have HT4:=aW (HT.out.keep hb4);clear hb4 hrow4)
  | (at_builtin;refine cP rfl _ _ rfl rfl HO4.out rfl l2 RA4 l2.length rca4 rfl rfl HR4.out.rdA.2.1 HR4.out.rdA.2.2 HLL.out.2 ?_;intro row5 W5 hown5 hb5))
 go_ret;have HT5:=HT4.out.up hb5;exact ⟨_,rfl,by rw [HTT.out];exact hown5.low (Nat.le_succ _),HT5.bel⟩
theorem AT (r:Nat) (ih:jJ r):kU r (λ k=>8<=k/\k<=15/\¬ (11<=k/\k<=13)):=by
 intro k v s kids cs f F w hk hx hc hd hf hlen;have hkk:=hk;obtain ⟨k1,n1,s1,A1,na1,ca1,B1,nb1,cb1,A,ca,css,rfl,hv,h1,h2,h3,h4⟩:=hx.out;have hc':=hc;unfold bh at hc';obtain ⟨_,hcv,hsl,hck,hcl⟩:=hc';have hcl:=aK.1 hcl;obtain ⟨_,hok,hdk⟩:=aR hd;have hdk:∀ x ∈ kids,bj r x≠0:=hdk;have hn2:kids.length=2:=by
  unfold okX at hok;rw [if_neg (by omega)] at hok;split at hok
  ·cases hok
  ·rw [if_neg (by omega),if_neg (by omega),if_neg (by omega),if_neg (by omega),if_pos (by omega)] at hok;simp only [decide_eq_true_eq] at hok;exact hok.2
 obtain ⟨y,z,hy⟩:∃ y z,kids=[y,z]:=by
  match kids,hn2 with
  | [y,z],_=>exact ⟨y,z,rfl⟩
 have hbody:bK k v s (bR kids)=az (gP (ay k)) y++opK k::az (ay k+1) z:=by rw [hy];exact (if_neg (by omega)).trans ((if_neg (by omega)).trans ((if_neg (by omega)).trans (if_neg (by omega))))
 have hL9:ay k<=6/\ay k≠4:=by unfold ay;(repeat' split)<;>omega
 have hfs:gP (ay k)=ay k:=by unfold gP;rw [if_neg hL9.2]
 rw [hbody] at hlen ⊢;rw [hfs] at hlen ⊢;obtain ⟨b,o,k',k1',n1',s1',A1',na1',ca1',B1',nb1',cb1',s',A2',n2',ca2',rfl,hb,hER,hz⟩:=bW h1 h4 (i:=0) (x:=y) (by rw [hy];rfl);simp only [Nat.zero_mul,Nat.add_zero,Nat.one_mul] at hz;obtain ⟨b2,o2,kb',k1b',n1b',s1b',A1b',na1b',ca1b',B1b',nb1b',cb1b',sb',A2b',n2b',ca2b',hA2,hb2,hER2,hz2⟩:=bW h1 h4 (i:=1) (x:=z) (by rw [hy];rfl);obtain ⟨rfl,rfl⟩:b=b2/\o=o2:=by simpa using hA2
 simp only [Nat.zero_mul,Nat.add_zero,Nat.one_mul] at hz2;have hl9:=hlen;rw [al,ai] at hl9;have HE:=aW (λ (W:World) (h:Below w.heap.size w W)=>ih y _ (ay k) F W (hER.bel h) (hcl y (by rw [hy];simp)) (hdk y (by rw [hy];simp)) (by omega) (by omega));have HE2:=aW (λ (W:World) (h:Below w.heap.size w W)=>ih z _ (ay k+1) F W (hER2.bel h) (hcl z (by rw [hy];simp)) (hdk z (by rw [hy];simp)) (by omega) (by omega));obtain ⟨l,hl⟩:∃ l,(az (ay k) y).map aF=l:=⟨_,rfl⟩
 rw [hl] at HE;obtain ⟨l2,hl2⟩:∃ l,(az (ay k+1) z).map aF=l:=⟨_,rfl⟩
 rw [hl2] at HE2;obtain ⟨t,ht⟩:∃ t,aF (opK k)=t:=⟨_,rfl⟩
 have HTT:=aW (show (az (ay k) y++opK k::az (ay k+1) z).map aF=(l++[t])++l2 by rw [List.map_append,List.map_cons,hl,hl2,ht];simp);have HLL:=aW (show l.length+1<=100000000000/\(l++[t]).length+l2.length<=100000000000 by
  have h1:=dL (az (ay k) y);have h2:=dL (az (ay k+1) z);rw [hl] at h1;rw [hl2] at h2;rw [List.length_append,List.length_cons,List.length_nil];omega)
 unfold jQ at HE HE2;have HWD:=aW (λ (W:World)=>wj k W (by omega));rw [ht] at HWD;obtain ⟨wst,hws⟩:∃ wst:ByteArray,⟨t.toArray⟩=wst:=⟨_,rfl⟩
 rw [hws] at HWD;have HWS:=aW hws;have e1:(k == 1)=false:=by rw [beq_eq_false_iff_ne];omega
 have e2:(k == 2)=false:=by rw [beq_eq_false_iff_ne];omega
 have e3:(k == 3)=false:=by rw [beq_eq_false_iff_ne];omega
 have e4:(k == 4)=false:=by rw [beq_eq_false_iff_ne];omega
 obtain ⟨S,hS⟩:∃ S:ByteArray,⟨s.toArray⟩=S:=⟨_,rfl⟩
 rw [hS];have HSS:=aW hS;obtain ⟨nk,hnk⟩:∃ q,kids.length=q:=⟨_,rfl⟩
 rw [hnk];have HNK:=aW hnk;have HT0:=aW (TX.new w 45 #[Zi Zq k,Zi Zq k1,Zi Zq n1,Zt s1,Zs A1 na1 ca1,Zs B1 nb1 cb1,Zt S,Zs (some ⟨b,o,none⟩) nk ca]);have HLV:=aW (λ W=>iF k W);obtain ⟨L,hL⟩:∃ L,ay k=L:=⟨_,rfl⟩
 rw [hL] at hf HLV;have HLK:=aW hL;have hlt:¬ (L:Int)<(f:Int):=by omega
 have HLEN:=aW hlen;rw [hL] at HE2 HE hL9;have hLi:(L:Int)≠4:=by omega
 have eL4:((L:Int) == 4)=false:=by simp;omega
 have hL6:L<=6:=hL9.1;have HZ2:=aW hz2;have hnk2:nk=2:=by rw [← HNK.out];exact hn2
 subst hnk2;clear hbody hl hl2 hn2 hy hER hER2 hl9 ht hws hkk hk hL9 hfs hz2 hA2;clear hx hc hd hok hdk hv h1 h4 hcv hcl hS hnk hL hlen hck hsl h2 h3 hf;obtain ⟨c0,f0,l0⟩:=HT0.out.blk.rules;go_enter Tryz.func82,Tryz.ntmps82;go_upto_region 25 with (go_at_call 125;refine (HLV.out _).mono ?_;rintro e wl ⟨rfl,hwl⟩;rw [hwl];clear hwl);refine wp_region_held_drew (S:=λ W'=>TX w W' 45 #[Zi Zq k,Zi Zq k1,Zi Zq n1,Zt s1,Zs A1 na1 ca1,Zs B1 nb1 cb1,Zt S,Zs (some ⟨b,o,none⟩) 2 ca]) (by kernel_rfl) (by exact ⟨HT0.out.bel.drew,HT0.out.blk.drew⟩) (λ hHeld=>?_);refine ap (λ Z0 hw=>?_);have HT:=aW (show TX w Z0 45 #[Zi Zq k,Zi Zq k1,Zi Zq n1,Zt s1,Zs A1 na1 ca1,Zs B1 nb1 cb1,Zt S,Zs (some ⟨b,o,none⟩) 2 ca] by rw [hw];exact ⟨HT0.out.bel.drew,HT0.out.blk.drew⟩);clear hw hHeld;have hHeld:=HT.out;refine tA 0 99 (Zp (some ⟨w.heap.size,7,none⟩)) rfl ?_;refine aY 1 100 (Zs (some ⟨b,o,none⟩) 2 ca) rfl ?_ ?_
 ·intro W hSw;obtain ⟨c8,f8,l8⟩:=hSw.blk.rules;go_simp
 refine tA 2 101 (Zp (some ⟨b,o,none⟩)) rfl ?_;refine aY 3 102 (.agg #[Zi Zq k',Zi Zq k1',Zi Zq n1',Zt s1',Zs A1' na1' ca1',Zs B1' nb1' cb1',Zt s',Zs A2' n2' ca2']) rfl ?_ ?_
 ·intro W hSw;obtain ⟨z0,z1,z2,z3,z4,z5,z6,z7⟩:=hz W hSw.bel;go_simp
 refine tA 4 103 (Zi Zq (L:Int)) rfl ?_;refine tA 6 105 (Zp (some ⟨w.heap.size,0,none⟩)) rfl ?_;refine aY 7 106 (Zi Zq k) rfl ?_ ?_
 ·intro W hSw;obtain ⟨c8,f8,l8⟩:=hSw.blk.rules;go_simp
 refine aV 5 104 rfl (λ K hK=>?_);go_simp;refine (HE.out _ HT.out.bel).mono ?_;rintro e Z1 ⟨row,rfl,hrow,hb⟩;have HR:=aW hrow;have HRB:=aW HT.out.le;have HRS:=aW hb.size;have h9:=aW (HT.out.keep hb);clear HT;have HT:=h9;clear h9;clear hb hrow;refine hK.out _ _ (by exact HT.out) (λ hHeld2=>?_);clear hK K hHeld;have hHeld:=hHeld2;clear hHeld2
 try simp only [pU]
 replace hHeld:=HT.out;refine aV 8 107 rfl (λ K hK=>?_);go_simp;refine (HWD.out _).mono ?_;rintro e Wn ⟨rfl,hwn⟩;rw [hwn];clear hwn Wn;refine hK.out _ _ (by exact HT.out) (λ hHeld2=>?_);clear hK K hHeld;have hHeld:=hHeld2;clear hHeld2
 try simp only [pU]
 replace hHeld:=HT.out;refine aV 9 108 rfl (λ K hK=>?_);go_simp;have hbA:=(Below.refl _ Z1).alloc (Nat.le_refl _) (.cells #[Zt wst] 9);have HA:=aW (Blk.new Z1 9 #[Zt wst]);have h9:=aW (HT.out.keep hbA);clear HT;have HT:=h9;clear h9;have h9:=aW (HR.out.bel hbA);clear HR;have HR:=h9;clear h9;clear hbA;refine hK.out _ _ (by exact HT.out) (λ hHeld2=>?_);clear hK K hHeld;have hHeld:=hHeld2;clear hHeld2
 try simp only [pU]
 refine ap (λ Z2 hY=>?_);obtain ⟨b9,hbb⟩:∃ b,Z1.heap.size=b:=⟨_,rfl⟩
 rw [hbb] at HA ⊢;rw [← hY] at HA HT HR;clear hY hbb;replace hHeld:=HT.out;refine aV 10 109 rfl (λ K hK=>?_);rw [if_pos (by kernel_rfl)];refine fG (.tmp 104) (.tmp 108) rfl rfl HR.out rfl ([t]) (some ⟨b9,0,none⟩) 1 1 rfl rfl (λ e=>by cases e) (by have h9:=Rd.of_blk HA.out;rw [← HWS.out] at h9;exact h9) HLL.out.1 ?_;intro row3 Z3 hown hb;have HR9:=aW hown;have ht:=aW (HT.out.up (hb.mono HRB.out));have HB9:=aW (hb.mono HRB.out);clear HT hown hb;have HT:=ht;clear ht;refine hK.out _ _ (by exact HT.out) (λ hHeld2=>?_);clear hK K hHeld;have hHeld:=hHeld2;clear hHeld2
 try simp only [pU]
 replace hHeld:=HT.out;refine tA 11 10 row3 rfl ?_;refine aX ?_;obtain ⟨c9,f9,l9⟩:=HT.out.blk.rules;obtain ⟨z0,z1,z2,z3,z4,z5,z6,z7⟩:=HZ2.out _ HT.out.bel;have HR8:=aW (HR9.out.low HRB.out);clear HR9 HR;go_wp2_with (first
  | (go_at_call 82;refine (HE2.out _ HT.out.bel).mono ?_;rintro e W4 ⟨row4,rfl,hrow4,hb4⟩;obtain ⟨RA4,rca4,rfl⟩:=hrow4.sl;have HR4:=aW hrow4;have HO4:=aW (HR8.out.bel hb4);have HT4:=aW (HT.out.keep hb4);clear hb4 hrow4)
  | (at_builtin;refine cP rfl _ _ rfl rfl HO4.out rfl l2 RA4 l2.length rca4 rfl rfl HR4.out.rdA.2.1 HR4.out.rdA.2.2 HLL.out.2 ?_;intro row5 W5 hown5 hb5))
 go_ret;have HT5:=HT4.out.up hb5;exact ⟨_,rfl,by rw [HTT.out];exact hown5.low (Nat.le_succ _),HT5.bel⟩
theorem rZ (kids:List EJ) (i:Nat):((bq kids i).map aF).length<=bt (aA [91]::cm (kids.map (az 1))):=Nat.le_trans (dL _) (kF kids i)
theorem zQ (r:Nat) (ih:jJ r):kU r (λ k=>k=4):=by
 intro k v s kids cs f F w hk hx hc hd hf hlen;subst hk;obtain ⟨k1,n1,s1,A1,na1,ca1,B1,nb1,cb1,A,ca,css,rfl,hv,h1,h2,h3,h4⟩:=hx.out;have hc':=hc;unfold bh at hc';obtain ⟨_,hcv,hsl,hck,hcl⟩:=hc';have hcl:=aK.1 hcl;obtain ⟨_,hok,hdk⟩:=aR hd;have hdk:∀ x ∈ kids,bj r x≠0:=hdk;have HCK:=aW hck;have hbody:bK 4 v s (bR kids)=bq kids kids.length++[aA [93]]:=by
  rw [gH];refine ((if_neg (by decide)).trans ((if_neg (by decide)).trans ((if_neg (by decide)).trans (if_pos rfl)))).trans ?_;unfold bq;rw [List.take_length,List.map_map];rfl
 have hfull:bq kids kids.length=aA [91]::cm (kids.map (az 1)):=by unfold bq;rw [List.take_length]
 rw [hbody] at hlen ⊢;have hl9:=hlen;rw [al,ai,bd,hfull] at hl9;have HBD:=aW (show ∀ i,((bq kids i).map aF).length+2<=100000000000 from λ i=>by have h1:=rZ kids i;have h2:(aF (aA [93])).length=1:=rfl;omega);have HKL:=aW (show ∀ i y,kids[i]? = some y->bt (az 1 y)<=100000000000 from λ i y hy=>by
  have h0:=kF kids (i+1);have h2:(aF (aA [93])).length=1:=rfl;cases i with
  | zero=>rw [kG hy,al] at h0;omega
  | succ i=>rw [jz hy,al,ai] at h0;omega)
 have HKD:=aW (And.intro hcl hdk);have HKR:=aW (And.intro h1 h4);obtain ⟨S,hS⟩:∃ S:ByteArray,⟨s.toArray⟩=S:=⟨_,rfl⟩
 rw [hS];have HSS:=aW hS;obtain ⟨nk,hnk⟩:∃ q,kids.length=q:=⟨_,rfl⟩
 rw [hnk];have HNK:=aW hnk;have HT0:=aW (TX.new w 45 #[.int .i64 4,.int .i64 k1,.int .i64 n1,.string s1,.slice A1 na1 ca1,.slice B1 nb1 cb1,.string S,.slice A nk ca]);have HLV:=aW (λ W=>iF 4 W);obtain ⟨L,hL⟩:∃ L,ay 4=L:=⟨_,rfl⟩
 rw [hL] at hf HLV;have HLK:=aW hL;have hlt:¬ (L:Int)<(f:Int):=by omega
 have HLEN:=aW hlen;rw [hnk] at HCK;have hdf:decide (L<f)=false:=by simp;omega
 obtain ⟨G9,hG9⟩:∃ G,(bq kids nk++[aA [93]]).map aF=G:=⟨_,rfl⟩
 rw [hG9];have HG9:=aW hG9;clear hbody hfull hl9 hG9;clear hx hc hd hok hdk hv h1 h4 hcv hcl hS hnk hL hlen hck hsl h2 h3 hf;obtain ⟨c0,f0,l0⟩:=HT0.out.blk.rules;go_enter Tryz.func82,Tryz.ntmps82;go_wp2_with (go_at_call 125;refine (HLV.out _).mono ?_;rintro e wl ⟨rfl,hwl⟩;rw [hwl];clear hwl);clear c0 f0 l0;have HO0:=aW (dc.lit (l:=[[91]]) (n:=1) (b:=w.heap.size+1) (o:=.cells #[.string ⟨#[91]⟩] 9) (w.alloc (.cells #[.int .i64 4,.int .i64 k1,.int .i64 n1,.string s1,.slice A1 na1 ca1,.slice B1 nb1 cb1,.string S,.slice A nk ca] 45)) (by simp) rfl (by decide) rfl (p:=w.heap.size+1) (by simp));have HT1:=aW (HT0.out.keep ((Below.refl _ (w.alloc (.cells #[.int .i64 4,.int .i64 k1,.int .i64 n1,.string s1,.slice A1 na1 ca1,.slice B1 nb1 cb1,.string S,.slice A nk ca] 45))).alloc (Nat.le_refl _) (.cells #[.string ⟨#[91]⟩] 9)));go_loopg [7,8] nk (λ gk s7 s8 wr => ∃ (i:Nat) (row:Value),row=s7/\i<=nk/\gk=nk-i/\s8=.int .i64 (i:Int)/\Hid (dc (w.heap.size+1) row ((bq kids i).map aF) wr)/\Hid (TX w wr 45 #[.int .i64 4,.int .i64 k1,.int .i64 n1,.string s1,.slice A1 na1 ca1,.slice B1 nb1 cb1,.string S,.slice A nk ca]))
 case atStart=>exact ⟨0,_,rfl,Nat.zero_le _,rfl,rfl,HO0,HT1⟩
 case round =>
  obtain ⟨i,row,rfl,hik,hgk,rfl,HO,HT⟩:=hrel;have HGK:=aW hgk;clear hgk HO0 HT1;obtain ⟨c1,f1,l1⟩:=HT.out.blk.rules;by_cases hin:i<nk
  ·obtain ⟨y,hy⟩:∃ y,kids[i]? = some y:=⟨_,List.getElem?_eq_getElem (by rw [HNK.out];exact hin)⟩
   have hym:=List.mem_of_getElem? hy;obtain ⟨b,o,k',k1',n1',s1',A1',na1',ca1',B1',nb1',cb1',s',A2',n2',ca2',rfl,hb,hER,hz⟩:=bW HKR.out.1 HKR.out.2 hy;have HZ:=aW hz;have HE:=aW (λ (W:World) (h:Below w.heap.size w W)=>ih y _ 1 F W (hER.bel h) (HKD.out.1 y hym) (HKD.out.2 y hym) (by decide) (HKL.out i y hy));obtain ⟨l,hl⟩:∃ l,(az 1 y).map aF=l:=⟨_,rfl⟩
   rw [hl] at HE;unfold jQ at HE;have hi9:i<=4194304:=Nat.le_trans hik HCK.out;clear hz hER hym;by_cases hi0:i=0
   ·have h0i:¬ (0:Int)<(i:Int):=by omega
    have HTK:=aW (show (bq kids (i+1)).map aF=(bq kids i).map aF++l by rw [← hl,← List.map_append];congr 1;rw [hi0] at hy ⊢;exact kG hy);have HLL:=aW (show ((bq kids i).map aF).length+l.length<=100000000000 by have:=HBD.out (i+1);rw [HTK.out,List.length_append] at this;omega);clear hi0 hl hy;obtain ⟨z0,z1,z2,z3,z4,z5,z6,z7⟩:=HZ.out _ HT.out.bel;go_wp2_with (first
     | (at_builtin;refine cP rfl _ _ rfl rfl HO4.out rfl l RA4 l.length rca4 rfl rfl HR4.out.rdA.2.1 HR4.out.rdA.2.2 HLL.out ?_;intro row5 W5 hown5 hb5)
     | (go_at_call 82;refine (HE.out _ HT.out.bel).mono ?_;rintro e W4 ⟨row4,rfl,hrow4,hb4⟩;obtain ⟨RA4,rca4,rfl⟩:=hrow4.sl;have HR4:=aW hrow4;have HO4:=aW (HO.out.bel hb4);have HT4:=aW (HT.out.keep hb4);clear hb4 hrow4))
    have HO5:=aW (show dc (w.heap.size+1) row5 ((bq kids (i+1)).map aF) W5 by rw [HTK.out];exact hown5);have HT5:=aW (HT4.out.up hb5);clear hown5 hb5;go_roundg (nk-(i+1))
    case measure=>have:=HGK.out;omega
    case rel=>exact ⟨i+1,row5,rfl,hin,rfl,by go_num,HO5,HT5⟩
   ·have h0i:(0:Int)<(i:Int):=by omega
    have HTK:=aW (show (bq kids (i+1)).map aF=((bq kids i).map aF++[[44]])++l by
     obtain ⟨m,rfl⟩:∃ m,i=m+1:=⟨i-1,by omega⟩
     rw [jz hy,List.map_append,List.map_cons,hl,List.append_assoc];rfl)
    have HLL:=aW (show ((bq kids i).map aF).length+1<=100000000000/\((bq kids i).map aF++[[44]]).length+l.length<=100000000000 by
     have h1:=HBD.out (i+1);have h2:=HBD.out i;rw [HTK.out,List.length_append] at h1;exact ⟨by omega,by omega⟩)
    clear hi0 hl hy;have hbA:=(Below.refl wr.heap.size wr).alloc (Nat.le_refl _) (.cells #[.string ⟨#[44]⟩] 9);have HO1:=aW (HO.out.bel hbA);have HT1:=aW (HT.out.keep hbA);have HA1:=aW (Rd.of_blk (Blk.new wr 9 #[.string ⟨#[44]⟩]));clear hbA;go_wp2_with (first
     | (at_builtin;refine cP rfl _ _ rfl rfl HO4.out rfl l RA4 l.length rca4 rfl rfl HR4.out.rdA.2.1 HR4.out.rdA.2.2 HLL.out.2 ?_;intro row5 W5 hown5 hb5)
     | (go_at_call 82;refine (HE.out _ HT2.out.bel).mono ?_;rintro e W4 ⟨row4,rfl,hrow4,hb4⟩;obtain ⟨RA4,rca4,rfl⟩:=hrow4.sl;have HR4:=aW hrow4;have HO4:=aW (HO2.out.bel hb4);have HT4:=aW (HT2.out.keep hb4);clear hb4 hrow4)
     | (at_builtin;refine cP rfl _ _ rfl rfl HO1.out rfl [[44]] (some ⟨wr.heap.size,0,none⟩) 1 1 rfl rfl (λ e=>by cases e) HA1.out HLL.out.1 ?_;intro row2 W2 hown2 hb2;have HO2:=aW hown2;have HT2:=aW (HT1.out.up hb2);obtain ⟨c2,f2,l2⟩:=HT2.out.blk.rules;obtain ⟨z0,z1,z2,z3,z4,z5,z6,z7⟩:=HZ.out _ HT2.out.bel;clear hown2 hb2))
    have HO5:=aW (show dc (w.heap.size+1) row5 ((bq kids (i+1)).map aF) W5 by rw [HTK.out];exact hown5);have HT5:=aW (HT4.out.up hb5);clear hown5 hb5;go_roundg (nk-(i+1))
    case measure=>have:=HGK.out;omega
    case rel=>exact ⟨i+1,row5,rfl,hin,rfl,by go_num,HO5,HT5⟩
  ·obtain rfl:i=nk:=by omega
   have hbA:=(Below.refl wr.heap.size wr).alloc (Nat.le_refl _) (.cells #[.string ⟨#[93]⟩] 9);have HO1:=aW (HO.out.bel hbA);have HT1:=aW (HT.out.keep hbA);have HA1:=aW (Rd.of_blk (Blk.new wr 9 #[.string ⟨#[93]⟩]));clear hbA;have HTT:=aW (show G9=(bq kids i).map aF++[[93]] by rw [← HG9.out,List.map_append];rfl);have HLL:=aW (show ((bq kids i).map aF).length+1<=100000000000 by have:=HBD.out i;omega);go_wp2_with (at_builtin;refine cP rfl _ _ rfl rfl HO1.out rfl [[93]] (some ⟨wr.heap.size,0,none⟩) 1 1 rfl rfl (λ e=>by cases e) HA1.out HLL.out ?_;intro row2 W2 hown2 hb2);go_ret;exact ⟨_,rfl,by rw [HTT.out];exact hown2.low (Nat.le_succ _),(HT1.out.up hb2).bel⟩
theorem wt (r:Nat) (ih:jJ r):kU r (λ k=>1<=k/\k<=15):=by
 intro k v s kids cs f F w hk hx hc hd hf hlen;by_cases h1:k=1
 ·exact AS r k v s kids cs f F w h1 hx hc hd hf hlen
 by_cases h2:k=2
 ·exact zR r k v s kids cs f F w h2 hx hc hd hf hlen
 by_cases h3:k=3
 ·exact zS r ih k v s kids cs f F w h3 hx hc hd hf hlen
 by_cases h4:k=4
 ·exact zQ r ih k v s kids cs f F w h4 hx hc hd hf hlen
 by_cases h5:k<=7
 ·exact xZ r ih k v s kids cs f F w ⟨by omega,h5⟩ hx hc hd hf hlen
 by_cases h6:11<=k/\k<=13
 ·exact zU r ih k v s kids cs f F w ⟨by omega,hk.2,h6⟩ hx hc hd hf hlen
 ·exact AT r ih k v s kids cs f F w ⟨by omega,hk.2,h6⟩ hx hc hd hf hlen
theorem zT (r:Nat) (ih:jJ r):jJ (r+1):=by
 intro x cs f F w hx hc hd hf hlen;obtain ⟨k,v,s,kids⟩:=x;have hk:=yE (aR hd).2.1;by_cases hlf:f<=ay k
 ·have e:az f (.mk k v s kids)=bK k v s (bR kids):=if_neg (show ¬ ay k<f by omega);rw [e] at hlen ⊢;exact wt r ih k v s kids cs f F w hk hx hc hd hlf hlen
 have e:az f (.mk k v s kids)=aA [40]::(bK k v s (bR kids)++[aA [41]]):=if_pos (show ay k<f by omega);rw [e] at hlen ⊢;rw [ai,al,ai,bd] at hlen;have hL1:1<=ay k:=by unfold ay;(repeat' split)<;>omega
 have HE:=aW (λ (W:World) (h:Below w.heap.size w W)=>wt r ih k v s kids cs 1 F W hk (hx.bel h) hc hd hL1 (by omega));obtain ⟨l,hl⟩:∃ l,(bK k v s (bR kids)).map aF=l:=⟨_,rfl⟩
 rw [hl] at HE;unfold jQ at HE;have HTT:=aW (show (aA [40]::(bK k v s (bR kids)++[aA [41]])).map aF=([[40]]++l)++[[41]] by rw [List.map_cons,List.map_append,hl];rfl);have HLL:=aW (show ([[40]]:List (List UInt8)).length+l.length<=100000000000/\([[40]]++l).length+1<=100000000000 by
  have h1:=dL (bK k v s (bR kids));rw [hl] at h1;have h2:(aF (aA [41])).length=1:=rfl;rw [List.length_append,List.length_cons,List.length_nil];omega)
 obtain ⟨G9,hG9⟩:∃ G,(aA [40]::(bK k v s (bR kids)++[aA [41]])).map aF=G:=⟨_,rfl⟩
 have HTG:=aW (show G9=([[40]]++l)++[[41]] by rw [← hG9];exact HTT.out);rw [hG9];clear HTT hG9;obtain ⟨k1,n1,s1,A1,na1,ca1,B1,nb1,cb1,A,ca,css,rfl,_⟩:=hx.out;obtain ⟨S,hS⟩:∃ S:ByteArray,⟨s.toArray⟩=S:=⟨_,rfl⟩
 obtain ⟨nk,hnk⟩:∃ q,kids.length=q:=⟨_,rfl⟩
 rw [hS,hnk] at HE ⊢;have HT0:=aW (TX.new w 45 #[.int .i64 k,.int .i64 k1,.int .i64 n1,.string s1,.slice A1 na1 ca1,.slice B1 nb1 cb1,.string S,.slice A nk ca]);have HLV:=aW (λ W=>iF k W);obtain ⟨L,hL⟩:∃ L,ay k=L:=⟨_,rfl⟩
 rw [hL] at hlf HLV;have hlt:(L:Int)<(f:Int):=by omega
 clear hx hc hd hk hL hlen e hl hS hnk hf hlf;obtain ⟨c0,f0,l0⟩:=HT0.out.blk.rules;have hbA:=(Below.refl _ (w.alloc (.cells #[.int .i64 k,.int .i64 k1,.int .i64 n1,.string s1,.slice A1 na1 ca1,.slice B1 nb1 cb1,.string S,.slice A nk ca] 45))).alloc (Nat.le_refl _) (.cells #[.string ⟨#[40]⟩] 9);have HO0:=aW (dc.lit (l:=[[40]]) (n:=1) (b:=w.heap.size+1) (o:=.cells #[.string ⟨#[40]⟩] 9) (w.alloc (.cells #[.int .i64 k,.int .i64 k1,.int .i64 n1,.string s1,.slice A1 na1 ca1,.slice B1 nb1 cb1,.string S,.slice A nk ca] 45)) (by simp) rfl (by decide) rfl (p:=w.heap.size+1) (by simp));have HT1:=aW (HT0.out.keep hbA);obtain ⟨c1,f1,l1⟩:=HT1.out.blk.rules;clear hbA;go_enter Tryz.func82,Tryz.ntmps82;go_upto_region 4 with (first
  | (go_at_call 125;refine (HLV.out _).mono ?_;rintro e wl ⟨rfl,hwl⟩;rw [hwl];clear hwl)
  | (go_at_call 82;refine (HE.out _ HT1.out.bel).mono ?_;rintro e W4 ⟨row4,rfl,hrow4,hb4⟩;obtain ⟨RA4,rca4,rfl⟩:=hrow4.sl;have HR4:=aW hrow4;have HO4:=aW (HO0.out.bel hb4);have HT4:=aW (HT1.out.keep hb4);clear hb4 hrow4)
  | (at_builtin;refine cP rfl _ _ rfl rfl HO4.out rfl l RA4 l.length rca4 rfl rfl HR4.out.rdA.2.1 HR4.out.rdA.2.2 HLL.out.1 ?_;intro row5 W5 hown5 hb5))
 have HT5:=aW (HT4.out.up hb5);have hbB:=(Below.refl W5.heap.size W5).alloc (Nat.le_refl _) (.cells #[.string ⟨#[41]⟩] 9);have HO6:=aW (hown5.bel hbB);have HT6:=aW (HT5.out.keep hbB);have HA6:=aW (Rd.of_blk (Blk.new W5 9 #[.string ⟨#[41]⟩]));clear hbB hown5 hb5 c0 f0 l0 c1 f1 l1;go_wp2_with (at_builtin;refine cP rfl _ _ rfl rfl HO6.out rfl [[41]] (some ⟨W5.heap.size,0,none⟩) 1 1 rfl rfl (λ e=>by cases e) HA6.out HLL.out.2 ?_;intro row7 W7 hown7 hb7);go_ret;exact ⟨_,rfl,by rw [HTG.out];exact hown7.low (Nat.le_succ _),(HT6.out.up hb7).bel⟩
theorem ws:∀ r,jJ r
 |0=>by
  rintro ⟨k,v,s,kids⟩ cs f F w hx hc hd hf hlen;exact absurd rfl (aR hd).1
 | r+1=>zT r (ws r)
end
section
open Go.RowKit Go.Shelf
attribute [local go_sem] aa ac ae ab
theorem Blk.setL {g:Nat} {t:TypeId}:∀ (vs:List Value) (o:Nat) {w:World} {cs:Array Value},Blk w g t cs->o+vs.length<=cs.size->∃ cs',Blk (w.setCells g o vs) g t cs'/\cs'.size=cs.size/\(∀ i,i<o∨o+vs.length<=i->cs'[i]? = cs[i]?)/\∀ j v,vs[j]? = some v->cs'[o+j]? = some v
 | [],o,w,cs,h,_=>⟨cs,h,rfl,λ _ _=>rfl,λ j v hv=>by simp at hv⟩
 |u::r,o,w,cs,h,hl=>by
  rw [List.length_cons] at hl;obtain ⟨cs',h1,h2,h3,h4⟩:=Blk.setL r (o+1) (h.set_ o u) (by rw [Array.size_setIfInBounds];omega);rw [Array.size_setIfInBounds] at h2;refine ⟨cs',h1,h2,λ i hi=>?_,λ j v hv=>?_⟩
  ·rw [List.length_cons] at hi;rw [h3 i (by omega),Array.getElem?_setIfInBounds_ne (by omega)]
  ·cases j with
   |zero =>
    rw [Nat.add_zero,h3 o (by omega),Array.getElem?_setIfInBounds_self_of_lt (by omega)];simpa using hv
   |succ j =>
    have:=h4 j v (by simpa using hv);rw [show o+(j+1)=o+1+j by omega];exact this
theorem Blk.setAll {w:World} {g:Nat} {t:TypeId} {cs:Array Value} (h:Blk w g t cs) (vs:List Value) (hl:vs.length=cs.size):Blk (w.setCells g 0 vs) g t vs.toArray:=by
 obtain ⟨cs',h1,h2,_,h4⟩:=Blk.setL vs 0 h (by omega);have e:cs'=vs.toArray:=by
  apply Array.ext_getElem?;intro i;rw [show vs.toArray[i]? = vs[i]? by simp];rcases Nat.lt_or_ge i vs.length with hi | hi
  ·have:=h4 i _ (List.getElem?_eq_getElem hi);rw [Nat.zero_add] at this;rw [this,List.getElem?_eq_getElem hi]
  ·rw [List.getElem?_eq_none hi,Array.getElem?_eq_none (by omega)]
 rw [← e];exact h1
theorem sX {w W W':World} {b b':Nat} {t:TypeId} {X Y:Array Value} (h:Blk W b t X/\Blk W b' t Y/\Below w.heap.size w W) (hb:Below W.heap.size W W'):Blk W' b t X/\Blk W' b' t Y/\Below w.heap.size w W':=⟨h.1.keep hb,h.2.1.keep hb,h.2.2.trans (hb.mono h.2.2.size)⟩
theorem zW {P:Program} {md:Region.Mode} {ops:Array Oper} {Q:Exit->Act->World->Prop} {S:World->Prop} {fuel:Nat} {listed:Array Bool} {act:Nat->Nat->Act} {R:World->Nat->Nat->Prop} {goal:Prop}
  (hleaf:∀ Y b c,R Y b c->wpAnyH P md ops Q S fuel listed (act b c) Y) (h:(∀ Y b c,R Y b c->wpAnyH P md ops Q S fuel listed (act b c) Y)->goal):goal:=h hleaf
theorem nG {P:Program} {md:Region.Mode} {ops:Array Oper} {Q:Exit->Act->World->Prop} {S:World->Prop} {fuel:Nat} {l l':Array Bool} {a:Act} {w:World} (e:l=l') (h:wpAnyH P md ops Q S fuel l' a w):wpAnyH P md ops Q S fuel l a w:=by rw [e];exact h
set_option maxHeartbeats 32000000 in
theorem tr:∀ (N:Nat) (kids kidsq:List SJ),cq kids<N->∀ (css css':List (List Value)) (A A':Option Addr) (nk nkq ca ca':Nat) (F F':Nat->Prop) (w:World),kids.length=nk->kidsq.length=nkq->nk<=4194304->nkq<=4194304->SRs w F css kids->RdF w F A css.flatten->SRs w F' css' kidsq->RdF w F' A' css'.flatten->nk<=ca->nkq<=ca'->a9 kids->a9 kidsq ->
  Calls Tryz.prog 20 #[Zs A nk ca,Zs A' nkq ca'] w (EqX (kids=kidsq) w)
 | 0,_,_,h,_,_,_,_,_,_,_,_,_,_,_,_,_,_,_,_,_,_,_,_,_,_,_=>absurd h (Nat.not_lt_zero _)
 |N+1,kids,kidsq,hN,css,css',A,A',nk,nkq,ca,ca',F,F',w,hnk,hnkq,hk9,hkq9,h1,h6,h1',h6',h2,h2',hC,hC'=>by
  have ih:=tr N;have HKD:=aW (And.intro (And.intro h1 h6) (And.intro h1' h6'));have HCM:=aW (And.intro (cM.1 hC) (cM.1 hC'));have HIH:=aW ih;have HSUM:=aW (show ∀ x ∈ kids,ig x<N+1 from λ x hx=>Nat.lt_of_le_of_lt (oR hx) hN);have HNK:=aW hnk;have HNKQ:=aW hnkq;clear h1 h6 h1' h6' hnk hnkq ih hN hC hC';by_cases el:nk=nkq
  case neg =>
   have HNO:=aW (show ¬ (kids=kidsq) from λ e=>el (by rw [← HNK.out,← HNKQ.out,e]));have hb2:((nk:Int) != nkq)=true:=by simp;omega
   go_enter Tryz.func20,Tryz.ntmps20;go_wp2;go_ret;exact EqX.no HNO.out (Below.refl _ _)
  subst el;go_enter Tryz.func20,Tryz.ntmps20;go_wp2;go_loopg [5] nk (λ gk s5 wr => ∃ i:Nat,i<=nk/\gk=nk-i/\s5=Zi Zq (i:Int)/\Hid (kids.take i=kidsq.take i)/\Hid (Below w.heap.size w wr))
  case atStart=>exact ⟨0,Nat.zero_le _,rfl,by go_num,aW rfl,aW (Below.refl _ _)⟩
  case round =>
   obtain ⟨i,hi,hgk,rfl,HSM,HB0⟩:=hrel;have HGK:=aW hgk;clear hgk;by_cases hlt:i<nk
   ·obtain ⟨x,hx⟩:∃ x,kids[i]? = some x:=⟨_,List.getElem?_eq_getElem (by rw [HNK.out];exact hlt)⟩
    obtain ⟨y,hy⟩:∃ y,kidsq[i]? = some y:=⟨_,List.getElem?_eq_getElem (by rw [HNKQ.out];exact hlt)⟩
    have hcx:=HCM.out.1 x (List.mem_of_getElem? hx);have hcy:=HCM.out.2 y (List.mem_of_getElem? hy);have hsx:=HSUM.out x (List.mem_of_getElem? hx);have HXY:=aW (show x=y->kids.take (i+1)=kidsq.take (i+1) from λ e=>by rw [List.take_add_one,List.take_add_one,HSM.out,hx,hy,e]);have HXN:=aW (show x≠y->¬ kids=kidsq from λ e h=>e (by rw [h,hy] at hx;exact (Option.some.inj hx).symm));have hS1:SRs wr F css kids:=RR.imp HKD.out.1.1 λ c y hc=>hc.bel HB0.out
    have hR1:RdF wr F A css.flatten:=HKD.out.1.2.keep (ah.of_below HB0.out);have hS2:SRs wr F' css' kidsq:=RR.imp HKD.out.2.1 λ c y hc=>hc.bel HB0.out
    have hR2:RdF wr F' A' css'.flatten:=HKD.out.2.2.keep (ah.of_below HB0.out);obtain ⟨k,s,a,b,body,els⟩:=x;obtain ⟨k',s',a',b',body',els'⟩:=y;unfold fX at hcx hcy;unfold ig at hsx;obtain ⟨_,_,hca,hcb,hbl4,hel4,hcd,hce⟩:=hcx;obtain ⟨_,_,hca',hcb',hbl4',hel4',hcd',hce'⟩:=hcy;obtain ⟨bl,o,ka,kva,nva,sva,Ava,nka,cka,Bva,nya,cya,sa,Ca,nxa,cxa,kb,kvb,nvb,svb,Avb,nkb,ckb,Bvb,nyb,cyb,sb,Cb,nxb,cxb,BA,LA,cb,cl,bss,lss,rfl,hbl,_,hEA,hEB,⟨d1,d2,d3⟩,⟨e1,e2,e3⟩,hSR,hz⟩:=du hS1 hR1 hx;obtain ⟨bl',o',ka',kva',nva',sva',Ava',nka',cka',Bva',nya',cya',sa',Ca',nxa',cxa',kb',kvb',nvb',svb',Avb',nkb',ckb',Bvb',nyb',cyb',sb',Cb',nxb',cxb',BA',LA',cb',cl',bss',lss',rfl,hbl',_,hEA',hEB',⟨d1',d2',d3'⟩,⟨e1',e2',e3'⟩,hSR',hz'⟩:=du hS2 hR2 hy;have HXA:=aW (λ W (h:Below wr.heap.size wr W)=>sm _ a a' (Nat.le_refl _) _ _ F F' W (hEA.bel h) (hEA'.bel h) hca hca');have HXB:=aW (λ W (h:Below wr.heap.size wr W)=>sm _ b b' (Nat.le_refl _) _ _ F F' W (hEB.bel h) (hEB'.bel h) hcb hcb');have HBD:=aW (λ W (h:Below wr.heap.size wr W)=>HIH.out body body' (by omega) bss bss' BA BA' body.length body'.length cb cb' F F' W rfl rfl hbl4 hbl4' (RR.imp d1 λ c x hc=>hc.bel h) (d3.keep (ah.of_below h)) (RR.imp d1' λ c x hc=>hc.bel h) (d3'.keep (ah.of_below h)) d2 d2' hcd hcd');have HEL:=aW (λ W (h:Below wr.heap.size wr W)=>HIH.out els els' (by omega) lss lss' LA LA' els.length els'.length cl cl' F F' W rfl rfl hel4 hel4' (RR.imp e1 λ c x hc=>hc.bel h) (e3.keep (ah.of_below h)) (RR.imp e1' λ c x hc=>hc.bel h) (e3'.keep (ah.of_below h)) e2 e2' hce hce');obtain ⟨nb,hnb⟩:∃ q,body.length=q:=⟨_,rfl⟩
    obtain ⟨nl,hnl⟩:∃ q,els.length=q:=⟨_,rfl⟩
    obtain ⟨nb',hnb'⟩:∃ q,body'.length=q:=⟨_,rfl⟩
    obtain ⟨nl',hnl'⟩:∃ q,els'.length=q:=⟨_,rfl⟩
    rw [hnb,hnb'] at HBD;rw [hnl,hnl'] at HEL;rw [hnb,hnl] at hz;rw [hnb',hnl'] at hz';have HRG:=aW (λ (W:World) (h:Below wr.heap.size wr W)=>show W.rangeAt bl (o+i*20) [Zi Zq k,Zt ⟨s.toArray⟩,Zi Zq ka,Zi Zq kva,Zi Zq nva,Zt sva,Zs Ava nka cka,Zs Bva nya cya,Zt sa,Zs Ca nxa cxa,Zi Zq kb,Zi Zq kvb,Zi Zq nvb,Zt svb,Zs Avb nkb ckb,Zs Bvb nyb cyb,Zt sb,Zs Cb nxb cxb,Zs BA nb cb,Zs LA nl cl] from λ j v hv=>by rw [Nat.add_assoc];exact (h.cell (p:=⟨bl,o+(i*20+j),none⟩) hbl).trans (hz j v hv));have HRGp:=aW (λ (W:World) (h:Below wr.heap.size wr W)=>show W.rangeAt bl' (o'+i*20) [Zi Zq k',Zt ⟨s'.toArray⟩,Zi Zq ka',Zi Zq kva',Zi Zq nva',Zt sva',Zs Ava' nka' cka',Zs Bva' nya' cya',Zt sa',Zs Ca' nxa' cxa',Zi Zq kb',Zi Zq kvb',Zi Zq nvb',Zt svb',Zs Avb' nkb' ckb',Zs Bvb' nyb' cyb',Zt sb',Zs Cb' nxb' cxb',Zs BA' nb' cb',Zs LA' nl' cl'] from λ j v hv=>by rw [Nat.add_assoc];exact (h.cell (p:=⟨bl',o'+(i*20+j),none⟩) hbl').trans (hz' j v hv));obtain ⟨PP,hPP⟩:∃ PP:Prop,(SJ.mk k s a b body els=SJ.mk k' s' a' b' body' els')=PP:=⟨_,rfl⟩
    have HPN:=aW (show (k≠k'∨s≠s'∨a≠a'∨b≠b'∨body≠body'∨els≠els')->¬ PP by
     rw [← hPP];intro h e;injection e with e1 e2 e3 e4 e5 e6
     rcases h with h | h | h | h | h | h
     ·exact h e1
     ·exact h e2
     ·exact h e3
     ·exact h e4
     ·exact h e5
     ·exact h e6)
    have HPY:=aW (show k=k'->s=s'->a=a'->b=b'->body=body'->els=els'->PP by rw [← hPP];rintro rfl rfl rfl rfl rfl rfl;rfl);rw [show (SJ.mk k s a b body els≠SJ.mk k' s' a' b' body' els') = ¬ PP from congrArg Not hPP] at HXN;rw [hPP] at HXY;clear hPP hx hy hSR hSR' hEA hEB hEA' hEB' d1 d2 d3 e1 e2 e3 d1' d2' d3' e1' e2' e3' hz hz' hS1 hS2 hR1 hR2 hca hca' hcb hcb' hcd hcd' hce hce' hsx hbl4 hbl4' hel4 hel4' hnb hnl hnb' hnl';go_upto_region 6 with fail;go_cut [6,7] (λ s6 s7 wx => ∃ (b6 b7:Nat) (W:World),W=wx/\s6=Zp (some ⟨b6,0,none⟩)/\s7=Zp (some ⟨b7,0,none⟩)/\Hid (Blk W b6 48 #[Zi Zq k,Zt ⟨s.toArray⟩,Zi Zq ka,Zi Zq kva,Zi Zq nva,Zt sva,Zs Ava nka cka,Zs Bva nya cya,Zt sa,Zs Ca nxa cxa,Zi Zq kb,Zi Zq kvb,Zi Zq nvb,Zt svb,Zs Avb nkb ckb,Zs Bvb nyb cyb,Zt sb,Zs Cb nxb cxb,Zs BA nb cb,Zs LA nl cl]/\wr.heap.size<=b6)/\Hid (Blk W b7 48 #[Zi Zq k',Zt ⟨s'.toArray⟩,Zi Zq ka',Zi Zq kva',Zi Zq nva',Zt sva',Zs Ava' nka' cka',Zs Bva' nya' cya',Zt sa',Zs Ca' nxa' cxa',Zi Zq kb',Zi Zq kvb',Zi Zq nvb',Zt svb',Zs Avb' nkb' ckb',Zs Bvb' nyb' cyb',Zt sb',Zs Cb' nxb' cxb',Zs BA' nb' cb',Zs LA' nl' cl']/\wr.heap.size<=b7)/\Hid (Below wr.heap.size wr W))
    case first =>
     apply zW (R:=λ Y b6 b7=>Hid (Blk Y b6 48 #[Zi Zq 0,Zt ⟨#[]⟩,Zi Zq 0,Zi Zq 0,Zi Zq 0,Zt ⟨#[]⟩,Zs none 0 0,Zs none 0 0,Zt ⟨#[]⟩,Zs none 0 0,Zi Zq 0,Zi Zq 0,Zi Zq 0,Zt ⟨#[]⟩,Zs none 0 0,Zs none 0 0,Zt ⟨#[]⟩,Zs none 0 0,Zs none 0 0,Zs none 0 0]/\wr.heap.size<=b6)/\Hid (Blk Y b7 48 #[Zi Zq 0,Zt ⟨#[]⟩,Zi Zq 0,Zi Zq 0,Zi Zq 0,Zt ⟨#[]⟩,Zs none 0 0,Zs none 0 0,Zt ⟨#[]⟩,Zs none 0 0,Zi Zq 0,Zi Zq 0,Zi Zq 0,Zt ⟨#[]⟩,Zs none 0 0,Zs none 0 0,Zt ⟨#[]⟩,Zs none 0 0,Zs none 0 0,Zs none 0 0]/\wr.heap.size<=b7)/\Hid (Below wr.heap.size wr Y)/\b6≠b7)
     case h =>
      intro HL;refine wp_region_held_drew (S:=λ W'=>Below wr.heap.size wr W') (by kernel_rfl) (by exact (Below.refl _ _).drew) (λ hHeld=>?_);refine ap (λ w2 hw2=>?_);have HW2:=aW (show Below wr.heap.size wr w2 by rw [hw2];exact (Below.refl _ _).drew);clear hw2;refine tA 0 19 (Zs (some ⟨bl,o,none⟩) nk ca) rfl ?_;refine tA 1 20 (Zi Zq (i:Int)) rfl ?_;refine tA 2 21 (Zp (some ⟨bl,o+i*20,none⟩)) rfl ?_;refine wpAnyH_take (i:=3) (oi:=⟨some 22,_,_,_,_,_⟩) (v:=.agg #[Zi Zq k,Zt ⟨s.toArray⟩,Zi Zq ka,Zi Zq kva,Zi Zq nva,Zt sva,Zs Ava nka cka,Zs Bva nya cya,Zt sa,Zs Ca nxa cxa,Zi Zq kb,Zi Zq kvb,Zi Zq nvb,Zt svb,Zs Avb nkb ckb,Zs Bvb nyb cyb,Zt sb,Zs Cb nxb cxb,Zs BA nb cb,Zs LA nl cl]) rfl (by kernel_rfl) (by kernel_rfl) (by kernel_rfl) (λ _ _ _ h=>h) (yieldsIf_load_mid (by kernel_rfl) 48 (.tmp 21) rfl bl (o+i*20) rfl [Zi Zq k,Zt ⟨s.toArray⟩,Zi Zq ka,Zi Zq kva,Zi Zq nva,Zt sva,Zs Ava nka cka,Zs Bva nya cya,Zt sa,Zs Ca nxa cxa,Zi Zq kb,Zi Zq kvb,Zi Zq nvb,Zt svb,Zs Avb nkb ckb,Zs Bvb nyb cyb,Zt sb,Zs Cb nxb cxb,Zs BA nb cb,Zs LA nl cl] _ (λ W hSw=>HRG.out W hSw) Tryz.underlying48 rfl (by kernel_rfl)) (by assumption) ?_
      try simp only [pU]
      refine tA 4 23 (Zs (some ⟨bl',o',none⟩) nk ca') rfl ?_;refine tA 5 24 (Zi Zq (i:Int)) rfl ?_;refine tA 6 25 (Zp (some ⟨bl',o'+i*20,none⟩)) rfl ?_;refine wpAnyH_take (i:=7) (oi:=⟨some 26,_,_,_,_,_⟩) (v:=.agg #[Zi Zq k',Zt ⟨s'.toArray⟩,Zi Zq ka',Zi Zq kva',Zi Zq nva',Zt sva',Zs Ava' nka' cka',Zs Bva' nya' cya',Zt sa',Zs Ca' nxa' cxa',Zi Zq kb',Zi Zq kvb',Zi Zq nvb',Zt svb',Zs Avb' nkb' ckb',Zs Bvb' nyb' cyb',Zt sb',Zs Cb' nxb' cxb',Zs BA' nb' cb',Zs LA' nl' cl']) rfl (by kernel_rfl) (by kernel_rfl) (by kernel_rfl) (λ _ _ _ h=>h) (yieldsIf_load_mid (by kernel_rfl) 48 (.tmp 25) rfl bl' (o'+i*20) rfl [Zi Zq k',Zt ⟨s'.toArray⟩,Zi Zq ka',Zi Zq kva',Zi Zq nva',Zt sva',Zs Ava' nka' cka',Zs Bva' nya' cya',Zt sa',Zs Ca' nxa' cxa',Zi Zq kb',Zi Zq kvb',Zi Zq nvb',Zt svb',Zs Avb' nkb' ckb',Zs Bvb' nyb' cyb',Zt sb',Zs Cb' nxb' cxb',Zs BA' nb' cb',Zs LA' nl' cl'] _ (λ W hSw=>HRGp.out W hSw) Tryz.underlying48 rfl (by kernel_rfl)) (by assumption) ?_
      try simp only [pU]
      refine wpAnyH_ready (rs:=[8,9]) (by kernel_rfl) (by simp) ?_;refine AllReadyH.cons (o:=⟨some 6,_,_,_,_,_⟩) rfl (λ K hK=>?_) (AllReadyH.cons (o:=⟨some 7,_,_,_,_,_⟩) rfl (λ K hK=>?_) AllReadyH.nil)
      ·go_simp;have hbA:=(Below.refl _ w2).alloc (Nat.le_refl _) (.cells #[Zi Zq 0,Zt ⟨#[]⟩,Zi Zq 0,Zi Zq 0,Zi Zq 0,Zt ⟨#[]⟩,Zs none 0 0,Zs none 0 0,Zt ⟨#[]⟩,Zs none 0 0,Zi Zq 0,Zi Zq 0,Zi Zq 0,Zt ⟨#[]⟩,Zs none 0 0,Zs none 0 0,Zt ⟨#[]⟩,Zs none 0 0,Zs none 0 0,Zs none 0 0] 48);have HN6:=aW (show Blk (w2.alloc (.cells #[Zi Zq 0,Zt ⟨#[]⟩,Zi Zq 0,Zi Zq 0,Zi Zq 0,Zt ⟨#[]⟩,Zs none 0 0,Zs none 0 0,Zt ⟨#[]⟩,Zs none 0 0,Zi Zq 0,Zi Zq 0,Zi Zq 0,Zt ⟨#[]⟩,Zs none 0 0,Zs none 0 0,Zt ⟨#[]⟩,Zs none 0 0,Zs none 0 0,Zs none 0 0] 48)) w2.heap.size 48 #[Zi Zq 0,Zt ⟨#[]⟩,Zi Zq 0,Zi Zq 0,Zi Zq 0,Zt ⟨#[]⟩,Zs none 0 0,Zs none 0 0,Zt ⟨#[]⟩,Zs none 0 0,Zi Zq 0,Zi Zq 0,Zi Zq 0,Zt ⟨#[]⟩,Zs none 0 0,Zs none 0 0,Zt ⟨#[]⟩,Zs none 0 0,Zs none 0 0,Zs none 0 0]/\wr.heap.size<=w2.heap.size from ⟨Blk.new _ _ _,HW2.out.size⟩);have hz:=aW (HW2.out.trans (hbA.mono HW2.out.size));clear HW2 hbA;have HW2:=hz;clear hz;refine hK.out _ _ (by exact HW2.out) (λ hHeld2=>?_);clear hK K hHeld;have hHeld:=hHeld2;clear hHeld2
       try simp only [pU]
       refine ap (λ Y1 hY=>?_);obtain ⟨b6,hbb⟩:∃ b,w2.heap.size=b:=⟨_,rfl⟩
       rw [hbb] at HN6 ⊢;rw [← hY] at HN6 HW2;clear hY hbb;replace hHeld:=HW2.out;refine aV 9 7 rfl (λ K hK=>?_);go_simp;have hbA:=(Below.refl _ Y1).alloc (Nat.le_refl _) (.cells #[Zi Zq 0,Zt ⟨#[]⟩,Zi Zq 0,Zi Zq 0,Zi Zq 0,Zt ⟨#[]⟩,Zs none 0 0,Zs none 0 0,Zt ⟨#[]⟩,Zs none 0 0,Zi Zq 0,Zi Zq 0,Zi Zq 0,Zt ⟨#[]⟩,Zs none 0 0,Zs none 0 0,Zt ⟨#[]⟩,Zs none 0 0,Zs none 0 0,Zs none 0 0] 48);have HN7:=aW (show Blk (Y1.alloc (.cells #[Zi Zq 0,Zt ⟨#[]⟩,Zi Zq 0,Zi Zq 0,Zi Zq 0,Zt ⟨#[]⟩,Zs none 0 0,Zs none 0 0,Zt ⟨#[]⟩,Zs none 0 0,Zi Zq 0,Zi Zq 0,Zi Zq 0,Zt ⟨#[]⟩,Zs none 0 0,Zs none 0 0,Zt ⟨#[]⟩,Zs none 0 0,Zs none 0 0,Zs none 0 0] 48)) Y1.heap.size 48 #[Zi Zq 0,Zt ⟨#[]⟩,Zi Zq 0,Zi Zq 0,Zi Zq 0,Zt ⟨#[]⟩,Zs none 0 0,Zs none 0 0,Zt ⟨#[]⟩,Zs none 0 0,Zi Zq 0,Zi Zq 0,Zi Zq 0,Zt ⟨#[]⟩,Zs none 0 0,Zs none 0 0,Zt ⟨#[]⟩,Zs none 0 0,Zs none 0 0,Zs none 0 0]/\wr.heap.size<=Y1.heap.size from ⟨Blk.new _ _ _,HW2.out.size⟩);have hne:=Nat.ne_of_lt HN6.out.1.lt;have hn2:=aW (And.intro (HN6.out.1.keep hbA) HN6.out.2);clear HN6;have HN6:=hn2;clear hn2;have hz:=aW (HW2.out.trans (hbA.mono HW2.out.size));clear HW2 hbA;have HW2:=hz;clear hz;refine hK.out _ _ (by exact HW2.out) (λ hHeld2=>?_);clear hK K hHeld;have hHeld:=hHeld2;clear hHeld2
       try simp only [pU]
       refine ap (λ Y2 hY=>?_);obtain ⟨b7,hbb⟩:∃ b,Y1.heap.size=b:=⟨_,rfl⟩
       rw [hbb] at HN7 hne ⊢;rw [← hY] at HN7 HW2 HN6;clear hY hbb;replace hHeld:=HW2.out;refine nG (l':=#[true,true,true,true,true,true,true,true,true,true,false,false]) (by kernel_rfl) ?_;exact HL _ _ _ ⟨HN6,HN7,HW2,by omega⟩
      ·go_simp;have hbA:=(Below.refl _ w2).alloc (Nat.le_refl _) (.cells #[Zi Zq 0,Zt ⟨#[]⟩,Zi Zq 0,Zi Zq 0,Zi Zq 0,Zt ⟨#[]⟩,Zs none 0 0,Zs none 0 0,Zt ⟨#[]⟩,Zs none 0 0,Zi Zq 0,Zi Zq 0,Zi Zq 0,Zt ⟨#[]⟩,Zs none 0 0,Zs none 0 0,Zt ⟨#[]⟩,Zs none 0 0,Zs none 0 0,Zs none 0 0] 48);have HN7:=aW (show Blk (w2.alloc (.cells #[Zi Zq 0,Zt ⟨#[]⟩,Zi Zq 0,Zi Zq 0,Zi Zq 0,Zt ⟨#[]⟩,Zs none 0 0,Zs none 0 0,Zt ⟨#[]⟩,Zs none 0 0,Zi Zq 0,Zi Zq 0,Zi Zq 0,Zt ⟨#[]⟩,Zs none 0 0,Zs none 0 0,Zt ⟨#[]⟩,Zs none 0 0,Zs none 0 0,Zs none 0 0] 48)) w2.heap.size 48 #[Zi Zq 0,Zt ⟨#[]⟩,Zi Zq 0,Zi Zq 0,Zi Zq 0,Zt ⟨#[]⟩,Zs none 0 0,Zs none 0 0,Zt ⟨#[]⟩,Zs none 0 0,Zi Zq 0,Zi Zq 0,Zi Zq 0,Zt ⟨#[]⟩,Zs none 0 0,Zs none 0 0,Zt ⟨#[]⟩,Zs none 0 0,Zs none 0 0,Zs none 0 0]/\wr.heap.size<=w2.heap.size from ⟨Blk.new _ _ _,HW2.out.size⟩);have hz:=aW (HW2.out.trans (hbA.mono HW2.out.size));clear HW2 hbA;have HW2:=hz;clear hz;refine hK.out _ _ (by exact HW2.out) (λ hHeld2=>?_);clear hK K hHeld;have hHeld:=hHeld2;clear hHeld2
       try simp only [pU]
       refine ap (λ Y3 hY=>?_);obtain ⟨b7,hbb⟩:∃ b,w2.heap.size=b:=⟨_,rfl⟩
       rw [hbb] at HN7 ⊢;rw [← hY] at HN7 HW2;clear hY hbb;replace hHeld:=HW2.out;refine aV 8 6 rfl (λ K hK=>?_);go_simp;have hbA:=(Below.refl _ Y3).alloc (Nat.le_refl _) (.cells #[Zi Zq 0,Zt ⟨#[]⟩,Zi Zq 0,Zi Zq 0,Zi Zq 0,Zt ⟨#[]⟩,Zs none 0 0,Zs none 0 0,Zt ⟨#[]⟩,Zs none 0 0,Zi Zq 0,Zi Zq 0,Zi Zq 0,Zt ⟨#[]⟩,Zs none 0 0,Zs none 0 0,Zt ⟨#[]⟩,Zs none 0 0,Zs none 0 0,Zs none 0 0] 48);have HN6:=aW (show Blk (Y3.alloc (.cells #[Zi Zq 0,Zt ⟨#[]⟩,Zi Zq 0,Zi Zq 0,Zi Zq 0,Zt ⟨#[]⟩,Zs none 0 0,Zs none 0 0,Zt ⟨#[]⟩,Zs none 0 0,Zi Zq 0,Zi Zq 0,Zi Zq 0,Zt ⟨#[]⟩,Zs none 0 0,Zs none 0 0,Zt ⟨#[]⟩,Zs none 0 0,Zs none 0 0,Zs none 0 0] 48)) Y3.heap.size 48 #[Zi Zq 0,Zt ⟨#[]⟩,Zi Zq 0,Zi Zq 0,Zi Zq 0,Zt ⟨#[]⟩,Zs none 0 0,Zs none 0 0,Zt ⟨#[]⟩,Zs none 0 0,Zi Zq 0,Zi Zq 0,Zi Zq 0,Zt ⟨#[]⟩,Zs none 0 0,Zs none 0 0,Zt ⟨#[]⟩,Zs none 0 0,Zs none 0 0,Zs none 0 0]/\wr.heap.size<=Y3.heap.size from ⟨Blk.new _ _ _,HW2.out.size⟩);have hne:=Nat.ne_of_lt HN7.out.1.lt;have hn2:=aW (And.intro (HN7.out.1.keep hbA) HN7.out.2);clear HN7;have HN7:=hn2;clear hn2;have hz:=aW (HW2.out.trans (hbA.mono HW2.out.size));clear HW2 hbA;have HW2:=hz;clear hz;refine hK.out _ _ (by exact HW2.out) (λ hHeld2=>?_);clear hK K hHeld;have hHeld:=hHeld2;clear hHeld2
       try simp only [pU]
       refine ap (λ Y4 hY=>?_);obtain ⟨b6,hbb⟩:∃ b,Y3.heap.size=b:=⟨_,rfl⟩
       rw [hbb] at HN6 hne ⊢;rw [← hY] at HN6 HW2 HN7;clear hY hbb;replace hHeld:=HW2.out;refine nG (l':=#[true,true,true,true,true,true,true,true,true,true,false,false]) (by kernel_rfl) ?_;exact HL _ _ _ ⟨HN6,HN7,HW2,by omega⟩
     case hleaf =>
      rintro Y b6 b7 ⟨HN6,HN7,HW2,hne⟩;have hHeld:=HW2.out;refine aU 10 rfl (λ K hK=>?_);rw [if_pos (by kernel_rfl)];refine wp_store_mid 48 (.tmp 6) (.tmp 22) rfl b6 0 #[Zi Zq k,Zt ⟨s.toArray⟩,Zi Zq ka,Zi Zq kva,Zi Zq nva,Zt sva,Zs Ava nka cka,Zs Bva nya cya,Zt sa,Zs Ca nxa cxa,Zi Zq kb,Zi Zq kvb,Zi Zq nvb,Zt svb,Zs Avb nkb ckb,Zs Bvb nyb cyb,Zt sb,Zs Cb nxb cxb,Zs BA nb cb,Zs LA nl cl] rfl rfl (HN6.out.1.thereAt (o:=0) (n:=20) (by simp)) (by kernel_rfl) (by first | kernel_rfl | simp [Value.oneCell']) ?_;replace HW2:=aW (im HN6.out.2 [Zi Zq k,Zt ⟨s.toArray⟩,Zi Zq ka,Zi Zq kva,Zi Zq nva,Zt sva,Zs Ava nka cka,Zs Bva nya cya,Zt sa,Zs Ca nxa cxa,Zi Zq kb,Zi Zq kvb,Zi Zq nvb,Zt svb,Zs Avb nkb ckb,Zs Bvb nyb cyb,Zt sb,Zs Cb nxb cxb,Zs BA nb cb,Zs LA nl cl] 0 HW2.out);replace HN7:=aW (And.intro (Blk.farC (b:=b6) (by omega) [Zi Zq k,Zt ⟨s.toArray⟩,Zi Zq ka,Zi Zq kva,Zi Zq nva,Zt sva,Zs Ava nka cka,Zs Bva nya cya,Zt sa,Zs Ca nxa cxa,Zi Zq kb,Zi Zq kvb,Zi Zq nvb,Zt svb,Zs Avb nkb ckb,Zs Bvb nyb cyb,Zt sb,Zs Cb nxb cxb,Zs BA nb cb,Zs LA nl cl] 0 HN7.out.1) HN7.out.2);replace HN6:=aW (And.intro (HN6.out.1.setAll [Zi Zq k,Zt ⟨s.toArray⟩,Zi Zq ka,Zi Zq kva,Zi Zq nva,Zt sva,Zs Ava nka cka,Zs Bva nya cya,Zt sa,Zs Ca nxa cxa,Zi Zq kb,Zi Zq kvb,Zi Zq nvb,Zt svb,Zs Avb nkb ckb,Zs Bvb nyb cyb,Zt sb,Zs Cb nxb cxb,Zs BA nb cb,Zs LA nl cl] rfl) HN6.out.2);refine hK.out _ _ HW2.out λ _=>?_
      clear hK K hHeld;have hHeld:=HW2.out
      try simp only [pU]
      refine ap (λ Yn hY=>?_);rw [← hY] at HN6 HN7 HW2 hHeld;clear hY;refine aU 11 rfl (λ K hK=>?_);rw [if_pos (by kernel_rfl)];refine wp_store_mid 48 (.tmp 7) (.tmp 26) rfl b7 0 #[Zi Zq k',Zt ⟨s'.toArray⟩,Zi Zq ka',Zi Zq kva',Zi Zq nva',Zt sva',Zs Ava' nka' cka',Zs Bva' nya' cya',Zt sa',Zs Ca' nxa' cxa',Zi Zq kb',Zi Zq kvb',Zi Zq nvb',Zt svb',Zs Avb' nkb' ckb',Zs Bvb' nyb' cyb',Zt sb',Zs Cb' nxb' cxb',Zs BA' nb' cb',Zs LA' nl' cl'] rfl rfl (HN7.out.1.thereAt (o:=0) (n:=20) (by simp)) (by kernel_rfl) (by first | kernel_rfl | simp [Value.oneCell']) ?_;replace HW2:=aW (im HN7.out.2 [Zi Zq k',Zt ⟨s'.toArray⟩,Zi Zq ka',Zi Zq kva',Zi Zq nva',Zt sva',Zs Ava' nka' cka',Zs Bva' nya' cya',Zt sa',Zs Ca' nxa' cxa',Zi Zq kb',Zi Zq kvb',Zi Zq nvb',Zt svb',Zs Avb' nkb' ckb',Zs Bvb' nyb' cyb',Zt sb',Zs Cb' nxb' cxb',Zs BA' nb' cb',Zs LA' nl' cl'] 0 HW2.out);replace HN6:=aW (And.intro (Blk.farC (b:=b7) (by omega) [Zi Zq k',Zt ⟨s'.toArray⟩,Zi Zq ka',Zi Zq kva',Zi Zq nva',Zt sva',Zs Ava' nka' cka',Zs Bva' nya' cya',Zt sa',Zs Ca' nxa' cxa',Zi Zq kb',Zi Zq kvb',Zi Zq nvb',Zt svb',Zs Avb' nkb' ckb',Zs Bvb' nyb' cyb',Zt sb',Zs Cb' nxb' cxb',Zs BA' nb' cb',Zs LA' nl' cl'] 0 HN6.out.1) HN6.out.2);replace HN7:=aW (And.intro (HN7.out.1.setAll [Zi Zq k',Zt ⟨s'.toArray⟩,Zi Zq ka',Zi Zq kva',Zi Zq nva',Zt sva',Zs Ava' nka' cka',Zs Bva' nya' cya',Zt sa',Zs Ca' nxa' cxa',Zi Zq kb',Zi Zq kvb',Zi Zq nvb',Zt svb',Zs Avb' nkb' ckb',Zs Bvb' nyb' cyb',Zt sb',Zs Cb' nxb' cxb',Zs BA' nb' cb',Zs LA' nl' cl'] rfl) HN7.out.2);refine hK.out _ _ HW2.out λ _=>?_
      clear hK K hHeld;have hHeld:=HW2.out
      try simp only [pU]
      refine ap (λ Yn hY=>?_);rw [← hY] at HN7 HN6 HW2 hHeld;clear hY;refine aX ?_;go_wp2;go_meet
      case rel=>exact ⟨b6,b7,_,rfl,rfl,rfl,HN6,HN7,HW2⟩
    case rest =>
     obtain ⟨b6,b7,W0,rfl,rfl,rfl,HN6,HN7,HW0⟩:=hcut;clear HRG HRGp;by_cases ek:k=k'
     case neg =>
      have hb1:(k != k')=true:=by simp [ek]
      have HNO:=aW (HXN.out (HPN.out (.inl ek)));obtain ⟨c0,f0,l0⟩:=HN6.out.1.rules;obtain ⟨d0,g0,m0⟩:=HN7.out.1.rules;go_wp2;go_ret;exact EqX.no HNO.out (HB0.out.trans (HW0.out.mono HB0.out.size))
     by_cases es:s=s'
     case neg =>
      have hb1:(s != s')=true:=by simp [es]
      have HNO:=aW (HXN.out (HPN.out (.inr (.inl es))));subst ek;obtain ⟨c0,f0,l0⟩:=HN6.out.1.rules;obtain ⟨d0,g0,m0⟩:=HN7.out.1.rules;go_wp2;go_ret;exact EqX.no HNO.out (HB0.out.trans (HW0.out.mono HB0.out.size))
     subst ek es;have HT0:=aW (And.intro HN6.out.1 (And.intro HN7.out.1 HW0.out));obtain ⟨c0,f0,l0⟩:=HT0.out.1.rules;obtain ⟨d0,g0,m0⟩:=HT0.out.2.1.rules;clear HN6 HN7 HW0;go_wp2_with fail;refine (HXA.out _ HT0.out.2.2).mono ?_;rintro e w1 ⟨t1,rfl,ht1,hb1⟩;have HT1:=aW (sX HT0.out hb1);have HE1:=aW ht1;clear hb1 ht1 c0 f0 l0 d0 g0 m0;obtain ⟨c1,f1,l1⟩:=HT1.out.1.rules;obtain ⟨d1,g1,m1⟩:=HT1.out.2.1.rules;cases t1 with
     |false =>
      have HNO:=aW (HXN.out (HPN.out (.inr (.inr (.inl (λ e=>by have:=HE1.out.2 e;cases this))))));go_wp2;go_ret;exact EqX.no HNO.out (HB0.out.trans (HT1.out.2.2.mono HB0.out.size))
     |true =>
      go_wp2_with fail;refine (HXB.out _ HT1.out.2.2).mono ?_;rintro e w2 ⟨t2,rfl,ht2,hb2⟩;have HT2:=aW (sX HT1.out hb2);have HE2:=aW ht2;clear hb2 ht2 c1 f1 l1 d1 g1 m1;obtain ⟨c2,f2,l2⟩:=HT2.out.1.rules;obtain ⟨d2,g2,m2⟩:=HT2.out.2.1.rules;cases t2 with
      |false =>
       have HNO:=aW (HXN.out (HPN.out (.inr (.inr (.inr (.inl (λ e=>by have:=HE2.out.2 e;cases this)))))));go_wp2;go_ret;exact EqX.no HNO.out (HB0.out.trans (HT2.out.2.2.mono HB0.out.size))
      |true =>
       go_wp2_with fail;refine (HBD.out _ HT2.out.2.2).mono ?_;rintro e w3 ⟨t3,rfl,ht3,hb3⟩;have HT3:=aW (sX HT2.out hb3);have HE3:=aW ht3;clear hb3 ht3 c2 f2 l2 d2 g2 m2;obtain ⟨c3,f3,l3⟩:=HT3.out.1.rules;obtain ⟨d3,g3,m3⟩:=HT3.out.2.1.rules;cases t3 with
       |false =>
        have HNO:=aW (HXN.out (HPN.out (.inr (.inr (.inr (.inr (.inl (λ e=>by have:=HE3.out.2 e;cases this))))))));go_wp2;go_ret;exact EqX.no HNO.out (HB0.out.trans (HT3.out.2.2.mono HB0.out.size))
       |true =>
        go_wp2_with fail;refine (HEL.out _ HT3.out.2.2).mono ?_;rintro e w4 ⟨t4,rfl,ht4,hb4⟩;have HT4:=aW (sX HT3.out hb4);have HE4:=aW ht4;clear hb4 ht4 c3 f3 l3 d3 g3 m3;obtain ⟨c4,f4,l4⟩:=HT4.out.1.rules;obtain ⟨d4,g4,m4⟩:=HT4.out.2.1.rules;cases t4 with
        |false =>
         have HNO:=aW (HXN.out (HPN.out (.inr (.inr (.inr (.inr (.inr (λ e=>by have:=HE4.out.2 e;cases this))))))));go_wp2;go_ret;exact EqX.no HNO.out (HB0.out.trans (HT4.out.2.2.mono HB0.out.size))
        |true =>
         have HK:=aW (HXY.out (HPY.out (by trivial) (by trivial) (HE1.out.1 (by trivial)) (HE2.out.1 (by trivial)) (HE3.out.1 (by trivial)) (HE4.out.1 (by trivial))));go_wp2;go_roundg (nk-(i+1))
         case measure=>have:=HGK.out;omega
         case rel=>exact ⟨i+1,hlt,rfl,by go_num,HK,aW (HB0.out.trans (HT4.out.2.2.mono HB0.out.size))⟩
   ·obtain rfl:nk=i:=by omega
    have HF:=aW (show kids=kidsq by
     have e1:=HSM.out;rwa [List.take_of_length_le (Nat.le_of_eq HNK.out),List.take_of_length_le (Nat.le_of_eq HNKQ.out)] at e1)
    go_wp2;go_ret;exact EqX.yes HF.out HB0.out
end
end Go.Proofs.YtgmnmnnoahdjnaaGreatDoor
