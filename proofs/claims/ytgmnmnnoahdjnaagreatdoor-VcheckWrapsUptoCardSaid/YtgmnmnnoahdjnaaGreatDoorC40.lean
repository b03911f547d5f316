import Derived.Test.YtgmnmnnoahdjnaaGreatDoorC38
open Go.Value renaming int → Zi, slice → Zs, string → Zt, pointer → Zp
open Go.IntKind renaming i64 → Zq
set_option maxRecDepth 100000
set_option maxHeartbeats 16000000
set_option linter.unusedVariables false
set_option linter.unusedSimpArgs false
namespace Go.Proofs.YtgmnmnnoahdjnaaGreatDoor
section
open Go.RowKit
attribute [local go_sem] aa ac ae ab
theorem z9 (r:Nat) (ih:jJ r):kS r (λ k=>11<=k/\k<=13):=by
 intro k v s kids cs f w g row n st hk hW hx hc hd hf hlen;have hop:=hk;obtain ⟨k1,n1,s1,A1,na1,ca1,B1,nb1,cb1,A,ca,css,rfl,hv,h1,h2,h3,h4⟩:=hx.out;have hc':=hc;unfold cd at hc';obtain ⟨_,hcv,hsl,hck,hcl⟩:=hc';have hcl:=cc.1 hcl;obtain ⟨_,hok,hdk⟩:=cG hd;have hdk:∀ x ∈ kids,bw r x≠0:=hdk;have hop9:ig v=true/\s=[]/\kids.length=2:=by
  unfold okX at hok;rw [if_neg (by omega)] at hok;split at hok
  ·cases hok
  ·rename_i hz9
   rw [if_neg (by omega),if_neg (by omega),if_neg (by omega)] at hok
   first
    | (simp only [decide_eq_true_eq] at hok;exact ⟨by simpa using hz9,hok⟩)
    | (rw [if_pos (by omega)] at hok;simp only [decide_eq_true_eq] at hok;exact ⟨by simpa using hz9,hok⟩)
    | (rw [if_neg (by omega),if_pos (by omega)] at hok;simp only [decide_eq_true_eq] at hok;exact ⟨by simpa using hz9,hok⟩)
 obtain ⟨_,_,hn1⟩:=hop9;have e1:(k == 1)=false:=by rw [beq_eq_false_iff_ne];omega
 have e2:(k == 2)=false:=by rw [beq_eq_false_iff_ne];omega
 have e3:(k == 3)=false:=by rw [beq_eq_false_iff_ne];omega
 have e4:(k == 4)=false:=by rw [beq_eq_false_iff_ne];omega
 obtain ⟨y,z,hy⟩:∃ y z,kids=[y,z]:=by
  match kids,hn1 with
  | [y,z],_=>exact ⟨y,z,rfl⟩
 have HF1:=aW (show mj (a8 k)=5 by
  obtain rfl | rfl | rfl:k=11∨k=12∨k=13:=by omega
  all_goals rfl)
 have hbody:cI k v s (cW kids)=aw 5 y++opK k::aw (a8 k+1) z:=by
  rw [hy];refine ((if_neg (by omega)).trans ((if_neg (by omega)).trans ((if_neg (by omega)).trans (if_neg (by omega))))).trans ?_;show bu (mj (a8 k)) (az y)++opK k::bu (a8 k+1) (az z)=_
  rw [HF1.out];rfl
 have HL9:=aW (show a8 k<=8 by
  obtain rfl | rfl | rfl:k=11∨k=12∨k=13:=by omega
  all_goals decide)
 have HAL:=aW (show (decide (((a8 k:Nat):Int)=3∨((a8 k:Nat):Int)=7))=false by
  obtain rfl | rfl | rfl:k=11∨k=12∨k=13:=by omega
  all_goals rfl)
 have HL4:=aW (show (((a8 k:Nat):Int) == 4)=true by
  obtain rfl | rfl | rfl:k=11∨k=12∨k=13:=by omega
  all_goals rfl)
 rw [hbody] at hlen ⊢;rw [cx,cM];have HY:=aW hy;clear hbody hn1 hy;obtain ⟨S,hS⟩:∃ S:ByteArray,⟨s.toArray⟩=S:=⟨_,rfl⟩
 rw [hS];have HSS:=aW hS;obtain ⟨nk,hnk⟩:∃ q,kids.length=q:=⟨_,rfl⟩
 rw [hnk];have HNK:=aW hnk;have HH0:=aW ((aT.nil w).push 45 #[Zi Zq k,Zi Zq k1,Zi Zq n1,Zt s1,Zs A1 na1 ca1,Zs B1 nb1 cb1,Zt S,Zs A nk ca] (g:=w.heap.size) rfl);have HLV:=aW (λ W (h:Below w.heap.size w W)=>iq k k1 n1 s1 A1 na1 ca1 B1 nb1 cb1 S A nk ca W (hW.goe.keep h));have HOF:=aW (λ W (h:Below w.heap.size w W)=>eOf k W (hW.goe.keep h));unfold OfP at HOF;obtain ⟨t,hof,htne,hts⟩:=lJ ⟨by omega,by omega⟩ (k:=k);rw [hof] at HOF;unfold cT at HOF;simp only at HOF;have HTS:=aW (And.intro htne hts);obtain ⟨T,hT⟩:∃ T:ByteArray,⟨t.toArray⟩=T:=⟨_,rfl⟩
 rw [hT] at HOF;have HTT:=aW hT;unfold oL at HLV;obtain ⟨L,hL⟩:∃ L,a8 k=L:=⟨_,rfl⟩
 rw [hL] at hf HLV HOF hlen ⊢;have HLK:=aW hL;have hlt:¬ (L:Int)<(f:Int):=by omega
 have HST:=aW (λ (W3:World) hb=>eV (W1:=w) (W3:=W3) (X:=#[Zi Zq k,Zi Zq k1,Zi Zq n1,Zt s1,Zs A1 na1 ca1,Zs B1 nb1 cb1,Zt S,Zs A nk ca]) (O:=#[Zt T,Zi Zq k,Zi Zq L]) hW h1 h4 hb);have HKD:=aW (And.intro hcl hdk);have HLEN:=aW hlen;have HOP:=aW hop;clear hW hx hc hd hok hdk hv h1 h4 hcv hcl hS hnk hL hlen hck hsl h2 h3 hop hof htne hts hT hk;obtain ⟨c0,f0,l0⟩:=HH0.out.b0.rules;go_enter Tryz.func74,Tryz.ntmps74;go_upto_block 0 with (first
  | (go_at_call 112;refine (HLV.out _ HH0.out.1).mono ?_;rintro e w1 ⟨rfl,hb1⟩;obtain ⟨c1,f1,l1⟩:=(HH0.out.keep hb1).b0.rules)
  | (go_at_call 113;refine (HOF.out _ (HH0.out.1.trans (hb1.mono HH0.out.1.size))).mono ?_;rintro e w3 ⟨rfl,hb3⟩))
 have HS:=aW (HST.out _ (hb1.trans (hb3.mono hb1.size)));obtain ⟨W4,hW4⟩:∃ W',w3.alloc (.cells #[Zt T,Zi Zq k,Zi Zq L] 154)=W':=⟨_,rfl⟩
 rw [hW4] at HS ⊢;obtain ⟨bo,hbo⟩:∃ q,w3.heap.size=q:=⟨_,rfl⟩
 rw [hbo] at HS ⊢;obtain ⟨x0,x1,x2⟩:=HS.out.x.1.rules;obtain ⟨p0,p1,p2⟩:=HS.out.o.1.rules;clear c0 f0 l0 c1 f1 l1 hb1 hb3 HH0 hW4 hbo;rw [HLK.out] at HAL HL9 HL4;rw [HTS.out.2];obtain rfl:L=4:=by
  rw [← HLK.out];have hk9:=HOP.out;obtain rfl | rfl | rfl:k=11∨k=12∨k=13:=by omega
  all_goals rfl
 have hl1:=HLEN.out;rw [aG,aj,HTS.out.2] at hl1;have hnk1:nk=2:=by rw [← HNK.out,HY.out];rfl
 subst hnk1;have hL4:=HL4.out;have HP1:=aW (λ W row9 X9 O9 A9 c9 k9 (h:PS w W g row row9 (aH (aw 5 y) st) w.heap.size bo X9 O9 A9 c9 k9)=>h.put1 t W.heap.size rfl HTS.out.1 (by have:=bi (aw 5 y) st;omega));rw [HTT.out] at HP1;have HAH:=aW (λ W=>oW T k (4:Int) W);have hal4:decide ((4:Int)=3∨(4:Int)=7)=false:=by decide
 rw [hal4] at HAH;have HE1:=aW (λ W' row9 X9 O9 A9 c9 cs (h:PS w W' g row row9 st w.heap.size bo X9 O9 A9 c9 kids) (hER:ER W' (PbM g row9 W') cs y)=>(ih y cs 5 W' g row9 _ st h.wp hER (HKD.out.1 y (by rw [HY.out];simp)) (HKD.out.2 y (by rw [HY.out];simp)) (by have:=HL9.out;omega) (by omega)).mono λ e W'' hq=>h.put hq);obtain ⟨b,o,k9,k19,n19,s19,A19,na19,ca19,B19,nb19,cb19,s9,A29,n29,ca29,rfl,hb,_,_⟩:=dv HS.out.ks HS.out.rd (i:=0) (x:=y) (by rw [HY.out];rfl);go_wp2_with (first
  | (go_at_call 115;refine (HAH.out _).mono ?_;rintro e wa ⟨rfl,hba⟩;have hsa:=HS.out.bel hba;obtain ⟨x0,x1,x2⟩:=hsa.x.1.rules;obtain ⟨p0,p1,p2⟩:=hsa.o.1.rules;obtain ⟨b9,o9,k9,k19,n19,s19,A19,na19,ca19,B19,nb19,cb19,s9,A29,n29,ca29,he9,hb9,hER9,hz9⟩:=dv hsa.ks hsa.rd (i:=0) (x:=y) (by rw [HY.out];rfl);simp only [Nat.zero_mul,Nat.add_zero] at hz9;injection he9 with he9;injection he9 with he9 he8;subst he9 he8;obtain ⟨z0,z1,z2,z3,z4,z5,z6,z7⟩:=hz9 _ ah.refl;have HSA:=aW hsa;have HER9:=aW hER9;clear hz9 hER9)
  | (go_at_call 74;refine (HE1.out _ _ _ _ _ _ _ HSA.out HER9.out).mono ?_;rintro e w4 ⟨rfl,row4,hs4⟩;obtain ⟨v0,v1,v2⟩:=hs4.o.1.rules)
  | (go_at_call 73;refine (HP1.out _ _ _ _ _ _ _ hs4).mono ?_;rintro e w5 ⟨rfl,row5,hs5⟩))
 clear z0 z1 z2 z3 z4 z5 z6 z7 v0 v1 v2;have hl4:=cU (aH (aw 5 y) st) t;have hl5:=bi (aw 5 y) st;have hs6:=hs5.bel ((Below.refl _ _).drew);have HS6:=aW hs6;obtain ⟨b,o,k',k1',n1',s1',A1',na1',ca1',B1',nb1',cb1',s',A2',n2',ca2',he,hb,hER,hz⟩:=dv hs6.ks hs6.rd (i:=1) (x:=z) (by rw [HY.out];rfl);simp only [Nat.zero_mul,Nat.add_zero,Nat.one_mul] at hz;injection he with he
 injection he with he he8
 subst he he8;obtain ⟨z0,z1,z2,z3,z4,z5,z6,z7⟩:=hz _ ah.refl;have HZ:=aW hz;have HE:=aW (ih z _ (4+1) _ g row5 _ _ hs6.wp hER (HKD.out.1 z (by rw [HY.out];simp)) (HKD.out.2 z (by rw [HY.out];simp)) (by have:=HL9.out;omega) (by omega));have q7:=hs6.x.1.cell 7;have q2:=hs6.o.1.cell 2;simp at q7 q2;clear hz hER HKD x0 x1 x2 p0 p1 p2 hs6;have hcast:((4+1:Nat):Int)=5:=rfl;rw [hcast] at HE;go_region_held3 (λ w'=>w'.cell? ⟨w.heap.size,7,none⟩=some (Zs (some ⟨b,o,none⟩) 2 ca)/\w'.cell? ⟨bo,2,none⟩=some (Zi Zq 4)/\w'.cell? ⟨b,o+8,none⟩=some (Zi Zq k')/\w'.cell? ⟨b,o+8+1,none⟩=some (Zi Zq k1')/\w'.cell? ⟨b,o+8+2,none⟩=some (Zi Zq n1')/\w'.cell? ⟨b,o+8+3,none⟩=some (Zt s1')/\w'.cell? ⟨b,o+8+4,none⟩=some (Zs A1' na1' ca1')/\w'.cell? ⟨b,o+8+5,none⟩=some (Zs B1' nb1' cb1')/\w'.cell? ⟨b,o+8+6,none⟩=some (Zt s')/\w'.cell? ⟨b,o+8+7,none⟩=some (Zs A2' n2' ca2')) (go_keep) ((go_at_call 74;refine HE.out.mono ?_;intro e w7 hp;obtain ⟨rfl,row7,hs7,hk7⟩:=HS6.out.putM hp;obtain ⟨y0,y1,y2,y3,y4,y5,y6,y7⟩:=HZ.out _ hk7;have r7:=hs7.x.1.cell 7;have r2:=hs7.o.1.cell 2;simp at r7 r2));go_wp2;go_end0;exact hs7.fin
theorem Aa (L:Nat) (hL9:L=1∨L=2∨L=5∨L=6) (r:Nat) (ih:jJ r):kS r (λ k=>a8 k=L/\8<=k/\k<=15):=by
 intro k v s kids cs f w g row n st hk hW hx hc hd hf hlen;have hop:=hk;obtain ⟨k1,n1,s1,A1,na1,ca1,B1,nb1,cb1,A,ca,css,rfl,hv,h1,h2,h3,h4⟩:=hx.out;have hc':=hc;unfold cd at hc';obtain ⟨_,hcv,hsl,hck,hcl⟩:=hc';have hcl:=cc.1 hcl;obtain ⟨_,hok,hdk⟩:=cG hd;have hdk:∀ x ∈ kids,bw r x≠0:=hdk;have hop9:ig v=true/\s=[]/\kids.length=2:=by
  unfold okX at hok;rw [if_neg (by omega)] at hok;split at hok
  ·cases hok
  ·rename_i hz9
   rw [if_neg (by omega),if_neg (by omega),if_neg (by omega)] at hok
   first
    | (simp only [decide_eq_true_eq] at hok;exact ⟨by simpa using hz9,hok⟩)
    | (rw [if_pos (by omega)] at hok;simp only [decide_eq_true_eq] at hok;exact ⟨by simpa using hz9,hok⟩)
    | (rw [if_neg (by omega),if_pos (by omega)] at hok;simp only [decide_eq_true_eq] at hok;exact ⟨by simpa using hz9,hok⟩)
 obtain ⟨_,_,hn1⟩:=hop9;have e1:(k == 1)=false:=by rw [beq_eq_false_iff_ne];omega
 have e2:(k == 2)=false:=by rw [beq_eq_false_iff_ne];omega
 have e3:(k == 3)=false:=by rw [beq_eq_false_iff_ne];omega
 have e4:(k == 4)=false:=by rw [beq_eq_false_iff_ne];omega
 obtain ⟨y,z,hy⟩:∃ y z,kids=[y,z]:=by
  match kids,hn1 with
  | [y,z],_=>exact ⟨y,z,rfl⟩
 have hkL:=hk.1;have HF1:=aW (show mj (a8 k)=L by rw [hkL];rcases hL9 with rfl | rfl | rfl | rfl<;>rfl);have hbody:cI k v s (cW kids)=aw L y++opK k::aw (a8 k+1) z:=by
  rw [hy];refine ((if_neg (by omega)).trans ((if_neg (by omega)).trans ((if_neg (by omega)).trans (if_neg (by omega))))).trans ?_;show bu (mj (a8 k)) (az y)++opK k::bu (a8 k+1) (az z)=_
  rw [HF1.out];rfl
 have HL9:=aW (show a8 k<=8 by rw [hkL];omega);have HAL:=aW (show (decide (((a8 k:Nat):Int)=3∨((a8 k:Nat):Int)=7))=false by rw [hkL];exact decide_eq_false (by omega));have HL4:=aW (show (((a8 k:Nat):Int) == 4)=false by rw [hkL,beq_eq_false_iff_ne];omega);rw [hbody] at hlen ⊢;rw [cx,cM];have HY:=aW hy;clear hbody hn1 hy;obtain ⟨S,hS⟩:∃ S:ByteArray,⟨s.toArray⟩=S:=⟨_,rfl⟩
 rw [hS];have HSS:=aW hS;obtain ⟨nk,hnk⟩:∃ q,kids.length=q:=⟨_,rfl⟩
 rw [hnk];have HNK:=aW hnk;have HH0:=aW ((aT.nil w).push 45 #[Zi Zq k,Zi Zq k1,Zi Zq n1,Zt s1,Zs A1 na1 ca1,Zs B1 nb1 cb1,Zt S,Zs A nk ca] (g:=w.heap.size) rfl);have HLV:=aW (λ W (h:Below w.heap.size w W)=>iq k k1 n1 s1 A1 na1 ca1 B1 nb1 cb1 S A nk ca W (hW.goe.keep h));have HOF:=aW (λ W (h:Below w.heap.size w W)=>eOf k W (hW.goe.keep h));unfold OfP at HOF;obtain ⟨t,hof,htne,hts⟩:=lJ ⟨by omega,by omega⟩ (k:=k);rw [hof] at HOF;unfold cT at HOF;simp only at HOF;have HTS:=aW (And.intro htne hts);obtain ⟨T,hT⟩:∃ T:ByteArray,⟨t.toArray⟩=T:=⟨_,rfl⟩
 rw [hT] at HOF;have HTT:=aW hT;unfold oL at HLV;have hL:=hkL;rw [hL] at hf HLV HOF hlen ⊢;have HLK:=aW hL;have hlt:¬ (L:Int)<(f:Int):=by omega
 have HST:=aW (λ (W3:World) hb=>eV (W1:=w) (W3:=W3) (X:=#[Zi Zq k,Zi Zq k1,Zi Zq n1,Zt s1,Zs A1 na1 ca1,Zs B1 nb1 cb1,Zt S,Zs A nk ca]) (O:=#[Zt T,Zi Zq k,Zi Zq L]) hW h1 h4 hb);have HKD:=aW (And.intro hcl hdk);have HLEN:=aW hlen;have HOP:=aW hop;clear hW hx hc hd hok hdk hv h1 h4 hcv hcl hS hnk hL hlen hck hsl h2 h3 hop hof htne hts hT hk;obtain ⟨c0,f0,l0⟩:=HH0.out.b0.rules;go_enter Tryz.func74,Tryz.ntmps74;go_upto_block 0 with (first
  | (go_at_call 112;refine (HLV.out _ HH0.out.1).mono ?_;rintro e w1 ⟨rfl,hb1⟩;obtain ⟨c1,f1,l1⟩:=(HH0.out.keep hb1).b0.rules)
  | (go_at_call 113;refine (HOF.out _ (HH0.out.1.trans (hb1.mono HH0.out.1.size))).mono ?_;rintro e w3 ⟨rfl,hb3⟩))
 have HS:=aW (HST.out _ (hb1.trans (hb3.mono hb1.size)));obtain ⟨W4,hW4⟩:∃ W',w3.alloc (.cells #[Zt T,Zi Zq k,Zi Zq L] 154)=W':=⟨_,rfl⟩
 rw [hW4] at HS ⊢;obtain ⟨bo,hbo⟩:∃ q,w3.heap.size=q:=⟨_,rfl⟩
 rw [hbo] at HS ⊢;obtain ⟨x0,x1,x2⟩:=HS.out.x.1.rules;obtain ⟨p0,p1,p2⟩:=HS.out.o.1.rules;clear c0 f0 l0 c1 f1 l1 hb1 hb3 HH0 hW4 hbo;rw [HLK.out] at HAL HL9 HL4;rw [HTS.out.2];have hl1:=HLEN.out;rw [aG,aj,HTS.out.2] at hl1;have hnk1:nk=2:=by rw [← HNK.out,HY.out];rfl
 subst hnk1;have hL4:=HL4.out;have HP1:=aW (λ W row9 X9 O9 A9 c9 k9 (h:PS w W g row row9 (aH (aw L y) st) w.heap.size bo X9 O9 A9 c9 k9)=>h.put1 t W.heap.size rfl HTS.out.1 (by have:=bi (aw L y) st;omega));rw [HTT.out] at HP1;have HAH:=aW (λ W=>oW T k (L:Int) W);have hal4:decide ((L:Int)=3∨(L:Int)=7)=false:=decide_eq_false (by omega);rw [hal4] at HAH;have HE1:=aW (λ W' row9 X9 O9 A9 c9 cs (h:PS w W' g row row9 st w.heap.size bo X9 O9 A9 c9 kids) (hER:ER W' (PbM g row9 W') cs y)=>(ih y cs L W' g row9 _ st h.wp hER (HKD.out.1 y (by rw [HY.out];simp)) (HKD.out.2 y (by rw [HY.out];simp)) (by have:=HL9.out;omega) (by omega)).mono λ e W'' hq=>h.put hq);obtain ⟨b,o,k9,k19,n19,s19,A19,na19,ca19,B19,nb19,cb19,s9,A29,n29,ca29,rfl,hb,_,_⟩:=dv HS.out.ks HS.out.rd (i:=0) (x:=y) (by rw [HY.out];rfl);go_wp2_with (first
  | (go_at_call 115;refine (HAH.out _).mono ?_;rintro e wa ⟨rfl,hba⟩;have hsa:=HS.out.bel hba;obtain ⟨x0,x1,x2⟩:=hsa.x.1.rules;obtain ⟨p0,p1,p2⟩:=hsa.o.1.rules;obtain ⟨b9,o9,k9,k19,n19,s19,A19,na19,ca19,B19,nb19,cb19,s9,A29,n29,ca29,he9,hb9,hER9,hz9⟩:=dv hsa.ks hsa.rd (i:=0) (x:=y) (by rw [HY.out];rfl);simp only [Nat.zero_mul,Nat.add_zero] at hz9;injection he9 with he9;injection he9 with he9 he8;subst he9 he8;obtain ⟨z0,z1,z2,z3,z4,z5,z6,z7⟩:=hz9 _ ah.refl;have HSA:=aW hsa;have HER9:=aW hER9;clear hz9 hER9)
  | (go_at_call 74;refine (HE1.out _ _ _ _ _ _ _ HSA.out HER9.out).mono ?_;rintro e w4 ⟨rfl,row4,hs4⟩;obtain ⟨v0,v1,v2⟩:=hs4.o.1.rules)
  | (go_at_call 73;refine (HP1.out _ _ _ _ _ _ _ hs4).mono ?_;rintro e w5 ⟨rfl,row5,hs5⟩))
 clear z0 z1 z2 z3 z4 z5 z6 z7 v0 v1 v2;have hl4:=cU (aH (aw L y) st) t;have hl5:=bi (aw L y) st;have hs6:=hs5.bel ((Below.refl _ _).drew);have HS6:=aW hs6;obtain ⟨b,o,k',k1',n1',s1',A1',na1',ca1',B1',nb1',cb1',s',A2',n2',ca2',he,hb,hER,hz⟩:=dv hs6.ks hs6.rd (i:=1) (x:=z) (by rw [HY.out];rfl);simp only [Nat.zero_mul,Nat.add_zero,Nat.one_mul] at hz;injection he with he
 injection he with he he8
 subst he he8;obtain ⟨z0,z1,z2,z3,z4,z5,z6,z7⟩:=hz _ ah.refl;have HZ:=aW hz;have HE:=aW (ih z _ (L+1) _ g row5 _ _ hs6.wp hER (HKD.out.1 z (by rw [HY.out];simp)) (HKD.out.2 z (by rw [HY.out];simp)) (by have:=HL9.out;omega) (by omega));have q7:=hs6.x.1.cell 7;have q2:=hs6.o.1.cell 2;simp at q7 q2;clear hz hER HKD x0 x1 x2 p0 p1 p2 hs6;have hcast:((L+1:Nat):Int)=(L:Int)+1:=rfl;have hwr:IntKind.i64.wrap ((L:Int)+1)=(L:Int)+1:=by rw [IntKind.wrap_i64];omega
 rw [hcast] at HE;go_region_held3 (λ w'=>w'.cell? ⟨w.heap.size,7,none⟩=some (Zs (some ⟨b,o,none⟩) 2 ca)/\w'.cell? ⟨bo,2,none⟩=some (Zi Zq (L:Int))/\w'.cell? ⟨b,o+8,none⟩=some (Zi Zq k')/\w'.cell? ⟨b,o+8+1,none⟩=some (Zi Zq k1')/\w'.cell? ⟨b,o+8+2,none⟩=some (Zi Zq n1')/\w'.cell? ⟨b,o+8+3,none⟩=some (Zt s1')/\w'.cell? ⟨b,o+8+4,none⟩=some (Zs A1' na1' ca1')/\w'.cell? ⟨b,o+8+5,none⟩=some (Zs B1' nb1' cb1')/\w'.cell? ⟨b,o+8+6,none⟩=some (Zt s')/\w'.cell? ⟨b,o+8+7,none⟩=some (Zs A2' n2' ca2')) (go_keep) ((go_at_call 74;refine HE.out.mono ?_;intro e w7 hp;obtain ⟨rfl,row7,hs7,hk7⟩:=HS6.out.putM hp;obtain ⟨y0,y1,y2,y3,y4,y5,y6,y7⟩:=HZ.out _ hk7;have r7:=hs7.x.1.cell 7;have r2:=hs7.o.1.cell 2;simp at r7 r2));go_wp2;go_end0;exact hs7.fin
end
end Go.Proofs.YtgmnmnnoahdjnaaGreatDoor
