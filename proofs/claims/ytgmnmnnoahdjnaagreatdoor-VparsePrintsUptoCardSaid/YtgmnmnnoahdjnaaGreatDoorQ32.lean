import Derived.Test.YtgmnmnnoahdjnaaGreatDoorQ31
open Go.Value renaming int → Zi, slice → Zs, string → Zt, pointer → Zp
open Go.IntKind renaming i64 → Zq
set_option maxRecDepth 100000
set_option maxHeartbeats 16000000
set_option linter.unusedVariables false
set_option linter.unusedSimpArgs false
namespace Go.Proofs.YtgmnmnnoahdjnaaGreatDoor
section
open Go.RowKit
attribute [local go_sem] aa ac ae ab
theorem zJ (r:Nat):ii r (λ k=>k=2):=by
 intro k v s kids cs f w g row n st hk hW hx hc hd hf hlen;subst hk;obtain ⟨k1,n1,s1,A1,na1,ca1,B1,nb1,cb1,A,ca,css,rfl,hv,h1,h2,h3,h4⟩:=hx.out;have hc':=hc;unfold bh at hc';obtain ⟨_,hcv,hsl,hck,hcl⟩:=hc';have hcl:=aK.1 hcl;obtain ⟨_,hok,hdk⟩:=aR hd;have hdk:∀ x ∈ kids,bj r x≠0:=hdk;have hsne:s≠[]:=by
  unfold okX at hok;rintro rfl;rw [if_neg (by decide)] at hok;split at hok
  ·cases hok
  ·rw [if_pos rfl] at hok;simp only [Bool.and_eq_true] at hok;exact absurd hok.1 (by decide)
 have hbody:bK 2 v s (bR kids)=[eW s]:=(if_neg (by decide)).trans (if_pos rfl);rw [hbody] at hlen ⊢;clear hbody;obtain ⟨S,hS⟩:∃ S:ByteArray,⟨s.toArray⟩=S:=⟨_,rfl⟩
 rw [hS];have HSS:=aW hS;obtain ⟨nk,hnk⟩:∃ q,kids.length=q:=⟨_,rfl⟩
 rw [hnk];have HNK:=aW hnk;have HH0:=aW ((aH.nil w).push 45 #[Zi Zq 2,Zi Zq k1,Zi Zq n1,Zt s1,Zs A1 na1 ca1,Zs B1 nb1 cb1,Zt S,Zs A nk ca] (g:=w.heap.size) rfl);have HLV:=aW (λ W (h:Below w.heap.size w W)=>fs 2 k1 n1 s1 A1 na1 ca1 B1 nb1 cb1 S A nk ca W (hW.goe.keep h));have HOF:=aW (λ W (h:Below w.heap.size w W)=>eOf 2 W (hW.goe.keep h));unfold OfP at HOF;rw [kK (by omega)] at HOF;unfold cx fJ at HOF;simp only at HOF;unfold lC at HLV;obtain ⟨L,hL⟩:∃ L,ay 2=L:=⟨_,rfl⟩
 rw [hL] at hf HLV;have HLK:=aW hL;have hlt:¬ (L:Int)<(f:Int):=by omega
 have HST:=aW (λ (W3:World) hb=>dx (W1:=w) (W3:=W3) (X:=#[Zi Zq 2,Zi Zq k1,Zi Zq n1,Zt s1,Zs A1 na1 ca1,Zs B1 nb1 cb1,Zt S,Zs A nk ca]) (O:=#[Zt ⟨#[]⟩,Zi Zq 0,Zi Zq 0]) hW h1 h4 hb);have HKD:=aW (And.intro hcl hdk);have HLEN:=aW hlen;have HOP:=aW trivial;clear hW hx hc hd hok hdk hv h1 h4 hcv hcl hS hnk hL hlen hck hsl h2 h3;obtain ⟨c0,f0,l0⟩:=HH0.out.b0.rules;go_enter Tryz.func74,Tryz.ntmps74;go_upto_block 0 with (first
  | (go_at_call 112;refine (HLV.out _ HH0.out.1).mono ?_;rintro e w1 ⟨rfl,hb1⟩;obtain ⟨c1,f1,l1⟩:=(HH0.out.keep hb1).b0.rules)
  | (go_at_call 113;refine (HOF.out _ (HH0.out.1.trans (hb1.mono HH0.out.1.size))).mono ?_;rintro e w3 ⟨rfl,hb3⟩))
 have HS:=aW (HST.out _ (hb1.trans (hb3.mono hb1.size)));obtain ⟨W4,hW4⟩:∃ W',w3.alloc (.cells #[Zt ⟨#[]⟩,Zi Zq 0,Zi Zq 0] 154)=W':=⟨_,rfl⟩
 rw [hW4] at HS ⊢;obtain ⟨bo,hbo⟩:∃ q,w3.heap.size=q:=⟨_,rfl⟩
 rw [hbo] at HS ⊢;obtain ⟨x0,x1,x2⟩:=HS.out.x.1.rules;obtain ⟨p0,p1,p2⟩:=HS.out.o.1.rules;clear c0 f0 l0 c1 f1 l1 hb1 hb3 HH0 hW4 hbo;have HP1:=aW (HS.out.put1 s W4.heap.size rfl hsne (by have:=HLEN.out;rw [ai,bd] at this;exact Nat.le_trans (by show _<=st.1.length+(s.length+1+0);omega) this));rw [HSS.out] at HP1;go_wp2_with (go_at_call 73;refine HP1.out.mono ?_;rintro e w5 ⟨rfl,row5,hs5⟩);go_end0;exact hs5.fin
theorem zK (r:Nat) (ih:ia r):ii r (λ k=>k=3):=by
 intro k v s kids cs f w g row n st hk hW hx hc hd hf hlen;subst hk;obtain ⟨k1,n1,s1,A1,na1,ca1,B1,nb1,cb1,A,ca,css,rfl,hv,h1,h2,h3,h4⟩:=hx.out;have hc':=hc;unfold bh at hc';obtain ⟨_,hcv,hsl,hck,hcl⟩:=hc';have hcl:=aK.1 hcl;obtain ⟨_,hok,hdk⟩:=aR hd;have hdk:∀ x ∈ kids,bj r x≠0:=hdk;have hsne:s≠[]/\kids.length=1:=by
  unfold okX at hok;rw [if_neg (by decide)] at hok;split at hok
  ·cases hok
  ·rw [if_neg (by decide),if_pos rfl] at hok;simp only [Bool.and_eq_true,decide_eq_true_eq] at hok;exact ⟨by rintro rfl;exact absurd hok.1 (by decide),hok.2⟩
 obtain ⟨hsne,hn1⟩:=hsne;obtain ⟨y,hy⟩:∃ y,kids=[y]:=List.length_eq_one_iff.1 hn1;have hbody:bK 3 v s (bR kids)=az 8 y++[aA [46],eW s]:=by rw [hy];exact (if_neg (by decide)).trans ((if_neg (by decide)).trans (if_pos rfl))
 rw [hbody] at hlen ⊢;rw [bP];have HY:=aW hy;clear hbody hn1 hy;obtain ⟨S,hS⟩:∃ S:ByteArray,⟨s.toArray⟩=S:=⟨_,rfl⟩
 rw [hS];have HSS:=aW hS;obtain ⟨nk,hnk⟩:∃ q,kids.length=q:=⟨_,rfl⟩
 rw [hnk];have HNK:=aW hnk;have HH0:=aW ((aH.nil w).push 45 #[Zi Zq 3,Zi Zq k1,Zi Zq n1,Zt s1,Zs A1 na1 ca1,Zs B1 nb1 cb1,Zt S,Zs A nk ca] (g:=w.heap.size) rfl);have HLV:=aW (λ W (h:Below w.heap.size w W)=>fs 3 k1 n1 s1 A1 na1 ca1 B1 nb1 cb1 S A nk ca W (hW.goe.keep h));have HOF:=aW (λ W (h:Below w.heap.size w W)=>eOf 3 W (hW.goe.keep h));unfold OfP at HOF;rw [kK (by omega)] at HOF;unfold cx fJ at HOF;simp only at HOF;unfold lC at HLV;obtain ⟨L,hL⟩:∃ L,ay 3=L:=⟨_,rfl⟩
 rw [hL] at hf HLV;have HLK:=aW hL;have hlt:¬ (L:Int)<(f:Int):=by omega
 have HST:=aW (λ (W3:World) hb=>dx (W1:=w) (W3:=W3) (X:=#[Zi Zq 3,Zi Zq k1,Zi Zq n1,Zt s1,Zs A1 na1 ca1,Zs B1 nb1 cb1,Zt S,Zs A nk ca]) (O:=#[Zt ⟨#[]⟩,Zi Zq 0,Zi Zq 0]) hW h1 h4 hb);have HKD:=aW (And.intro hcl hdk);have HLEN:=aW hlen;have HOP:=aW trivial;clear hW hx hc hd hok hdk hv h1 h4 hcv hcl hS hnk hL hlen hck hsl h2 h3;obtain ⟨c0,f0,l0⟩:=HH0.out.b0.rules;go_enter Tryz.func74,Tryz.ntmps74;go_upto_block 0 with (first
  | (go_at_call 112;refine (HLV.out _ HH0.out.1).mono ?_;rintro e w1 ⟨rfl,hb1⟩;obtain ⟨c1,f1,l1⟩:=(HH0.out.keep hb1).b0.rules)
  | (go_at_call 113;refine (HOF.out _ (HH0.out.1.trans (hb1.mono HH0.out.1.size))).mono ?_;rintro e w3 ⟨rfl,hb3⟩))
 have HS:=aW (HST.out _ (hb1.trans (hb3.mono hb1.size)));obtain ⟨W4,hW4⟩:∃ W',w3.alloc (.cells #[Zt ⟨#[]⟩,Zi Zq 0,Zi Zq 0] 154)=W':=⟨_,rfl⟩
 rw [hW4] at HS ⊢;obtain ⟨bo,hbo⟩:∃ q,w3.heap.size=q:=⟨_,rfl⟩
 rw [hbo] at HS ⊢;obtain ⟨x0,x1,x2⟩:=HS.out.x.1.rules;obtain ⟨p0,p1,p2⟩:=HS.out.o.1.rules;clear c0 f0 l0 c1 f1 l1 hb1 hb3 HH0 hW4 hbo;obtain ⟨b,o,k',k1',n1',s1',A1',na1',ca1',B1',nb1',cb1',s',A2',n2',ca2',rfl,hb,hER,hz⟩:=bW HS.out.ks HS.out.rd (i:=0) (x:=y) (by rw [HY.out];rfl);obtain ⟨z0,z1,z2,z3,z4,z5,z6,z7⟩:=hz _ (Below.refl _ _);simp only [Nat.zero_mul,Nat.add_zero,Nat.one_mul] at z0 z1 z2 z3 z4 z5 z6 z7;have hl1:=HLEN.out;rw [al,ai,ai,bd] at hl1;have hl2:(aF (aA [46])).length=1:=rfl;have hl3:(aF (eW s)).length=s.length:=rfl;have hl4:=aN (az 8 y) st;have HE:=aW (ih y _ 8 W4 g row _ st HS.out.wp hER (HKD.out.1 y (by rw [HY.out];simp)) (HKD.out.2 y (by rw [HY.out];simp)) (by omega) (by omega));have HPT:=aW (λ W' row' X9 O9 A9 c9 k9 (h:PS w W' g row row' (aJ (az 8 y) st) w.heap.size bo X9 O9 A9 c9 k9)=>h.put2 [46] s W'.heap.size rfl (by simp) hsne (by simp only [List.length_cons,List.length_nil];omega));rw [HSS.out] at HPT;have hnk1:nk=1:=by rw [← HNK.out,HY.out];rfl
 subst hnk1;clear hz hER hl1 hl2 hl3 hl4 HKD;go_wp2_with (first
  | (go_at_call 74;refine HE.out.mono ?_;intro e w5 hp;obtain ⟨rfl,row5,hs5⟩:=HS.out.put hp;obtain ⟨v0,v1,v2⟩:=hs5.x.1.rules)
  | (go_at_call 73;refine (HPT.out _ _ _ _ _ _ _ hs5).mono ?_;rintro e w6 ⟨rfl,row6,hs6⟩))
 go_end0;exact hs6.fin
theorem xO (r:Nat) (ih:ia r):ii r (λ k=>5<=k/\k<=7):=by
 intro k v s kids cs f w g row n st hk hW hx hc hd hf hlen;have hop:=hk;obtain ⟨k1,n1,s1,A1,na1,ca1,B1,nb1,cb1,A,ca,css,rfl,hv,h1,h2,h3,h4⟩:=hx.out;have hc':=hc;unfold bh at hc';obtain ⟨_,hcv,hsl,hck,hcl⟩:=hc';have hcl:=aK.1 hcl;obtain ⟨_,hok,hdk⟩:=aR hd;have hdk:∀ x ∈ kids,bj r x≠0:=hdk;have hop9:cV v=true/\s=[]/\kids.length=1:=by
  unfold okX at hok;rw [if_neg (by omega)] at hok;split at hok
  ·cases hok
  ·rename_i hz9
   rw [if_neg (by omega),if_neg (by omega),if_neg (by omega)] at hok
   first
    | (simp only [decide_eq_true_eq] at hok;exact ⟨by simpa using hz9,hok⟩)
    | (rw [if_pos (by omega)] at hok;simp only [decide_eq_true_eq] at hok;exact ⟨by simpa using hz9,hok⟩)
    | (rw [if_neg (by omega),if_pos (by omega)] at hok;simp only [decide_eq_true_eq] at hok;exact ⟨by simpa using hz9,hok⟩)
 obtain ⟨_,_,hn1⟩:=hop9;have e1:(k == 1)=false:=by rw [beq_eq_false_iff_ne];omega
 have e2:(k == 2)=false:=by rw [beq_eq_false_iff_ne];omega
 have e3:(k == 3)=false:=by rw [beq_eq_false_iff_ne];omega
 have e4:(k == 4)=false:=by rw [beq_eq_false_iff_ne];omega
 obtain ⟨y,hy⟩:∃ y,kids=[y]:=List.length_eq_one_iff.1 hn1;have hbody:bK k v s (bR kids)=opK k::az (ay k) y:=by rw [hy];exact (if_neg (by omega)).trans ((if_neg (by omega)).trans ((if_neg (by omega)).trans (if_neg (by omega))))
 have HL9:=aW (show ay k<=9 by unfold ay;(repeat' split)<;>omega);have HAL:=aW (show (decide (((ay k:Nat):Int)=3∨((ay k:Nat):Int)=7))=true by
  obtain rfl | rfl | rfl:k=5∨k=6∨k=7:=by omega
  all_goals rfl)
 rw [hbody] at hlen ⊢;rw [bU];have HY:=aW hy;clear hbody hn1 hy;obtain ⟨S,hS⟩:∃ S:ByteArray,⟨s.toArray⟩=S:=⟨_,rfl⟩
 rw [hS];have HSS:=aW hS;obtain ⟨nk,hnk⟩:∃ q,kids.length=q:=⟨_,rfl⟩
 rw [hnk];have HNK:=aW hnk;have HH0:=aW ((aH.nil w).push 45 #[Zi Zq k,Zi Zq k1,Zi Zq n1,Zt s1,Zs A1 na1 ca1,Zs B1 nb1 cb1,Zt S,Zs A nk ca] (g:=w.heap.size) rfl);have HLV:=aW (λ W (h:Below w.heap.size w W)=>fs k k1 n1 s1 A1 na1 ca1 B1 nb1 cb1 S A nk ca W (hW.goe.keep h));have HOF:=aW (λ W (h:Below w.heap.size w W)=>eOf k W (hW.goe.keep h));unfold OfP at HOF;obtain ⟨t,hof,htne,hts⟩:=gS ⟨by omega,by omega⟩ (k:=k);rw [hof] at HOF;unfold cx at HOF;simp only at HOF;have HTS:=aW (And.intro htne hts);obtain ⟨T,hT⟩:∃ T:ByteArray,⟨t.toArray⟩=T:=⟨_,rfl⟩
 rw [hT] at HOF;have HTT:=aW hT;unfold lC at HLV;obtain ⟨L,hL⟩:∃ L,ay k=L:=⟨_,rfl⟩
 rw [hL] at hf HLV HOF hlen ⊢;have HLK:=aW hL;have hlt:¬ (L:Int)<(f:Int):=by omega
 have HST:=aW (λ (W3:World) hb=>dx (W1:=w) (W3:=W3) (X:=#[Zi Zq k,Zi Zq k1,Zi Zq n1,Zt s1,Zs A1 na1 ca1,Zs B1 nb1 cb1,Zt S,Zs A nk ca]) (O:=#[Zt T,Zi Zq k,Zi Zq L]) hW h1 h4 hb);have HKD:=aW (And.intro hcl hdk);have HLEN:=aW hlen;have HOP:=aW hop;clear hW hx hc hd hok hdk hv h1 h4 hcv hcl hS hnk hL hlen hck hsl h2 h3 hop hof htne hts hT hk;obtain ⟨c0,f0,l0⟩:=HH0.out.b0.rules;go_enter Tryz.func74,Tryz.ntmps74;go_upto_block 0 with (first
  | (go_at_call 112;refine (HLV.out _ HH0.out.1).mono ?_;rintro e w1 ⟨rfl,hb1⟩;obtain ⟨c1,f1,l1⟩:=(HH0.out.keep hb1).b0.rules)
  | (go_at_call 113;refine (HOF.out _ (HH0.out.1.trans (hb1.mono HH0.out.1.size))).mono ?_;rintro e w3 ⟨rfl,hb3⟩))
 have HS:=aW (HST.out _ (hb1.trans (hb3.mono hb1.size)));obtain ⟨W4,hW4⟩:∃ W',w3.alloc (.cells #[Zt T,Zi Zq k,Zi Zq L] 154)=W':=⟨_,rfl⟩
 rw [hW4] at HS ⊢;obtain ⟨bo,hbo⟩:∃ q,w3.heap.size=q:=⟨_,rfl⟩
 rw [hbo] at HS ⊢;obtain ⟨x0,x1,x2⟩:=HS.out.x.1.rules;obtain ⟨p0,p1,p2⟩:=HS.out.o.1.rules;clear c0 f0 l0 c1 f1 l1 hb1 hb3 HH0 hW4 hbo;rw [HLK.out] at HAL HL9;rw [HTS.out.2] at ⊢;have hl1:=HLEN.out;rw [ai,HTS.out.2] at hl1;have hnk1:nk=1:=by rw [← HNK.out,HY.out];rfl
 subst hnk1;have HP1:=aW (λ W row9 X9 O9 A9 c9 k9 (h:PS w W g row row9 st w.heap.size bo X9 O9 A9 c9 k9)=>h.put1 t W.heap.size rfl HTS.out.1 (by omega));rw [HTT.out] at HP1;have HAH:=aW (λ W=>ju T k (L:Int) W);rw [HAL.out] at HAH;go_wp2_with (first
  | (go_at_call 115;refine (HAH.out _).mono ?_;rintro e wa ⟨rfl,hba⟩;have hsa:=HS.out.bel hba;obtain ⟨x0,x1,x2⟩:=hsa.x.1.rules;obtain ⟨p0,p1,p2⟩:=hsa.o.1.rules)
  | (go_at_call 73;refine (HP1.out _ _ _ _ _ _ _ hsa).mono ?_;rintro e w5 ⟨rfl,row5,hs5⟩))
 have hl4:=cz st t;have hs6:=hs5.bel ((Below.refl _ _).drew);have HS6:=aW hs6;obtain ⟨b,o,k',k1',n1',s1',A1',na1',ca1',B1',nb1',cb1',s',A2',n2',ca2',rfl,hb,hER,hz⟩:=br hs6.ks hs6.rd (i:=0) (x:=y) (by rw [HY.out];rfl);simp only [Nat.zero_mul,Nat.add_zero,Nat.one_mul] at hz;obtain ⟨z0,z1,z2,z3,z4,z5,z6,z7⟩:=hz _ ah.refl;have HZ:=aW hz;have HE:=aW (ih y _ L _ g row5 _ _ hs6.wp hER (HKD.out.1 y (by rw [HY.out];simp)) (HKD.out.2 y (by rw [HY.out];simp)) (by have:=HL9.out;omega) (by omega));have q7:=hs6.x.1.cell 7;have q2:=hs6.o.1.cell 2;simp at q7 q2;clear hz hER HKD x0 x1 x2 p0 p1 p2 hs6;go_region_held3 (λ w'=>w'.cell? ⟨w.heap.size,7,none⟩=some (Zs (some ⟨b,o,none⟩) 1 ca)/\w'.cell? ⟨bo,2,none⟩=some (Zi Zq L)/\w'.cell? ⟨b,o,none⟩=some (Zi Zq k')/\w'.cell? ⟨b,o+1,none⟩=some (Zi Zq k1')/\w'.cell? ⟨b,o+2,none⟩=some (Zi Zq n1')/\w'.cell? ⟨b,o+3,none⟩=some (Zt s1')/\w'.cell? ⟨b,o+4,none⟩=some (Zs A1' na1' ca1')/\w'.cell? ⟨b,o+5,none⟩=some (Zs B1' nb1' cb1')/\w'.cell? ⟨b,o+6,none⟩=some (Zt s')/\w'.cell? ⟨b,o+7,none⟩=some (Zs A2' n2' ca2')) (go_keep) ((go_at_call 74;refine HE.out.mono ?_;intro e w7 hp;obtain ⟨rfl,row7,hs7,hk7⟩:=HS6.out.putM hp;obtain ⟨y0,y1,y2,y3,y4,y5,y6,y7⟩:=HZ.out _ hk7;have r7:=hs7.x.1.cell 7;have r2:=hs7.o.1.cell 2;simp at r7 r2));go_wp2;go_end0;exact hs7.fin
end
end Go.Proofs.YtgmnmnnoahdjnaaGreatDoor
