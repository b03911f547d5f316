import Derived.Test.YtgmnmnnoahdjnaaGreatDoorY26
open Go.Value renaming int → Zi, slice → Zs, string → Zt, pointer → Zp
open Go.IntKind renaming i64 → Zq
set_option maxRecDepth 100000
set_option maxHeartbeats 16000000
set_option linter.unusedVariables false
set_option linter.unusedSimpArgs false
namespace Go.Proofs.YtgmnmnnoahdjnaaGreatDoor
section
open Go.RowKit
attribute [local go_sem] aa ac ae ab
theorem yz (r:Nat):kD r (λ k=>k=2):=by
 intro k v s kids cs f w g row n st hk hW hx hc hd hf hlen;subst hk;obtain ⟨k1,n1,s1,A1,na1,ca1,B1,nb1,cb1,A,ca,css,rfl,hv,h1,h2,h3,h4⟩:=hx.out;have hc':=hc;unfold cj at hc';obtain ⟨_,hcv,hsl,hck,hcl⟩:=hc';have hcl:=bU.1 hcl;obtain ⟨_,hok,hdk⟩:=cD hd;have hdk:∀ x ∈ kids,bM r x≠0:=hdk;have hsne:s≠[]:=by
  unfold okX at hok;rintro rfl;rw [if_neg (by decide)] at hok;split at hok
  ·cases hok
  ·rw [if_pos rfl] at hok;simp only [Bool.and_eq_true] at hok;exact absurd hok.1 (by decide)
 have hbody:dE 2 v s (dW kids)=[jf s]:=(if_neg (by decide)).trans (if_pos rfl);rw [hbody] at hlen ⊢;clear hbody;obtain ⟨S,hS⟩:∃ S:ByteArray,⟨s.toArray⟩=S:=⟨_,rfl⟩
 rw [hS];have HSS:=aW hS;obtain ⟨nk,hnk⟩:∃ q,kids.length=q:=⟨_,rfl⟩
 rw [hnk];have HNK:=aW hnk;have HH0:=aW ((az.nil w).push 45 #[Zi Zq 2,Zi Zq k1,Zi Zq n1,Zt s1,Zs A1 na1 ca1,Zs B1 nb1 cb1,Zt S,Zs A nk ca] (g:=w.heap.size) rfl);have HLV:=aW (λ W (h:Below w.heap.size w W)=>ij 2 k1 n1 s1 A1 na1 ca1 B1 nb1 cb1 S A nk ca W (hW.goe.keep h));have HOF:=aW (λ W (h:Below w.heap.size w W)=>eOf 2 W (hW.goe.keep h));unfold OfP at HOF;rw [ki (by omega)] at HOF;unfold cL fB at HOF;simp only at HOF;unfold oG at HLV;obtain ⟨L,hL⟩:∃ L,bt 2=L:=⟨_,rfl⟩
 rw [hL] at hf HLV;have HLK:=aW hL;have hlt:¬ (L:Int)<(f:Int):=by omega
 have HST:=aW (λ (W3:World) hb=>eH (W1:=w) (W3:=W3) (X:=#[Zi Zq 2,Zi Zq k1,Zi Zq n1,Zt s1,Zs A1 na1 ca1,Zs B1 nb1 cb1,Zt S,Zs A nk ca]) (O:=#[Zt ⟨#[]⟩,Zi Zq 0,Zi Zq 0]) hW h1 h4 hb);have HKD:=aW (And.intro hcl hdk);have HLEN:=aW hlen;have HOP:=aW trivial;clear hW hx hc hd hok hdk hv h1 h4 hcv hcl hS hnk hL hlen hck hsl h2 h3;obtain ⟨c0,f0,l0⟩:=HH0.out.b0.rules;go_enter Tryz.func74,Tryz.ntmps74;go_upto_block 0 with (first
  | (go_at_call 112;refine (HLV.out _ HH0.out.1).mono ?_;rintro e w1 ⟨rfl,hb1⟩;obtain ⟨c1,f1,l1⟩:=(HH0.out.keep hb1).b0.rules)
  | (go_at_call 113;refine (HOF.out _ (HH0.out.1.trans (hb1.mono HH0.out.1.size))).mono ?_;rintro e w3 ⟨rfl,hb3⟩))
 have HS:=aW (HST.out _ (hb1.trans (hb3.mono hb1.size)));obtain ⟨W4,hW4⟩:∃ W',w3.alloc (.cells #[Zt ⟨#[]⟩,Zi Zq 0,Zi Zq 0] 154)=W':=⟨_,rfl⟩
 rw [hW4] at HS ⊢;obtain ⟨bo,hbo⟩:∃ q,w3.heap.size=q:=⟨_,rfl⟩
 rw [hbo] at HS ⊢;obtain ⟨x0,x1,x2⟩:=HS.out.x.1.rules;obtain ⟨p0,p1,p2⟩:=HS.out.o.1.rules;clear c0 f0 l0 c1 f1 l1 hb1 hb3 HH0 hW4 hbo;have HP1:=aW (HS.out.put1 s W4.heap.size rfl hsne (by have:=HLEN.out;rw [aI,dH] at this;exact Nat.le_trans (by show _<=st.1.length+(s.length+1+0);omega) this));rw [HSS.out] at HP1;go_wp2_with (go_at_call 73;refine HP1.out.mono ?_;rintro e w5 ⟨rfl,row5,hs5⟩);go_end0;exact hs5.fin
theorem yA (r:Nat) (ih:jy r):kD r (λ k=>k=3):=by
 intro k v s kids cs f w g row n st hk hW hx hc hd hf hlen;subst hk;obtain ⟨k1,n1,s1,A1,na1,ca1,B1,nb1,cb1,A,ca,css,rfl,hv,h1,h2,h3,h4⟩:=hx.out;have hc':=hc;unfold cj at hc';obtain ⟨_,hcv,hsl,hck,hcl⟩:=hc';have hcl:=bU.1 hcl;obtain ⟨_,hok,hdk⟩:=cD hd;have hdk:∀ x ∈ kids,bM r x≠0:=hdk;have hsne:s≠[]/\kids.length=1:=by
  unfold okX at hok;rw [if_neg (by decide)] at hok;split at hok
  ·cases hok
  ·rw [if_neg (by decide),if_pos rfl] at hok;simp only [Bool.and_eq_true,decide_eq_true_eq] at hok;exact ⟨by rintro rfl;exact absurd hok.1 (by decide),hok.2⟩
 obtain ⟨hsne,hn1⟩:=hsne;obtain ⟨y,hy⟩:∃ y,kids=[y]:=List.length_eq_one_iff.1 hn1;have hbody:dE 3 v s (dW kids)=bI 8 y++[aK [46],jf s]:=by rw [hy];exact (if_neg (by decide)).trans ((if_neg (by decide)).trans (if_pos rfl))
 rw [hbody] at hlen ⊢;rw [ck];have HY:=aW hy;clear hbody hn1 hy;obtain ⟨S,hS⟩:∃ S:ByteArray,⟨s.toArray⟩=S:=⟨_,rfl⟩
 rw [hS];have HSS:=aW hS;obtain ⟨nk,hnk⟩:∃ q,kids.length=q:=⟨_,rfl⟩
 rw [hnk];have HNK:=aW hnk;have HH0:=aW ((az.nil w).push 45 #[Zi Zq 3,Zi Zq k1,Zi Zq n1,Zt s1,Zs A1 na1 ca1,Zs B1 nb1 cb1,Zt S,Zs A nk ca] (g:=w.heap.size) rfl);have HLV:=aW (λ W (h:Below w.heap.size w W)=>ij 3 k1 n1 s1 A1 na1 ca1 B1 nb1 cb1 S A nk ca W (hW.goe.keep h));have HOF:=aW (λ W (h:Below w.heap.size w W)=>eOf 3 W (hW.goe.keep h));unfold OfP at HOF;rw [ki (by omega)] at HOF;unfold cL fB at HOF;simp only at HOF;unfold oG at HLV;obtain ⟨L,hL⟩:∃ L,bt 3=L:=⟨_,rfl⟩
 rw [hL] at hf HLV;have HLK:=aW hL;have hlt:¬ (L:Int)<(f:Int):=by omega
 have HST:=aW (λ (W3:World) hb=>eH (W1:=w) (W3:=W3) (X:=#[Zi Zq 3,Zi Zq k1,Zi Zq n1,Zt s1,Zs A1 na1 ca1,Zs B1 nb1 cb1,Zt S,Zs A nk ca]) (O:=#[Zt ⟨#[]⟩,Zi Zq 0,Zi Zq 0]) hW h1 h4 hb);have HKD:=aW (And.intro hcl hdk);have HLEN:=aW hlen;have HOP:=aW trivial;clear hW hx hc hd hok hdk hv h1 h4 hcv hcl hS hnk hL hlen hck hsl h2 h3;obtain ⟨c0,f0,l0⟩:=HH0.out.b0.rules;go_enter Tryz.func74,Tryz.ntmps74;go_upto_block 0 with (first
  | (go_at_call 112;refine (HLV.out _ HH0.out.1).mono ?_;rintro e w1 ⟨rfl,hb1⟩;obtain ⟨c1,f1,l1⟩:=(HH0.out.keep hb1).b0.rules)
  | (go_at_call 113;refine (HOF.out _ (HH0.out.1.trans (hb1.mono HH0.out.1.size))).mono ?_;rintro e w3 ⟨rfl,hb3⟩))
 have HS:=aW (HST.out _ (hb1.trans (hb3.mono hb1.size)));obtain ⟨W4,hW4⟩:∃ W',w3.alloc (.cells #[Zt ⟨#[]⟩,Zi Zq 0,Zi Zq 0] 154)=W':=⟨_,rfl⟩
 rw [hW4] at HS ⊢;obtain ⟨bo,hbo⟩:∃ q,w3.heap.size=q:=⟨_,rfl⟩
 rw [hbo] at HS ⊢;obtain ⟨x0,x1,x2⟩:=HS.out.x.1.rules;obtain ⟨p0,p1,p2⟩:=HS.out.o.1.rules;clear c0 f0 l0 c1 f1 l1 hb1 hb3 HH0 hW4 hbo;obtain ⟨b,o,k',k1',n1',s1',A1',na1',ca1',B1',nb1',cb1',s',A2',n2',ca2',rfl,hb,hER,hz⟩:=fq HS.out.ks HS.out.rd (i:=0) (x:=y) (by rw [HY.out];rfl);obtain ⟨z0,z1,z2,z3,z4,z5,z6,z7⟩:=hz _ (Below.refl _ _);simp only [Nat.zero_mul,Nat.add_zero,Nat.one_mul] at z0 z1 z2 z3 z4 z5 z6 z7;have hl1:=HLEN.out;rw [bB,aI,aI,dH] at hl1;have hl2:(bF (aK [46])).length=1:=rfl;have hl3:(bF (jf s)).length=s.length:=rfl;have hl4:=a9 (bI 8 y) st;have HE:=aW (ih y _ 8 W4 g row _ st HS.out.wp hER (HKD.out.1 y (by rw [HY.out];simp)) (HKD.out.2 y (by rw [HY.out];simp)) (by omega) (by omega));have HPT:=aW (λ W' row' X9 O9 A9 c9 k9 (h:PS w W' g row row' (aE (bI 8 y) st) w.heap.size bo X9 O9 A9 c9 k9)=>h.put2 [46] s W'.heap.size rfl (by simp) hsne (by simp only [List.length_cons,List.length_nil];omega));rw [HSS.out] at HPT;have hnk1:nk=1:=by rw [← HNK.out,HY.out];rfl
 subst hnk1;clear hz hER hl1 hl2 hl3 hl4 HKD;go_wp2_with (first
  | (go_at_call 74;refine HE.out.mono ?_;intro e w5 hp;obtain ⟨rfl,row5,hs5⟩:=HS.out.put hp;obtain ⟨v0,v1,v2⟩:=hs5.x.1.rules)
  | (go_at_call 73;refine (HPT.out _ _ _ _ _ _ _ hs5).mono ?_;rintro e w6 ⟨rfl,row6,hs6⟩))
 go_end0;exact hs6.fin
theorem wR (r:Nat) (ih:jy r):kD r (λ k=>5<=k/\k<=7):=by
 intro k v s kids cs f w g row n st hk hW hx hc hd hf hlen;have hop:=hk;obtain ⟨k1,n1,s1,A1,na1,ca1,B1,nb1,cb1,A,ca,css,rfl,hv,h1,h2,h3,h4⟩:=hx.out;have hc':=hc;unfold cj at hc';obtain ⟨_,hcv,hsl,hck,hcl⟩:=hc';have hcl:=bU.1 hcl;obtain ⟨_,hok,hdk⟩:=cD hd;have hdk:∀ x ∈ kids,bM r x≠0:=hdk;have hop9:dj v=true/\s=[]/\kids.length=1:=by
  unfold okX at hok;rw [if_neg (by omega)] at hok;split at hok
  ·cases hok
  ·rename_i hz9
   rw [if_neg (by omega),if_neg (by omega),if_neg (by omega)] at hok
   first
    | (simp only [decide_eq_true_eq] at hok;exact ⟨by simpa using hz9,hok⟩)
    | (rw [if_pos (by omega)] at hok;simp only [decide_eq_true_eq] at hok;exact ⟨by simpa using hz9,hok⟩)
    | (rw [if_neg (by omega),if_pos (by omega)] at hok;simp only [decide_eq_true_eq] at hok;exact ⟨by simpa using hz9,hok⟩)
 obtain ⟨_,_,hn1⟩:=hop9;have e1:(k == 1)=false:=by rw [beq_eq_false_iff_ne];omega
 have e2:(k == 2)=false:=by rw [beq_eq_false_iff_ne];omega
 have e3:(k == 3)=false:=by rw [beq_eq_false_iff_ne];omega
 have e4:(k == 4)=false:=by rw [beq_eq_false_iff_ne];omega
 obtain ⟨y,hy⟩:∃ y,kids=[y]:=List.length_eq_one_iff.1 hn1;have hbody:dE k v s (dW kids)=opK k::bI (bt k) y:=by rw [hy];exact (if_neg (by omega)).trans ((if_neg (by omega)).trans ((if_neg (by omega)).trans (if_neg (by omega))))
 have HL9:=aW (show bt k<=9 by unfold bt;(repeat' split)<;>omega);have HAL:=aW (show (decide (((bt k:Nat):Int)=3∨((bt k:Nat):Int)=7))=true by
  obtain rfl | rfl | rfl:k=5∨k=6∨k=7:=by omega
  all_goals rfl)
 rw [hbody] at hlen ⊢;rw [cI];have HY:=aW hy;clear hbody hn1 hy;obtain ⟨S,hS⟩:∃ S:ByteArray,⟨s.toArray⟩=S:=⟨_,rfl⟩
 rw [hS];have HSS:=aW hS;obtain ⟨nk,hnk⟩:∃ q,kids.length=q:=⟨_,rfl⟩
 rw [hnk];have HNK:=aW hnk;have HH0:=aW ((az.nil w).push 45 #[Zi Zq k,Zi Zq k1,Zi Zq n1,Zt s1,Zs A1 na1 ca1,Zs B1 nb1 cb1,Zt S,Zs A nk ca] (g:=w.heap.size) rfl);have HLV:=aW (λ W (h:Below w.heap.size w W)=>ij k k1 n1 s1 A1 na1 ca1 B1 nb1 cb1 S A nk ca W (hW.goe.keep h));have HOF:=aW (λ W (h:Below w.heap.size w W)=>eOf k W (hW.goe.keep h));unfold OfP at HOF;obtain ⟨t,hof,htne,hts⟩:=lm ⟨by omega,by omega⟩ (k:=k);rw [hof] at HOF;unfold cL at HOF;simp only at HOF;have HTS:=aW (And.intro htne hts);obtain ⟨T,hT⟩:∃ T:ByteArray,⟨t.toArray⟩=T:=⟨_,rfl⟩
 rw [hT] at HOF;have HTT:=aW hT;unfold oG at HLV;obtain ⟨L,hL⟩:∃ L,bt k=L:=⟨_,rfl⟩
 rw [hL] at hf HLV HOF hlen ⊢;have HLK:=aW hL;have hlt:¬ (L:Int)<(f:Int):=by omega
 have HST:=aW (λ (W3:World) hb=>eH (W1:=w) (W3:=W3) (X:=#[Zi Zq k,Zi Zq k1,Zi Zq n1,Zt s1,Zs A1 na1 ca1,Zs B1 nb1 cb1,Zt S,Zs A nk ca]) (O:=#[Zt T,Zi Zq k,Zi Zq L]) hW h1 h4 hb);have HKD:=aW (And.intro hcl hdk);have HLEN:=aW hlen;have HOP:=aW hop;clear hW hx hc hd hok hdk hv h1 h4 hcv hcl hS hnk hL hlen hck hsl h2 h3 hop hof htne hts hT hk;obtain ⟨c0,f0,l0⟩:=HH0.out.b0.rules;go_enter Tryz.func74,Tryz.ntmps74;go_upto_block 0 with (first
  | (go_at_call 112;refine (HLV.out _ HH0.out.1).mono ?_;rintro e w1 ⟨rfl,hb1⟩;obtain ⟨c1,f1,l1⟩:=(HH0.out.keep hb1).b0.rules)
  | (go_at_call 113;refine (HOF.out _ (HH0.out.1.trans (hb1.mono HH0.out.1.size))).mono ?_;rintro e w3 ⟨rfl,hb3⟩))
 have HS:=aW (HST.out _ (hb1.trans (hb3.mono hb1.size)));obtain ⟨W4,hW4⟩:∃ W',w3.alloc (.cells #[Zt T,Zi Zq k,Zi Zq L] 154)=W':=⟨_,rfl⟩
 rw [hW4] at HS ⊢;obtain ⟨bo,hbo⟩:∃ q,w3.heap.size=q:=⟨_,rfl⟩
 rw [hbo] at HS ⊢;obtain ⟨x0,x1,x2⟩:=HS.out.x.1.rules;obtain ⟨p0,p1,p2⟩:=HS.out.o.1.rules;clear c0 f0 l0 c1 f1 l1 hb1 hb3 HH0 hW4 hbo;rw [HLK.out] at HAL HL9;rw [HTS.out.2] at ⊢;have hl1:=HLEN.out;rw [aI,HTS.out.2] at hl1;have hnk1:nk=1:=by rw [← HNK.out,HY.out];rfl
 subst hnk1;have HP1:=aW (λ W row9 X9 O9 A9 c9 k9 (h:PS w W g row row9 st w.heap.size bo X9 O9 A9 c9 k9)=>h.put1 t W.heap.size rfl HTS.out.1 (by omega));rw [HTT.out] at HP1;have HAH:=aW (λ W=>oM T k (L:Int) W);rw [HAL.out] at HAH;go_wp2_with (first
  | (go_at_call 115;refine (HAH.out _).mono ?_;rintro e wa ⟨rfl,hba⟩;have hsa:=HS.out.bel hba;obtain ⟨x0,x1,x2⟩:=hsa.x.1.rules;obtain ⟨p0,p1,p2⟩:=hsa.o.1.rules)
  | (go_at_call 73;refine (HP1.out _ _ _ _ _ _ _ hsa).mono ?_;rintro e w5 ⟨rfl,row5,hs5⟩))
 have hl4:=cM st t;have hs6:=hs5.bel ((Below.refl _ _).drew);have HS6:=aW hs6;obtain ⟨b,o,k',k1',n1',s1',A1',na1',ca1',B1',nb1',cb1',s',A2',n2',ca2',rfl,hb,hER,hz⟩:=dp hs6.ks hs6.rd (i:=0) (x:=y) (by rw [HY.out];rfl);simp only [Nat.zero_mul,Nat.add_zero,Nat.one_mul] at hz;obtain ⟨z0,z1,z2,z3,z4,z5,z6,z7⟩:=hz _ af.refl;have HZ:=aW hz;have HE:=aW (ih y _ L _ g row5 _ _ hs6.wp hER (HKD.out.1 y (by rw [HY.out];simp)) (HKD.out.2 y (by rw [HY.out];simp)) (by have:=HL9.out;omega) (by omega));have q7:=hs6.x.1.cell 7;have q2:=hs6.o.1.cell 2;simp at q7 q2;clear hz hER HKD x0 x1 x2 p0 p1 p2 hs6;go_region_held3 (λ w'=>w'.cell? ⟨w.heap.size,7,none⟩=some (Zs (some ⟨b,o,none⟩) 1 ca)/\w'.cell? ⟨bo,2,none⟩=some (Zi Zq L)/\w'.cell? ⟨b,o,none⟩=some (Zi Zq k')/\w'.cell? ⟨b,o+1,none⟩=some (Zi Zq k1')/\w'.cell? ⟨b,o+2,none⟩=some (Zi Zq n1')/\w'.cell? ⟨b,o+3,none⟩=some (Zt s1')/\w'.cell? ⟨b,o+4,none⟩=some (Zs A1' na1' ca1')/\w'.cell? ⟨b,o+5,none⟩=some (Zs B1' nb1' cb1')/\w'.cell? ⟨b,o+6,none⟩=some (Zt s')/\w'.cell? ⟨b,o+7,none⟩=some (Zs A2' n2' ca2')) (go_keep) ((go_at_call 74;refine HE.out.mono ?_;intro e w7 hp;obtain ⟨rfl,row7,hs7,hk7⟩:=HS6.out.putM hp;obtain ⟨y0,y1,y2,y3,y4,y5,y6,y7⟩:=HZ.out _ hk7;have r7:=hs7.x.1.cell 7;have r2:=hs7.o.1.cell 2;simp at r7 r2));go_wp2;go_end0;exact hs7.fin
theorem yw (r:Nat) (ih:jy r):kD r (λ k=>11<=k/\k<=13):=by
 intro k v s kids cs f w g row n st hk hW hx hc hd hf hlen;have hop:=hk;obtain ⟨k1,n1,s1,A1,na1,ca1,B1,nb1,cb1,A,ca,css,rfl,hv,h1,h2,h3,h4⟩:=hx.out;have hc':=hc;unfold cj at hc';obtain ⟨_,hcv,hsl,hck,hcl⟩:=hc';have hcl:=bU.1 hcl;obtain ⟨_,hok,hdk⟩:=cD hd;have hdk:∀ x ∈ kids,bM r x≠0:=hdk;have hop9:dj v=true/\s=[]/\kids.length=2:=by
  unfold okX at hok;rw [if_neg (by omega)] at hok;split at hok
  ·cases hok
  ·rename_i hz9
   rw [if_neg (by omega),if_neg (by omega),if_neg (by omega)] at hok
   first
    | (simp only [decide_eq_true_eq] at hok;exact ⟨by simpa using hz9,hok⟩)
    | (rw [if_pos (by omega)] at hok;simp only [decide_eq_true_eq] at hok;exact ⟨by simpa using hz9,hok⟩)
    | (rw [if_neg (by omega),if_pos (by omega)] at hok;simp only [decide_eq_true_eq] at hok;exact ⟨by simpa using hz9,hok⟩)
 obtain ⟨_,_,hn1⟩:=hop9;have e1:(k == 1)=false:=by rw [beq_eq_false_iff_ne];omega
 have e2:(k == 2)=false:=by rw [beq_eq_false_iff_ne];omega
 have e3:(k == 3)=false:=by rw [beq_eq_false_iff_ne];omega
 have e4:(k == 4)=false:=by rw [beq_eq_false_iff_ne];omega
 obtain ⟨y,z,hy⟩:∃ y z,kids=[y,z]:=by
  match kids,hn1 with
  | [y,z],_=>exact ⟨y,z,rfl⟩
 have HF1:=aW (show tg (bt k)=5 by
  obtain rfl | rfl | rfl:k=11∨k=12∨k=13:=by omega
  all_goals rfl)
 have hbody:dE k v s (dW kids)=bI 5 y++opK k::bI (bt k+1) z:=by
  rw [hy];refine ((if_neg (by omega)).trans ((if_neg (by omega)).trans ((if_neg (by omega)).trans (if_neg (by omega))))).trans ?_;show fP (tg (bt k)) (jb y)++opK k::fP (bt k+1) (jb z)=_
  rw [HF1.out];rfl
 have HL9:=aW (show bt k<=8 by
  obtain rfl | rfl | rfl:k=11∨k=12∨k=13:=by omega
  all_goals decide)
 have HAL:=aW (show (decide (((bt k:Nat):Int)=3∨((bt k:Nat):Int)=7))=false by
  obtain rfl | rfl | rfl:k=11∨k=12∨k=13:=by omega
  all_goals rfl)
 have HL4:=aW (show (((bt k:Nat):Int) == 4)=true by
  obtain rfl | rfl | rfl:k=11∨k=12∨k=13:=by omega
  all_goals rfl)
 rw [hbody] at hlen ⊢;rw [ck,cI];have HY:=aW hy;clear hbody hn1 hy;obtain ⟨S,hS⟩:∃ S:ByteArray,⟨s.toArray⟩=S:=⟨_,rfl⟩
 rw [hS];have HSS:=aW hS;obtain ⟨nk,hnk⟩:∃ q,kids.length=q:=⟨_,rfl⟩
 rw [hnk];have HNK:=aW hnk;have HH0:=aW ((az.nil w).push 45 #[Zi Zq k,Zi Zq k1,Zi Zq n1,Zt s1,Zs A1 na1 ca1,Zs B1 nb1 cb1,Zt S,Zs A nk ca] (g:=w.heap.size) rfl);have HLV:=aW (λ W (h:Below w.heap.size w W)=>ij k k1 n1 s1 A1 na1 ca1 B1 nb1 cb1 S A nk ca W (hW.goe.keep h));have HOF:=aW (λ W (h:Below w.heap.size w W)=>eOf k W (hW.goe.keep h));unfold OfP at HOF;obtain ⟨t,hof,htne,hts⟩:=lm ⟨by omega,by omega⟩ (k:=k);rw [hof] at HOF;unfold cL at HOF;simp only at HOF;have HTS:=aW (And.intro htne hts);obtain ⟨T,hT⟩:∃ T:ByteArray,⟨t.toArray⟩=T:=⟨_,rfl⟩
 rw [hT] at HOF;have HTT:=aW hT;unfold oG at HLV;obtain ⟨L,hL⟩:∃ L,bt k=L:=⟨_,rfl⟩
 rw [hL] at hf HLV HOF hlen ⊢;have HLK:=aW hL;have hlt:¬ (L:Int)<(f:Int):=by omega
 have HST:=aW (λ (W3:World) hb=>eH (W1:=w) (W3:=W3) (X:=#[Zi Zq k,Zi Zq k1,Zi Zq n1,Zt s1,Zs A1 na1 ca1,Zs B1 nb1 cb1,Zt S,Zs A nk ca]) (O:=#[Zt T,Zi Zq k,Zi Zq L]) hW h1 h4 hb);have HKD:=aW (And.intro hcl hdk);have HLEN:=aW hlen;have HOP:=aW hop;clear hW hx hc hd hok hdk hv h1 h4 hcv hcl hS hnk hL hlen hck hsl h2 h3 hop hof htne hts hT hk;obtain ⟨c0,f0,l0⟩:=HH0.out.b0.rules;go_enter Tryz.func74,Tryz.ntmps74;go_upto_block 0 with (first
  | (go_at_call 112;refine (HLV.out _ HH0.out.1).mono ?_;rintro e w1 ⟨rfl,hb1⟩;obtain ⟨c1,f1,l1⟩:=(HH0.out.keep hb1).b0.rules)
  | (go_at_call 113;refine (HOF.out _ (HH0.out.1.trans (hb1.mono HH0.out.1.size))).mono ?_;rintro e w3 ⟨rfl,hb3⟩))
 have HS:=aW (HST.out _ (hb1.trans (hb3.mono hb1.size)));obtain ⟨W4,hW4⟩:∃ W',w3.alloc (.cells #[Zt T,Zi Zq k,Zi Zq L] 154)=W':=⟨_,rfl⟩
 rw [hW4] at HS ⊢;obtain ⟨bo,hbo⟩:∃ q,w3.heap.size=q:=⟨_,rfl⟩
 rw [hbo] at HS ⊢;obtain ⟨x0,x1,x2⟩:=HS.out.x.1.rules;obtain ⟨p0,p1,p2⟩:=HS.out.o.1.rules;clear c0 f0 l0 c1 f1 l1 hb1 hb3 HH0 hW4 hbo;rw [HLK.out] at HAL HL9 HL4;rw [HTS.out.2];obtain rfl:L=4:=by
  rw [← HLK.out];have hk9:=HOP.out;obtain rfl | rfl | rfl:k=11∨k=12∨k=13:=by omega
  all_goals rfl
 have hl1:=HLEN.out;rw [bB,aI,HTS.out.2] at hl1;have hnk1:nk=2:=by rw [← HNK.out,HY.out];rfl
 subst hnk1;have hL4:=HL4.out;have HP1:=aW (λ W row9 X9 O9 A9 c9 k9 (h:PS w W g row row9 (aE (bI 5 y) st) w.heap.size bo X9 O9 A9 c9 k9)=>h.put1 t W.heap.size rfl HTS.out.1 (by have:=a9 (bI 5 y) st;omega));rw [HTT.out] at HP1;have HAH:=aW (λ W=>oM T k (4:Int) W);have hal4:decide ((4:Int)=3∨(4:Int)=7)=false:=by decide
 rw [hal4] at HAH;have HE1:=aW (λ W' row9 X9 O9 A9 c9 cs (h:PS w W' g row row9 st w.heap.size bo X9 O9 A9 c9 kids) (hER:ER W' (PbM g row9 W') cs y)=>(ih y cs 5 W' g row9 _ st h.wp hER (HKD.out.1 y (by rw [HY.out];simp)) (HKD.out.2 y (by rw [HY.out];simp)) (by have:=HL9.out;omega) (by omega)).mono λ e W'' hq=>h.put hq);obtain ⟨b,o,k9,k19,n19,s19,A19,na19,ca19,B19,nb19,cb19,s9,A29,n29,ca29,rfl,hb,_,_⟩:=dp HS.out.ks HS.out.rd (i:=0) (x:=y) (by rw [HY.out];rfl);go_wp2_with (first
  | (go_at_call 115;refine (HAH.out _).mono ?_;rintro e wa ⟨rfl,hba⟩;have hsa:=HS.out.bel hba;obtain ⟨x0,x1,x2⟩:=hsa.x.1.rules;obtain ⟨p0,p1,p2⟩:=hsa.o.1.rules;obtain ⟨b9,o9,k9,k19,n19,s19,A19,na19,ca19,B19,nb19,cb19,s9,A29,n29,ca29,he9,hb9,hER9,hz9⟩:=dp hsa.ks hsa.rd (i:=0) (x:=y) (by rw [HY.out];rfl);simp only [Nat.zero_mul,Nat.add_zero] at hz9;injection he9 with he9;injection he9 with he9 he8;subst he9 he8;obtain ⟨z0,z1,z2,z3,z4,z5,z6,z7⟩:=hz9 _ af.refl;have HSA:=aW hsa;have HER9:=aW hER9;clear hz9 hER9)
  | (go_at_call 74;refine (HE1.out _ _ _ _ _ _ _ HSA.out HER9.out).mono ?_;rintro e w4 ⟨rfl,row4,hs4⟩;obtain ⟨v0,v1,v2⟩:=hs4.o.1.rules)
  | (go_at_call 73;refine (HP1.out _ _ _ _ _ _ _ hs4).mono ?_;rintro e w5 ⟨rfl,row5,hs5⟩))
 clear z0 z1 z2 z3 z4 z5 z6 z7 v0 v1 v2;have hl4:=cM (aE (bI 5 y) st) t;have hl5:=a9 (bI 5 y) st;have hs6:=hs5.bel ((Below.refl _ _).drew);have HS6:=aW hs6;obtain ⟨b,o,k',k1',n1',s1',A1',na1',ca1',B1',nb1',cb1',s',A2',n2',ca2',he,hb,hER,hz⟩:=dp hs6.ks hs6.rd (i:=1) (x:=z) (by rw [HY.out];rfl);simp only [Nat.zero_mul,Nat.add_zero,Nat.one_mul] at hz;injection he with he
 injection he with he he8
 subst he he8;obtain ⟨z0,z1,z2,z3,z4,z5,z6,z7⟩:=hz _ af.refl;have HZ:=aW hz;have HE:=aW (ih z _ (4+1) _ g row5 _ _ hs6.wp hER (HKD.out.1 z (by rw [HY.out];simp)) (HKD.out.2 z (by rw [HY.out];simp)) (by have:=HL9.out;omega) (by omega));have q7:=hs6.x.1.cell 7;have q2:=hs6.o.1.cell 2;simp at q7 q2;clear hz hER HKD x0 x1 x2 p0 p1 p2 hs6;have hcast:((4+1:Nat):Int)=5:=rfl;rw [hcast] at HE;go_region_held3 (λ w'=>w'.cell? ⟨w.heap.size,7,none⟩=some (Zs (some ⟨b,o,none⟩) 2 ca)/\w'.cell? ⟨bo,2,none⟩=some (Zi Zq 4)/\w'.cell? ⟨b,o+8,none⟩=some (Zi Zq k')/\w'.cell? ⟨b,o+8+1,none⟩=some (Zi Zq k1')/\w'.cell? ⟨b,o+8+2,none⟩=some (Zi Zq n1')/\w'.cell? ⟨b,o+8+3,none⟩=some (Zt s1')/\w'.cell? ⟨b,o+8+4,none⟩=some (Zs A1' na1' ca1')/\w'.cell? ⟨b,o+8+5,none⟩=some (Zs B1' nb1' cb1')/\w'.cell? ⟨b,o+8+6,none⟩=some (Zt s')/\w'.cell? ⟨b,o+8+7,none⟩=some (Zs A2' n2' ca2')) (go_keep) ((go_at_call 74;refine HE.out.mono ?_;intro e w7 hp;obtain ⟨rfl,row7,hs7,hk7⟩:=HS6.out.putM hp;obtain ⟨y0,y1,y2,y3,y4,y5,y6,y7⟩:=HZ.out _ hk7;have r7:=hs7.x.1.cell 7;have r2:=hs7.o.1.cell 2;simp at r7 r2));go_wp2;go_end0;exact hs7.fin
theorem yx (L:Nat) (hL9:L=1∨L=2∨L=5∨L=6) (r:Nat) (ih:jy r):kD r (λ k=>bt k=L/\8<=k/\k<=15):=by
 intro k v s kids cs f w g row n st hk hW hx hc hd hf hlen;have hop:=hk;obtain ⟨k1,n1,s1,A1,na1,ca1,B1,nb1,cb1,A,ca,css,rfl,hv,h1,h2,h3,h4⟩:=hx.out;have hc':=hc;unfold cj at hc';obtain ⟨_,hcv,hsl,hck,hcl⟩:=hc';have hcl:=bU.1 hcl;obtain ⟨_,hok,hdk⟩:=cD hd;have hdk:∀ x ∈ kids,bM r x≠0:=hdk;have hop9:dj v=true/\s=[]/\kids.length=2:=by
  unfold okX at hok;rw [if_neg (by omega)] at hok;split at hok
  ·cases hok
  ·rename_i hz9
   rw [if_neg (by omega),if_neg (by omega),if_neg (by omega)] at hok
   first
    | (simp only [decide_eq_true_eq] at hok;exact ⟨by simpa using hz9,hok⟩)
    | (rw [if_pos (by omega)] at hok;simp only [decide_eq_true_eq] at hok;exact ⟨by simpa using hz9,hok⟩)
    | (rw [if_neg (by omega),if_pos (by omega)] at hok;simp only [decide_eq_true_eq] at hok;exact ⟨by simpa using hz9,hok⟩)
 obtain ⟨_,_,hn1⟩:=hop9;have e1:(k == 1)=false:=by rw [beq_eq_false_iff_ne];omega
 have e2:(k == 2)=false:=by rw [beq_eq_false_iff_ne];omega
 have e3:(k == 3)=false:=by rw [beq_eq_false_iff_ne];omega
 have e4:(k == 4)=false:=by rw [beq_eq_false_iff_ne];omega
 obtain ⟨y,z,hy⟩:∃ y z,kids=[y,z]:=by
  match kids,hn1 with
  | [y,z],_=>exact ⟨y,z,rfl⟩
 have hkL:=hk.1;have HF1:=aW (show tg (bt k)=L by rw [hkL];rcases hL9 with rfl | rfl | rfl | rfl<;>rfl);have hbody:dE k v s (dW kids)=bI L y++opK k::bI (bt k+1) z:=by
  rw [hy];refine ((if_neg (by omega)).trans ((if_neg (by omega)).trans ((if_neg (by omega)).trans (if_neg (by omega))))).trans ?_;show fP (tg (bt k)) (jb y)++opK k::fP (bt k+1) (jb z)=_
  rw [HF1.out];rfl
 have HL9:=aW (show bt k<=8 by rw [hkL];omega);have HAL:=aW (show (decide (((bt k:Nat):Int)=3∨((bt k:Nat):Int)=7))=false by rw [hkL];exact decide_eq_false (by omega));have HL4:=aW (show (((bt k:Nat):Int) == 4)=false by rw [hkL,beq_eq_false_iff_ne];omega);rw [hbody] at hlen ⊢;rw [ck,cI];have HY:=aW hy;clear hbody hn1 hy;obtain ⟨S,hS⟩:∃ S:ByteArray,⟨s.toArray⟩=S:=⟨_,rfl⟩
 rw [hS];have HSS:=aW hS;obtain ⟨nk,hnk⟩:∃ q,kids.length=q:=⟨_,rfl⟩
 rw [hnk];have HNK:=aW hnk;have HH0:=aW ((az.nil w).push 45 #[Zi Zq k,Zi Zq k1,Zi Zq n1,Zt s1,Zs A1 na1 ca1,Zs B1 nb1 cb1,Zt S,Zs A nk ca] (g:=w.heap.size) rfl);have HLV:=aW (λ W (h:Below w.heap.size w W)=>ij k k1 n1 s1 A1 na1 ca1 B1 nb1 cb1 S A nk ca W (hW.goe.keep h));have HOF:=aW (λ W (h:Below w.heap.size w W)=>eOf k W (hW.goe.keep h));unfold OfP at HOF;obtain ⟨t,hof,htne,hts⟩:=lm ⟨by omega,by omega⟩ (k:=k);rw [hof] at HOF;unfold cL at HOF;simp only at HOF;have HTS:=aW (And.intro htne hts);obtain ⟨T,hT⟩:∃ T:ByteArray,⟨t.toArray⟩=T:=⟨_,rfl⟩
 rw [hT] at HOF;have HTT:=aW hT;unfold oG at HLV;have hL:=hkL;rw [hL] at hf HLV HOF hlen ⊢;have HLK:=aW hL;have hlt:¬ (L:Int)<(f:Int):=by omega
 have HST:=aW (λ (W3:World) hb=>eH (W1:=w) (W3:=W3) (X:=#[Zi Zq k,Zi Zq k1,Zi Zq n1,Zt s1,Zs A1 na1 ca1,Zs B1 nb1 cb1,Zt S,Zs A nk ca]) (O:=#[Zt T,Zi Zq k,Zi Zq L]) hW h1 h4 hb);have HKD:=aW (And.intro hcl hdk);have HLEN:=aW hlen;have HOP:=aW hop;clear hW hx hc hd hok hdk hv h1 h4 hcv hcl hS hnk hL hlen hck hsl h2 h3 hop hof htne hts hT hk;obtain ⟨c0,f0,l0⟩:=HH0.out.b0.rules;go_enter Tryz.func74,Tryz.ntmps74;go_upto_block 0 with (first
  | (go_at_call 112;refine (HLV.out _ HH0.out.1).mono ?_;rintro e w1 ⟨rfl,hb1⟩;obtain ⟨c1,f1,l1⟩:=(HH0.out.keep hb1).b0.rules)
  | (go_at_call 113;refine (HOF.out _ (HH0.out.1.trans (hb1.mono HH0.out.1.size))).mono ?_;rintro e w3 ⟨rfl,hb3⟩))
 have HS:=aW (HST.out _ (hb1.trans (hb3.mono hb1.size)));obtain ⟨W4,hW4⟩:∃ W',w3.alloc (.cells #[Zt T,Zi Zq k,Zi Zq L] 154)=W':=⟨_,rfl⟩
 rw [hW4] at HS ⊢;obtain ⟨bo,hbo⟩:∃ q,w3.heap.size=q:=⟨_,rfl⟩
 rw [hbo] at HS ⊢;obtain ⟨x0,x1,x2⟩:=HS.out.x.1.rules;obtain ⟨p0,p1,p2⟩:=HS.out.o.1.rules;clear c0 f0 l0 c1 f1 l1 hb1 hb3 HH0 hW4 hbo;rw [HLK.out] at HAL HL9 HL4;rw [HTS.out.2];have hl1:=HLEN.out;rw [bB,aI,HTS.out.2] at hl1;have hnk1:nk=2:=by rw [← HNK.out,HY.out];rfl
 subst hnk1;have hL4:=HL4.out;have HP1:=aW (λ W row9 X9 O9 A9 c9 k9 (h:PS w W g row row9 (aE (bI L y) st) w.heap.size bo X9 O9 A9 c9 k9)=>h.put1 t W.heap.size rfl HTS.out.1 (by have:=a9 (bI L y) st;omega));rw [HTT.out] at HP1;have HAH:=aW (λ W=>oM T k (L:Int) W);have hal4:decide ((L:Int)=3∨(L:Int)=7)=false:=decide_eq_false (by omega);rw [hal4] at HAH;have HE1:=aW (λ W' row9 X9 O9 A9 c9 cs (h:PS w W' g row row9 st w.heap.size bo X9 O9 A9 c9 kids) (hER:ER W' (PbM g row9 W') cs y)=>(ih y cs L W' g row9 _ st h.wp hER (HKD.out.1 y (by rw [HY.out];simp)) (HKD.out.2 y (by rw [HY.out];simp)) (by have:=HL9.out;omega) (by omega)).mono λ e W'' hq=>h.put hq);obtain ⟨b,o,k9,k19,n19,s19,A19,na19,ca19,B19,nb19,cb19,s9,A29,n29,ca29,rfl,hb,_,_⟩:=dp HS.out.ks HS.out.rd (i:=0) (x:=y) (by rw [HY.out];rfl);go_wp2_with (first
  | (go_at_call 115;refine (HAH.out _).mono ?_;rintro e wa ⟨rfl,hba⟩;have hsa:=HS.out.bel hba;obtain ⟨x0,x1,x2⟩:=hsa.x.1.rules;obtain ⟨p0,p1,p2⟩:=hsa.o.1.rules;obtain ⟨b9,o9,k9,k19,n19,s19,A19,na19,ca19,B19,nb19,cb19,s9,A29,n29,ca29,he9,hb9,hER9,hz9⟩:=dp hsa.ks hsa.rd (i:=0) (x:=y) (by rw [HY.out];rfl);simp only [Nat.zero_mul,Nat.add_zero] at hz9;injection he9 with he9;injection he9 with he9 he8;subst he9 he8;obtain ⟨z0,z1,z2,z3,z4,z5,z6,z7⟩:=hz9 _ af.refl;have HSA:=aW hsa;have HER9:=aW hER9;clear hz9 hER9)
  | (go_at_call 74;refine (HE1.out _ _ _ _ _ _ _ HSA.out HER9.out).mono ?_;rintro e w4 ⟨rfl,row4,hs4⟩;obtain ⟨v0,v1,v2⟩:=hs4.o.1.rules)
  | (go_at_call 73;refine (HP1.out _ _ _ _ _ _ _ hs4).mono ?_;rintro e w5 ⟨rfl,row5,hs5⟩))
 clear z0 z1 z2 z3 z4 z5 z6 z7 v0 v1 v2;have hl4:=cM (aE (bI L y) st) t;have hl5:=a9 (bI L y) st;have hs6:=hs5.bel ((Below.refl _ _).drew);have HS6:=aW hs6;obtain ⟨b,o,k',k1',n1',s1',A1',na1',ca1',B1',nb1',cb1',s',A2',n2',ca2',he,hb,hER,hz⟩:=dp hs6.ks hs6.rd (i:=1) (x:=z) (by rw [HY.out];rfl);simp only [Nat.zero_mul,Nat.add_zero,Nat.one_mul] at hz;injection he with he
 injection he with he he8
 subst he he8;obtain ⟨z0,z1,z2,z3,z4,z5,z6,z7⟩:=hz _ af.refl;have HZ:=aW hz;have HE:=aW (ih z _ (L+1) _ g row5 _ _ hs6.wp hER (HKD.out.1 z (by rw [HY.out];simp)) (HKD.out.2 z (by rw [HY.out];simp)) (by have:=HL9.out;omega) (by omega));have q7:=hs6.x.1.cell 7;have q2:=hs6.o.1.cell 2;simp at q7 q2;clear hz hER HKD x0 x1 x2 p0 p1 p2 hs6;have hcast:((L+1:Nat):Int)=(L:Int)+1:=rfl;have hwr:IntKind.i64.wrap ((L:Int)+1)=(L:Int)+1:=by rw [IntKind.wrap_i64];omega
 rw [hcast] at HE;go_region_held3 (λ w'=>w'.cell? ⟨w.heap.size,7,none⟩=some (Zs (some ⟨b,o,none⟩) 2 ca)/\w'.cell? ⟨bo,2,none⟩=some (Zi Zq (L:Int))/\w'.cell? ⟨b,o+8,none⟩=some (Zi Zq k')/\w'.cell? ⟨b,o+8+1,none⟩=some (Zi Zq k1')/\w'.cell? ⟨b,o+8+2,none⟩=some (Zi Zq n1')/\w'.cell? ⟨b,o+8+3,none⟩=some (Zt s1')/\w'.cell? ⟨b,o+8+4,none⟩=some (Zs A1' na1' ca1')/\w'.cell? ⟨b,o+8+5,none⟩=some (Zs B1' nb1' cb1')/\w'.cell? ⟨b,o+8+6,none⟩=some (Zt s')/\w'.cell? ⟨b,o+8+7,none⟩=some (Zs A2' n2' ca2')) (go_keep) ((go_at_call 74;refine HE.out.mono ?_;intro e w7 hp;obtain ⟨rfl,row7,hs7,hk7⟩:=HS6.out.putM hp;obtain ⟨y0,y1,y2,y3,y4,y5,y6,y7⟩:=HZ.out _ hk7;have r7:=hs7.x.1.cell 7;have r2:=hs7.o.1.cell 2;simp at r7 r2));go_wp2;go_end0;exact hs7.fin
theorem jm:∀ (l m:List (List LX)),l≠[]->m≠[]->de (l++m)=de l++aK [44]::de m
 | [],_,h,_=>absurd rfl h
 | [a],b::m,_,_=>rfl
 | [_],[],_,h=>absurd rfl h
 |a::b::r,m,_,h=>by
  show a++aK [44]::de (b::r++m)=_
  rw [jm (b::r) m (by simp) h];show _=(a++aK [44]::de (b::r))++_
  simp
theorem qN (l:List (List LX)) (a:List LX):de (l++[a])=if l=[] then a else de l++aK [44]::a:=by
 by_cases h:l=[]
 ·rw [if_pos h,h];rfl
 ·rw [if_neg h,jm l [a] h (by simp)];rfl
theorem qO (l:List (List LX)) (j:Nat):dY (de (l.take j))<=dY (de l):=by
 by_cases h1:l.take j=[]
 ·rw [h1];show 0<=_;omega
 by_cases h2:l.drop j=[]
 ·have h:=List.take_append_drop j l;rw [h2,List.append_nil] at h;rw [h];exact Nat.le_refl _
 ·have h:=jm _ _ h1 h2;rw [List.take_append_drop] at h;rw [h,bB];omega
theorem PS.putG {w W W':World} {g:Nat} {row0 row:Value} {st st':List UInt8 × Bool} {bx bo:Nat} {X O:Array Value} {A:Option Addr} {css:List (List Value)} {kids:List EJ} (h:PS w W g row0 row st bx bo X O A css kids) {e:Ending} (hp:gJ g row st' W e W'):e=.returned (.tuple #[])/\∃ row',PS w W' g row0 row' st' bx bo X O A css kids/\MG g row W row' W':=by
 obtain ⟨rfl,row',n',h1,h2⟩:=hp;have hn:=h1.own.1;subst hn;exact ⟨rfl,row',h.step h2 h1,h2⟩
def cG (kids:List EJ) (i:Nat):List LX:=aK [91]::de ((kids.take i).map (bI 1))
theorem tr {kids:List EJ} {y:EJ} (h:kids[0]? = some y):cG kids (0+1)=cG kids 0++bI 1 y:=by
 unfold cG;rw [List.take_add_one,h];rfl
theorem ru {kids:List EJ} {i:Nat} {y:EJ} (h:kids[i+1]? = some y):cG kids (i+1+1)=cG kids (i+1)++aK [44]::bI 1 y:=by
 unfold cG;rw [List.take_add_one (i:=i+1),h];show _::de ((kids.take (i+1)++[y]).map (bI 1))=_
 rw [List.map_append];show _::de (_++[bI 1 y])=_
 rw [qN,if_neg]
 ·rfl
 ·intro e;have:=congrArg List.length e;have h9:=(List.getElem?_eq_some_iff.1 h).1;simp at this;rw [this] at h9;exact absurd h9 (Nat.not_lt_zero _)
theorem tp (kids:List EJ) (i:Nat):dY (cG kids i)<=dY (aK [91]::de (kids.map (bI 1))):=by
 unfold cG;rw [aI,aI,List.map_take];have:=qO (kids.map (bI 1)) i;omega
theorem yy (r:Nat) (ih:jy r):kD r (λ k=>k=4):=by
 intro k v s kids cs f w g row n st hk hW hx hc hd hf hlen;subst hk;obtain ⟨k1,n1,s1,A1,na1,ca1,B1,nb1,cb1,A,ca,css,rfl,hv,h1,h2,h3,h4⟩:=hx.out;have hc':=hc;unfold cj at hc';obtain ⟨_,hcv,hsl,hck,hcl⟩:=hc';have hcl:=bU.1 hcl;obtain ⟨_,hok,hdk⟩:=cD hd;have hdk:∀ x ∈ kids,bM r x≠0:=hdk;have HCK:=aW hck;have hbody:dE 4 v s (dW kids)=cG kids kids.length++[aK [93]]:=by
  rw [kA];refine ((if_neg (by decide)).trans ((if_neg (by decide)).trans ((if_neg (by decide)).trans (if_pos rfl)))).trans ?_;unfold cG;rw [List.take_length,List.map_map];rfl
 rw [hbody] at hlen ⊢;rw [ck];clear hbody;obtain ⟨S,hS⟩:∃ S:ByteArray,⟨s.toArray⟩=S:=⟨_,rfl⟩
 rw [hS];have HSS:=aW hS;obtain ⟨nk,hnk⟩:∃ q,kids.length=q:=⟨_,rfl⟩
 rw [hnk];have HNK:=aW hnk;have HH0:=aW ((az.nil w).push 45 #[Zi Zq 4,Zi Zq k1,Zi Zq n1,Zt s1,Zs A1 na1 ca1,Zs B1 nb1 cb1,Zt S,Zs A nk ca] (g:=w.heap.size) rfl);have HLV:=aW (λ W (h:Below w.heap.size w W)=>ij 4 k1 n1 s1 A1 na1 ca1 B1 nb1 cb1 S A nk ca W (hW.goe.keep h));have HOF:=aW (λ W (h:Below w.heap.size w W)=>eOf 4 W (hW.goe.keep h));unfold OfP at HOF;rw [ki (by omega)] at HOF;unfold cL fB at HOF;simp only at HOF;unfold oG at HLV;obtain ⟨L,hL⟩:∃ L,bt 4=L:=⟨_,rfl⟩
 rw [hL] at hf HLV;have HLK:=aW hL;have hlt:¬ (L:Int)<(f:Int):=by omega
 have HST:=aW (λ (W3:World) hb=>eH (W1:=w) (W3:=W3) (X:=#[Zi Zq 4,Zi Zq k1,Zi Zq n1,Zt s1,Zs A1 na1 ca1,Zs B1 nb1 cb1,Zt S,Zs A nk ca]) (O:=#[Zt ⟨#[]⟩,Zi Zq 0,Zi Zq 0]) hW h1 h4 hb);have HKD:=aW (And.intro hcl hdk);have HLEN:=aW hlen;have HOP:=aW trivial;clear hW hx hc hd hok hdk hv h1 h4 hcv hcl hS hnk hL hlen hck hsl h2 h3;obtain ⟨c0,f0,l0⟩:=HH0.out.b0.rules;go_enter Tryz.func74,Tryz.ntmps74;go_upto_block 0 with (first
  | (go_at_call 112;refine (HLV.out _ HH0.out.1).mono ?_;rintro e w1 ⟨rfl,hb1⟩;obtain ⟨c1,f1,l1⟩:=(HH0.out.keep hb1).b0.rules)
  | (go_at_call 113;refine (HOF.out _ (HH0.out.1.trans (hb1.mono HH0.out.1.size))).mono ?_;rintro e w3 ⟨rfl,hb3⟩))
 have HS:=aW (HST.out _ (hb1.trans (hb3.mono hb1.size)));obtain ⟨W4,hW4⟩:∃ W',w3.alloc (.cells #[Zt ⟨#[]⟩,Zi Zq 0,Zi Zq 0] 154)=W':=⟨_,rfl⟩
 rw [hW4] at HS ⊢;obtain ⟨bo,hbo⟩:∃ q,w3.heap.size=q:=⟨_,rfl⟩
 rw [hbo] at HS ⊢;obtain ⟨x0,x1,x2⟩:=HS.out.x.1.rules;obtain ⟨p0,p1,p2⟩:=HS.out.o.1.rules;clear c0 f0 l0 c1 f1 l1 hb1 hb3 HH0 hW4 hbo;rw [HNK.out] at HLEN HCK;have hl1:=HLEN.out;rw [bB,aI,dH] at hl1;have hl2:(bF (aK [93])).length=1:=rfl;have HLI:=aW (show ∀ i,i<=nk->dY (cG kids i)<=dY (cG kids nk) from λ i _=>by
  have h1:=tp kids i;have h2:cG kids nk=aK [91]::de (kids.map (bI 1)):=by unfold cG;rw [List.take_of_length_le (Nat.le_of_eq HNK.out)]
  rw [h2];exact h1)
 have HLN:=aW (show st.1.length+(dY (cG kids nk)+2)<=100000000000 by omega);have hl0:st.1.length+(1+1)<=100000000000:=by omega
 have HP0:=aW (HS.out.put1 [91] W4.heap.size rfl (by simp) hl0);clear hl1 hl2 hl0;go_wp2_with (go_at_call 73;refine HP0.out.mono ?_;rintro e w5 ⟨rfl,row5,hs5⟩;obtain ⟨v0,v1,v2⟩:=hs5.x.1.rules);have HS5:=aW hs5;clear v0 v1 v2 hs5 x0 x1 x2 p0 p1 p2 HP0;go_loopg [7,8,95] nk (λ gk s7 s8 s95 wr => ∃ (i:Nat) (row':Value),i<=nk/\gk=nk-i/\s95=Zi Zq (i:Int)/\Hid (PS w wr g row row' (aE (cG kids i) st) w.heap.size bo #[Zi Zq 4,Zi Zq k1,Zi Zq n1,Zt s1,Zs A1 na1 ca1,Zs B1 nb1 cb1,Zt S,Zs A nk ca] #[Zt ⟨#[]⟩,Zi Zq 0,Zi Zq 0] A css kids))
 case atStart=>exact ⟨0,row5,Nat.zero_le _,rfl,rfl,HS5⟩
 case round =>
  obtain ⟨i,row1,hik,hgk,rfl,HS1⟩:=hrel;have HGK:=aW hgk;clear hgk HS5;by_cases hlt:i<nk
  ·obtain ⟨y,hy⟩:∃ y,kids[i]? = some y:=⟨_,List.getElem?_eq_getElem (by rw [HNK.out];exact hlt)⟩
   have hym:=List.mem_of_getElem? hy;have HYC:=aW (And.intro (HKD.out.1 y hym) (HKD.out.2 y hym));obtain ⟨b,o,k',k1',n1',s1',A1',na1',ca1',B1',nb1',cb1',s',A2',n2',ca2',rfl,hb,hER,hz⟩:=dp HS1.out.ks HS1.out.rd hy;obtain ⟨z0,z1,z2,z3,z4,z5,z6,z7⟩:=hz _ af.refl;have hba:=(Below.refl wr.heap.size wr).alloc (Nat.le_refl _) (.cells ([Zi Zq k',Zi Zq k1',Zi Zq n1',Zt s1',Zs A1' na1' ca1',Zs B1' nb1' cb1',Zt s',Zs A2' n2' ca2']).toArray 45);have HS8:=aW (HS1.out.bel hba);have HB8:=aW (And.intro (PB.new HS1.out.wp ([Zi Zq k',Zi Zq k1',Zi Zq n1',Zt s1',Zs A1' na1' ca1',Zs B1' nb1' cb1',Zt s',Zs A2' n2' ca2']).toArray 45) (hER.mg (MG.bel (mb:=g) (a:=row1) hba)));have hfl:=a9 (cG kids i) st;have hli:=HLI.out i hik;clear hz hER hym hba;by_cases hi0:i=0
   ·have h0i:¬ (0:Int)<(i:Int):=by omega
    have HT:=aW (show cG kids (i+1)=cG kids i++bI 1 y by rw [hi0] at hy ⊢;exact tr hy);have HI0:=aW hi0;clear hi0;have h9:=HLI.out (i+1) hlt;rw [HT.out,bB] at h9;have hm9:=HLN.out;have HE:=aW (ih y _ 1 _ g row1 _ _ HS8.out.wp HB8.out.2 HYC.out.1 HYC.out.2 (by decide) (by omega));clear h9 hfl hli hy hm9;go_wp2_with (go_at_call 74;refine HE.out.mono ?_;intro e w9 hp;obtain ⟨rfl,row9,hs9,hm9⟩:=HS8.out.putG hp);have HS9:=aW (show PS w w9 g row row9 (aE (cG kids (i+1)) st) w.heap.size bo _ _ _ _ _ by rw [HT.out,ck];exact hs9);go_roundg (nk-(i+1))
    case measure=>have:=HGK.out;omega
    case rel=>exact ⟨i+1,row9,hlt,rfl,by go_num,HS9⟩
   ·have h0i:(0:Int)<(i:Int):=by omega
    have hi9:i<=4194304:=Nat.le_trans hik HCK.out;have HT:=aW (show cG kids (i+1)=cG kids i++aK [44]::bI 1 y by
     obtain ⟨m,rfl⟩:∃ m,i=m+1:=⟨i-1,by omega⟩
     exact ru hy)
    have h9:=HLI.out (i+1) hlt;rw [HT.out,bB,aI] at h9;have h8:(bF (aK [44])).length=1:=rfl;have hm9:=HLN.out;have hpl:=cM (aE (cG kids (i)) st) [44];simp only [List.length_cons,List.length_nil] at hpl;have HP1:=aW (λ W p (hp:p=W.heap.size) (h:WP W g row1 (aE (cG kids (i)) st).1.length (aE (cG kids (i)) st).1 (aE (cG kids (i)) st).2)=>iC [44] W p g row1 _ _ _ h hp (by simp) (by simp only [List.length_cons,List.length_nil];omega));have HE:=aW (λ W' row' X9 O9 A9 c9 k9 (h:PS w W' g row row' (a6 (aE (cG kids (i)) st) [44]) w.heap.size bo X9 O9 A9 c9 k9) (hER:ER W' (PbM g row' W') [Zi Zq k',Zi Zq k1',Zi Zq n1',Zt s1',Zs A1' na1' ca1',Zs B1' nb1' cb1',Zt s',Zs A2' n2' ca2'] y)=>ih y _ 1 W' g row' _ _ h.wp hER HYC.out.1 HYC.out.2 (by decide) (by omega));clear h9 h8 hfl hli hy hpl hm9;go_wp2_with (first
     | (go_at_call 73;refine (HP1.out _ _ (by simp) HS8.out.wp).mono ?_;intro e w6 hp;obtain ⟨rfl,row6,hs6,hm6⟩:=HS8.out.putG hp;have hb6:=HB8.out.1.mg hm6;have HE6:=aW (HE.out _ _ _ _ _ _ _ hs6 (HB8.out.2.mg hm6));obtain ⟨q0,q1,q2⟩:=hb6.1.rules)
     | (go_at_call 74;refine HE6.out.mono ?_;intro e w9 hp;obtain ⟨rfl,row9,hs9,hm9⟩:=hs6.putG hp))
    have HS9:=aW (show PS w w9 g row row9 (aE (cG kids (i+1)) st) w.heap.size bo _ _ _ _ _ by rw [HT.out,ck,cI];exact hs9);go_roundg (nk-(i+1))
    case measure=>have:=HGK.out;omega
    case rel=>exact ⟨i+1,row9,hlt,rfl,by go_num,HS9⟩
  ·obtain rfl:i=nk:=by omega
   have hfl:=a9 (cG kids i) st;have hm9:=HLN.out;have HP9:=aW (HS1.out.put1 [93] wr.heap.size rfl (by simp) (by simp only [List.length_cons,List.length_nil];omega));clear hfl hm9;go_wp2_with (go_at_call 73;refine HP9.out.mono ?_;rintro e w6 ⟨rfl,row6,hs6⟩);go_end0;exact hs6.fin
end
end Go.Proofs.YtgmnmnnoahdjnaaGreatDoor
