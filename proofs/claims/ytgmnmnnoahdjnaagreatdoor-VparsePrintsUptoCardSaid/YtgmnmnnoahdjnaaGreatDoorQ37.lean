import Derived.Test.YtgmnmnnoahdjnaaGreatDoorQ32
open Go.Value renaming int → Zi, slice → Zs, string → Zt, pointer → Zp
open Go.IntKind renaming i64 → Zq
set_option maxRecDepth 100000
set_option maxHeartbeats 16000000
set_option linter.unusedVariables false
set_option linter.unusedSimpArgs false
namespace Go.Proofs.YtgmnmnnoahdjnaaGreatDoor
section
open Go.RowKit
attribute [local go_sem] aa ac ae ab
theorem zF (r:Nat) (ih:ia r):ii r (λ k=>11<=k/\k<=13):=by
 intro k v s kids cs f w g row n st hk hW hx hc hd hf hlen;have hop:=hk;obtain ⟨k1,n1,s1,A1,na1,ca1,B1,nb1,cb1,A,ca,css,rfl,hv,h1,h2,h3,h4⟩:=hx.out;have hc':=hc;unfold bh at hc';obtain ⟨_,hcv,hsl,hck,hcl⟩:=hc';have hcl:=aK.1 hcl;obtain ⟨_,hok,hdk⟩:=aR hd;have hdk:∀ x ∈ kids,bj r x≠0:=hdk;have hop9:cV v=true/\s=[]/\kids.length=2:=by
  unfold okX at hok;rw [if_neg (by omega)] at hok;split at hok
  ·cases hok
  ·rename_i hz9
   rw [if_neg (by omega),if_neg (by omega),if_neg (by omega)] at hok
   first
    | (simp only [decide_eq_true_eq] at hok;exact ⟨by simpa using hz9,hok⟩)
    | (rw [if_pos (by omega)] at hok;simp only [decide_eq_true_eq] at hok;exact ⟨by simpa using hz9,hok⟩)
    | (rw [if_neg (by omega),if_pos (by omega)] at hok;simp only [decide_eq_true_eq] at hok;exact ⟨by simpa using hz9,hok⟩)
 obtain ⟨_,_,hn1⟩:=hop9;have e1:(k == 1)=false:=by rw [beq_eq_false_iff_ne];omega
 have e2:(k == 2)=false:=by rw [beq_eq_false_iff_ne];omega
 have e3:(k == 3)=false:=by rw [beq_eq_false_iff_ne];omega
 have e4:(k == 4)=false:=by rw [beq_eq_false_iff_ne];omega
 obtain ⟨y,z,hy⟩:∃ y z,kids=[y,z]:=by
  match kids,hn1 with
  | [y,z],_=>exact ⟨y,z,rfl⟩
 have HF1:=aW (show gP (ay k)=5 by
  obtain rfl | rfl | rfl:k=11∨k=12∨k=13:=by omega
  all_goals rfl)
 have hbody:bK k v s (bR kids)=az 5 y++opK k::az (ay k+1) z:=by
  rw [hy];refine ((if_neg (by omega)).trans ((if_neg (by omega)).trans ((if_neg (by omega)).trans (if_neg (by omega))))).trans ?_;show cU (gP (ay k)) (bM y)++opK k::cU (ay k+1) (bM z)=_
  rw [HF1.out];rfl
 have HL9:=aW (show ay k<=8 by
  obtain rfl | rfl | rfl:k=11∨k=12∨k=13:=by omega
  all_goals decide)
 have HAL:=aW (show (decide (((ay k:Nat):Int)=3∨((ay k:Nat):Int)=7))=false by
  obtain rfl | rfl | rfl:k=11∨k=12∨k=13:=by omega
  all_goals rfl)
 have HL4:=aW (show (((ay k:Nat):Int) == 4)=true by
  obtain rfl | rfl | rfl:k=11∨k=12∨k=13:=by omega
  all_goals rfl)
 rw [hbody] at hlen ⊢;rw [bP,bU];have HY:=aW hy;clear hbody hn1 hy;obtain ⟨S,hS⟩:∃ S:ByteArray,⟨s.toArray⟩=S:=⟨_,rfl⟩
 rw [hS];have HSS:=aW hS;obtain ⟨nk,hnk⟩:∃ q,kids.length=q:=⟨_,rfl⟩
 rw [hnk];have HNK:=aW hnk;have HH0:=aW ((aH.nil w).push 45 #[Zi Zq k,Zi Zq k1,Zi Zq n1,Zt s1,Zs A1 na1 ca1,Zs B1 nb1 cb1,Zt S,Zs A nk ca] (g:=w.heap.size) rfl);have HLV:=aW (λ W (h:Below w.heap.size w W)=>fs k k1 n1 s1 A1 na1 ca1 B1 nb1 cb1 S A nk ca W (hW.goe.keep h));have HOF:=aW (λ W (h:Below w.heap.size w W)=>eOf k W (hW.goe.keep h));unfold OfP at HOF;obtain ⟨t,hof,htne,hts⟩:=gS ⟨by omega,by omega⟩ (k:=k);rw [hof] at HOF;unfold cx at HOF;simp only at HOF;have HTS:=aW (And.intro htne hts);obtain ⟨T,hT⟩:∃ T:ByteArray,⟨t.toArray⟩=T:=⟨_,rfl⟩
 rw [hT] at HOF;have HTT:=aW hT;unfold lC at HLV;obtain ⟨L,hL⟩:∃ L,ay k=L:=⟨_,rfl⟩
 rw [hL] at hf HLV HOF hlen ⊢;have HLK:=aW hL;have hlt:¬ (L:Int)<(f:Int):=by omega
 have HST:=aW (λ (W3:World) hb=>dx (W1:=w) (W3:=W3) (X:=#[Zi Zq k,Zi Zq k1,Zi Zq n1,Zt s1,Zs A1 na1 ca1,Zs B1 nb1 cb1,Zt S,Zs A nk ca]) (O:=#[Zt T,Zi Zq k,Zi Zq L]) hW h1 h4 hb);have HKD:=aW (And.intro hcl hdk);have HLEN:=aW hlen;have HOP:=aW hop;clear hW hx hc hd hok hdk hv h1 h4 hcv hcl hS hnk hL hlen hck hsl h2 h3 hop hof htne hts hT hk;obtain ⟨c0,f0,l0⟩:=HH0.out.b0.rules;go_enter Tryz.func74,Tryz.ntmps74;go_upto_block 0 with (first
  | (go_at_call 112;refine (HLV.out _ HH0.out.1).mono ?_;rintro e w1 ⟨rfl,hb1⟩;obtain ⟨c1,f1,l1⟩:=(HH0.out.keep hb1).b0.rules)
  | (go_at_call 113;refine (HOF.out _ (HH0.out.1.trans (hb1.mono HH0.out.1.size))).mono ?_;rintro e w3 ⟨rfl,hb3⟩))
 have HS:=aW (HST.out _ (hb1.trans (hb3.mono hb1.size)));obtain ⟨W4,hW4⟩:∃ W',w3.alloc (.cells #[Zt T,Zi Zq k,Zi Zq L] 154)=W':=⟨_,rfl⟩
 rw [hW4] at HS ⊢;obtain ⟨bo,hbo⟩:∃ q,w3.heap.size=q:=⟨_,rfl⟩
 rw [hbo] at HS ⊢;obtain ⟨x0,x1,x2⟩:=HS.out.x.1.rules;obtain ⟨p0,p1,p2⟩:=HS.out.o.1.rules;clear c0 f0 l0 c1 f1 l1 hb1 hb3 HH0 hW4 hbo;rw [HLK.out] at HAL HL9 HL4;rw [HTS.out.2];obtain rfl:L=4:=by
  rw [← HLK.out];have hk9:=HOP.out;obtain rfl | rfl | rfl:k=11∨k=12∨k=13:=by omega
  all_goals rfl
 have hl1:=HLEN.out;rw [al,ai,HTS.out.2] at hl1;have hnk1:nk=2:=by rw [← HNK.out,HY.out];rfl
 subst hnk1;have hL4:=HL4.out;have HP1:=aW (λ W row9 X9 O9 A9 c9 k9 (h:PS w W g row row9 (aJ (az 5 y) st) w.heap.size bo X9 O9 A9 c9 k9)=>h.put1 t W.heap.size rfl HTS.out.1 (by have:=aN (az 5 y) st;omega));rw [HTT.out] at HP1;have HAH:=aW (λ W=>ju T k (4:Int) W);have hal4:decide ((4:Int)=3∨(4:Int)=7)=false:=by decide
 rw [hal4] at HAH;have HE1:=aW (λ W' row9 X9 O9 A9 c9 cs (h:PS w W' g row row9 st w.heap.size bo X9 O9 A9 c9 kids) (hER:ER W' (PbM g row9 W') cs y)=>(ih y cs 5 W' g row9 _ st h.wp hER (HKD.out.1 y (by rw [HY.out];simp)) (HKD.out.2 y (by rw [HY.out];simp)) (by have:=HL9.out;omega) (by omega)).mono λ e W'' hq=>h.put hq);obtain ⟨b,o,k9,k19,n19,s19,A19,na19,ca19,B19,nb19,cb19,s9,A29,n29,ca29,rfl,hb,_,_⟩:=br HS.out.ks HS.out.rd (i:=0) (x:=y) (by rw [HY.out];rfl);go_wp2_with (first
  | (go_at_call 115;refine (HAH.out _).mono ?_;rintro e wa ⟨rfl,hba⟩;have hsa:=HS.out.bel hba;obtain ⟨x0,x1,x2⟩:=hsa.x.1.rules;obtain ⟨p0,p1,p2⟩:=hsa.o.1.rules;obtain ⟨b9,o9,k9,k19,n19,s19,A19,na19,ca19,B19,nb19,cb19,s9,A29,n29,ca29,he9,hb9,hER9,hz9⟩:=br hsa.ks hsa.rd (i:=0) (x:=y) (by rw [HY.out];rfl);simp only [Nat.zero_mul,Nat.add_zero] at hz9;injection he9 with he9;injection he9 with he9 he8;subst he9 he8;obtain ⟨z0,z1,z2,z3,z4,z5,z6,z7⟩:=hz9 _ ah.refl;have HSA:=aW hsa;have HER9:=aW hER9;clear hz9 hER9)
  | (go_at_call 74;refine (HE1.out _ _ _ _ _ _ _ HSA.out HER9.out).mono ?_;rintro e w4 ⟨rfl,row4,hs4⟩;obtain ⟨v0,v1,v2⟩:=hs4.o.1.rules)
  | (go_at_call 73;refine (HP1.out _ _ _ _ _ _ _ hs4).mono ?_;rintro e w5 ⟨rfl,row5,hs5⟩))
 clear z0 z1 z2 z3 z4 z5 z6 z7 v0 v1 v2;have hl4:=cz (aJ (az 5 y) st) t;have hl5:=aN (az 5 y) st;have hs6:=hs5.bel ((Below.refl _ _).drew);have HS6:=aW hs6;obtain ⟨b,o,k',k1',n1',s1',A1',na1',ca1',B1',nb1',cb1',s',A2',n2',ca2',he,hb,hER,hz⟩:=br hs6.ks hs6.rd (i:=1) (x:=z) (by rw [HY.out];rfl);simp only [Nat.zero_mul,Nat.add_zero,Nat.one_mul] at hz;injection he with he
 injection he with he he8
 subst he he8;obtain ⟨z0,z1,z2,z3,z4,z5,z6,z7⟩:=hz _ ah.refl;have HZ:=aW hz;have HE:=aW (ih z _ (4+1) _ g row5 _ _ hs6.wp hER (HKD.out.1 z (by rw [HY.out];simp)) (HKD.out.2 z (by rw [HY.out];simp)) (by have:=HL9.out;omega) (by omega));have q7:=hs6.x.1.cell 7;have q2:=hs6.o.1.cell 2;simp at q7 q2;clear hz hER HKD x0 x1 x2 p0 p1 p2 hs6;have hcast:((4+1:Nat):Int)=5:=rfl;rw [hcast] at HE;go_region_held3 (λ w'=>w'.cell? ⟨w.heap.size,7,none⟩=some (Zs (some ⟨b,o,none⟩) 2 ca)/\w'.cell? ⟨bo,2,none⟩=some (Zi Zq 4)/\w'.cell? ⟨b,o+8,none⟩=some (Zi Zq k')/\w'.cell? ⟨b,o+8+1,none⟩=some (Zi Zq k1')/\w'.cell? ⟨b,o+8+2,none⟩=some (Zi Zq n1')/\w'.cell? ⟨b,o+8+3,none⟩=some (Zt s1')/\w'.cell? ⟨b,o+8+4,none⟩=some (Zs A1' na1' ca1')/\w'.cell? ⟨b,o+8+5,none⟩=some (Zs B1' nb1' cb1')/\w'.cell? ⟨b,o+8+6,none⟩=some (Zt s')/\w'.cell? ⟨b,o+8+7,none⟩=some (Zs A2' n2' ca2')) (go_keep) ((go_at_call 74;refine HE.out.mono ?_;intro e w7 hp;obtain ⟨rfl,row7,hs7,hk7⟩:=HS6.out.putM hp;obtain ⟨y0,y1,y2,y3,y4,y5,y6,y7⟩:=HZ.out _ hk7;have r7:=hs7.x.1.cell 7;have r2:=hs7.o.1.cell 2;simp at r7 r2));go_wp2;go_end0;exact hs7.fin
theorem zD (r:Nat) (ih:ia r):ii r (λ k=>15<=k/\k<=15):=by
 intro k v s kids cs f w g row n st hk hW hx hc hd hf hlen;have hop:=hk;obtain ⟨k1,n1,s1,A1,na1,ca1,B1,nb1,cb1,A,ca,css,rfl,hv,h1,h2,h3,h4⟩:=hx.out;have hc':=hc;unfold bh at hc';obtain ⟨_,hcv,hsl,hck,hcl⟩:=hc';have hcl:=aK.1 hcl;obtain ⟨_,hok,hdk⟩:=aR hd;have hdk:∀ x ∈ kids,bj r x≠0:=hdk;have hop9:cV v=true/\s=[]/\kids.length=2:=by
  unfold okX at hok;rw [if_neg (by omega)] at hok;split at hok
  ·cases hok
  ·rename_i hz9
   rw [if_neg (by omega),if_neg (by omega),if_neg (by omega)] at hok
   first
    | (simp only [decide_eq_true_eq] at hok;exact ⟨by simpa using hz9,hok⟩)
    | (rw [if_pos (by omega)] at hok;simp only [decide_eq_true_eq] at hok;exact ⟨by simpa using hz9,hok⟩)
    | (rw [if_neg (by omega),if_pos (by omega)] at hok;simp only [decide_eq_true_eq] at hok;exact ⟨by simpa using hz9,hok⟩)
 obtain ⟨_,_,hn1⟩:=hop9;have e1:(k == 1)=false:=by rw [beq_eq_false_iff_ne];omega
 have e2:(k == 2)=false:=by rw [beq_eq_false_iff_ne];omega
 have e3:(k == 3)=false:=by rw [beq_eq_false_iff_ne];omega
 have e4:(k == 4)=false:=by rw [beq_eq_false_iff_ne];omega
 obtain ⟨y,z,hy⟩:∃ y z,kids=[y,z]:=by
  match kids,hn1 with
  | [y,z],_=>exact ⟨y,z,rfl⟩
 have HF1:=aW (show gP (ay k)=1 by
  obtain rfl | rfl:k=15∨k=15:=by omega
  all_goals rfl)
 have hbody:bK k v s (bR kids)=az 1 y++opK k::az (ay k+1) z:=by
  rw [hy];refine ((if_neg (by omega)).trans ((if_neg (by omega)).trans ((if_neg (by omega)).trans (if_neg (by omega))))).trans ?_;show cU (gP (ay k)) (bM y)++opK k::cU (ay k+1) (bM z)=_
  rw [HF1.out];rfl
 have HL9:=aW (show ay k<=8 by
  obtain rfl | rfl:k=15∨k=15:=by omega
  all_goals decide)
 have HAL:=aW (show (decide (((ay k:Nat):Int)=3∨((ay k:Nat):Int)=7))=false by
  obtain rfl | rfl:k=15∨k=15:=by omega
  all_goals rfl)
 have HL4:=aW (show (((ay k:Nat):Int) == 4)=false by
  obtain rfl | rfl:k=15∨k=15:=by omega
  all_goals rfl)
 rw [hbody] at hlen ⊢;rw [bP,bU];have HY:=aW hy;clear hbody hn1 hy;obtain ⟨S,hS⟩:∃ S:ByteArray,⟨s.toArray⟩=S:=⟨_,rfl⟩
 rw [hS];have HSS:=aW hS;obtain ⟨nk,hnk⟩:∃ q,kids.length=q:=⟨_,rfl⟩
 rw [hnk];have HNK:=aW hnk;have HH0:=aW ((aH.nil w).push 45 #[Zi Zq k,Zi Zq k1,Zi Zq n1,Zt s1,Zs A1 na1 ca1,Zs B1 nb1 cb1,Zt S,Zs A nk ca] (g:=w.heap.size) rfl);have HLV:=aW (λ W (h:Below w.heap.size w W)=>fs k k1 n1 s1 A1 na1 ca1 B1 nb1 cb1 S A nk ca W (hW.goe.keep h));have HOF:=aW (λ W (h:Below w.heap.size w W)=>eOf k W (hW.goe.keep h));unfold OfP at HOF;obtain ⟨t,hof,htne,hts⟩:=gS ⟨by omega,by omega⟩ (k:=k);rw [hof] at HOF;unfold cx at HOF;simp only at HOF;have HTS:=aW (And.intro htne hts);obtain ⟨T,hT⟩:∃ T:ByteArray,⟨t.toArray⟩=T:=⟨_,rfl⟩
 rw [hT] at HOF;have HTT:=aW hT;unfold lC at HLV;obtain ⟨L,hL⟩:∃ L,ay k=L:=⟨_,rfl⟩
 rw [hL] at hf HLV HOF hlen ⊢;have HLK:=aW hL;have hlt:¬ (L:Int)<(f:Int):=by omega
 have HST:=aW (λ (W3:World) hb=>dx (W1:=w) (W3:=W3) (X:=#[Zi Zq k,Zi Zq k1,Zi Zq n1,Zt s1,Zs A1 na1 ca1,Zs B1 nb1 cb1,Zt S,Zs A nk ca]) (O:=#[Zt T,Zi Zq k,Zi Zq L]) hW h1 h4 hb);have HKD:=aW (And.intro hcl hdk);have HLEN:=aW hlen;have HOP:=aW hop;clear hW hx hc hd hok hdk hv h1 h4 hcv hcl hS hnk hL hlen hck hsl h2 h3 hop hof htne hts hT hk;obtain ⟨c0,f0,l0⟩:=HH0.out.b0.rules;go_enter Tryz.func74,Tryz.ntmps74;go_upto_block 0 with (first
  | (go_at_call 112;refine (HLV.out _ HH0.out.1).mono ?_;rintro e w1 ⟨rfl,hb1⟩;obtain ⟨c1,f1,l1⟩:=(HH0.out.keep hb1).b0.rules)
  | (go_at_call 113;refine (HOF.out _ (HH0.out.1.trans (hb1.mono HH0.out.1.size))).mono ?_;rintro e w3 ⟨rfl,hb3⟩))
 have HS:=aW (HST.out _ (hb1.trans (hb3.mono hb1.size)));obtain ⟨W4,hW4⟩:∃ W',w3.alloc (.cells #[Zt T,Zi Zq k,Zi Zq L] 154)=W':=⟨_,rfl⟩
 rw [hW4] at HS ⊢;obtain ⟨bo,hbo⟩:∃ q,w3.heap.size=q:=⟨_,rfl⟩
 rw [hbo] at HS ⊢;obtain ⟨x0,x1,x2⟩:=HS.out.x.1.rules;obtain ⟨p0,p1,p2⟩:=HS.out.o.1.rules;clear c0 f0 l0 c1 f1 l1 hb1 hb3 HH0 hW4 hbo;rw [HLK.out] at HAL HL9 HL4;rw [HTS.out.2];obtain rfl:L=1:=by
  rw [← HLK.out];have hk9:=HOP.out;obtain rfl | rfl:k=15∨k=15:=by omega
  all_goals rfl
 have hl1:=HLEN.out;rw [al,ai,HTS.out.2] at hl1;have hnk1:nk=2:=by rw [← HNK.out,HY.out];rfl
 subst hnk1;have hL4:=HL4.out;have HP1:=aW (λ W row9 X9 O9 A9 c9 k9 (h:PS w W g row row9 (aJ (az 1 y) st) w.heap.size bo X9 O9 A9 c9 k9)=>h.put1 t W.heap.size rfl HTS.out.1 (by have:=aN (az 1 y) st;omega));rw [HTT.out] at HP1;have HAH:=aW (λ W=>ju T k (1:Int) W);have hal4:decide ((1:Int)=3∨(1:Int)=7)=false:=by decide
 rw [hal4] at HAH;have HE1:=aW (λ W' row9 X9 O9 A9 c9 cs (h:PS w W' g row row9 st w.heap.size bo X9 O9 A9 c9 kids) (hER:ER W' (PbM g row9 W') cs y)=>(ih y cs 1 W' g row9 _ st h.wp hER (HKD.out.1 y (by rw [HY.out];simp)) (HKD.out.2 y (by rw [HY.out];simp)) (by have:=HL9.out;omega) (by omega)).mono λ e W'' hq=>h.put hq);obtain ⟨b,o,k9,k19,n19,s19,A19,na19,ca19,B19,nb19,cb19,s9,A29,n29,ca29,rfl,hb,_,_⟩:=br HS.out.ks HS.out.rd (i:=0) (x:=y) (by rw [HY.out];rfl);go_wp2_with (first
  | (go_at_call 115;refine (HAH.out _).mono ?_;rintro e wa ⟨rfl,hba⟩;have hsa:=HS.out.bel hba;obtain ⟨x0,x1,x2⟩:=hsa.x.1.rules;obtain ⟨p0,p1,p2⟩:=hsa.o.1.rules;obtain ⟨b9,o9,k9,k19,n19,s19,A19,na19,ca19,B19,nb19,cb19,s9,A29,n29,ca29,he9,hb9,hER9,hz9⟩:=br hsa.ks hsa.rd (i:=0) (x:=y) (by rw [HY.out];rfl);simp only [Nat.zero_mul,Nat.add_zero] at hz9;injection he9 with he9;injection he9 with he9 he8;subst he9 he8;obtain ⟨z0,z1,z2,z3,z4,z5,z6,z7⟩:=hz9 _ ah.refl;have HSA:=aW hsa;have HER9:=aW hER9;clear hz9 hER9)
  | (go_at_call 74;refine (HE1.out _ _ _ _ _ _ _ HSA.out HER9.out).mono ?_;rintro e w4 ⟨rfl,row4,hs4⟩;obtain ⟨v0,v1,v2⟩:=hs4.o.1.rules)
  | (go_at_call 73;refine (HP1.out _ _ _ _ _ _ _ hs4).mono ?_;rintro e w5 ⟨rfl,row5,hs5⟩))
 clear z0 z1 z2 z3 z4 z5 z6 z7 v0 v1 v2;have hl4:=cz (aJ (az 1 y) st) t;have hl5:=aN (az 1 y) st;have hs6:=hs5.bel ((Below.refl _ _).drew);have HS6:=aW hs6;obtain ⟨b,o,k',k1',n1',s1',A1',na1',ca1',B1',nb1',cb1',s',A2',n2',ca2',he,hb,hER,hz⟩:=br hs6.ks hs6.rd (i:=1) (x:=z) (by rw [HY.out];rfl);simp only [Nat.zero_mul,Nat.add_zero,Nat.one_mul] at hz;injection he with he
 injection he with he he8
 subst he he8;obtain ⟨z0,z1,z2,z3,z4,z5,z6,z7⟩:=hz _ ah.refl;have HZ:=aW hz;have HE:=aW (ih z _ (1+1) _ g row5 _ _ hs6.wp hER (HKD.out.1 z (by rw [HY.out];simp)) (HKD.out.2 z (by rw [HY.out];simp)) (by have:=HL9.out;omega) (by omega));have q7:=hs6.x.1.cell 7;have q2:=hs6.o.1.cell 2;simp at q7 q2;clear hz hER HKD x0 x1 x2 p0 p1 p2 hs6;have hcast:((1+1:Nat):Int)=2:=rfl;rw [hcast] at HE;go_region_held3 (λ w'=>w'.cell? ⟨w.heap.size,7,none⟩=some (Zs (some ⟨b,o,none⟩) 2 ca)/\w'.cell? ⟨bo,2,none⟩=some (Zi Zq 1)/\w'.cell? ⟨b,o+8,none⟩=some (Zi Zq k')/\w'.cell? ⟨b,o+8+1,none⟩=some (Zi Zq k1')/\w'.cell? ⟨b,o+8+2,none⟩=some (Zi Zq n1')/\w'.cell? ⟨b,o+8+3,none⟩=some (Zt s1')/\w'.cell? ⟨b,o+8+4,none⟩=some (Zs A1' na1' ca1')/\w'.cell? ⟨b,o+8+5,none⟩=some (Zs B1' nb1' cb1')/\w'.cell? ⟨b,o+8+6,none⟩=some (Zt s')/\w'.cell? ⟨b,o+8+7,none⟩=some (Zs A2' n2' ca2')) (go_keep) ((go_at_call 74;refine HE.out.mono ?_;intro e w7 hp;obtain ⟨rfl,row7,hs7,hk7⟩:=HS6.out.putM hp;obtain ⟨y0,y1,y2,y3,y4,y5,y6,y7⟩:=HZ.out _ hk7;have r7:=hs7.x.1.cell 7;have r2:=hs7.o.1.cell 2;simp at r7 r2));go_wp2;go_end0;exact hs7.fin
theorem zE (r:Nat) (ih:ia r):ii r (λ k=>14<=k/\k<=14):=by
 intro k v s kids cs f w g row n st hk hW hx hc hd hf hlen;have hop:=hk;obtain ⟨k1,n1,s1,A1,na1,ca1,B1,nb1,cb1,A,ca,css,rfl,hv,h1,h2,h3,h4⟩:=hx.out;have hc':=hc;unfold bh at hc';obtain ⟨_,hcv,hsl,hck,hcl⟩:=hc';have hcl:=aK.1 hcl;obtain ⟨_,hok,hdk⟩:=aR hd;have hdk:∀ x ∈ kids,bj r x≠0:=hdk;have hop9:cV v=true/\s=[]/\kids.length=2:=by
  unfold okX at hok;rw [if_neg (by omega)] at hok;split at hok
  ·cases hok
  ·rename_i hz9
   rw [if_neg (by omega),if_neg (by omega),if_neg (by omega)] at hok
   first
    | (simp only [decide_eq_true_eq] at hok;exact ⟨by simpa using hz9,hok⟩)
    | (rw [if_pos (by omega)] at hok;simp only [decide_eq_true_eq] at hok;exact ⟨by simpa using hz9,hok⟩)
    | (rw [if_neg (by omega),if_pos (by omega)] at hok;simp only [decide_eq_true_eq] at hok;exact ⟨by simpa using hz9,hok⟩)
 obtain ⟨_,_,hn1⟩:=hop9;have e1:(k == 1)=false:=by rw [beq_eq_false_iff_ne];omega
 have e2:(k == 2)=false:=by rw [beq_eq_false_iff_ne];omega
 have e3:(k == 3)=false:=by rw [beq_eq_false_iff_ne];omega
 have e4:(k == 4)=false:=by rw [beq_eq_false_iff_ne];omega
 obtain ⟨y,z,hy⟩:∃ y z,kids=[y,z]:=by
  match kids,hn1 with
  | [y,z],_=>exact ⟨y,z,rfl⟩
 have HF1:=aW (show gP (ay k)=2 by
  obtain rfl | rfl:k=14∨k=14:=by omega
  all_goals rfl)
 have hbody:bK k v s (bR kids)=az 2 y++opK k::az (ay k+1) z:=by
  rw [hy];refine ((if_neg (by omega)).trans ((if_neg (by omega)).trans ((if_neg (by omega)).trans (if_neg (by omega))))).trans ?_;show cU (gP (ay k)) (bM y)++opK k::cU (ay k+1) (bM z)=_
  rw [HF1.out];rfl
 have HL9:=aW (show ay k<=8 by
  obtain rfl | rfl:k=14∨k=14:=by omega
  all_goals decide)
 have HAL:=aW (show (decide (((ay k:Nat):Int)=3∨((ay k:Nat):Int)=7))=false by
  obtain rfl | rfl:k=14∨k=14:=by omega
  all_goals rfl)
 have HL4:=aW (show (((ay k:Nat):Int) == 4)=false by
  obtain rfl | rfl:k=14∨k=14:=by omega
  all_goals rfl)
 rw [hbody] at hlen ⊢;rw [bP,bU];have HY:=aW hy;clear hbody hn1 hy;obtain ⟨S,hS⟩:∃ S:ByteArray,⟨s.toArray⟩=S:=⟨_,rfl⟩
 rw [hS];have HSS:=aW hS;obtain ⟨nk,hnk⟩:∃ q,kids.length=q:=⟨_,rfl⟩
 rw [hnk];have HNK:=aW hnk;have HH0:=aW ((aH.nil w).push 45 #[Zi Zq k,Zi Zq k1,Zi Zq n1,Zt s1,Zs A1 na1 ca1,Zs B1 nb1 cb1,Zt S,Zs A nk ca] (g:=w.heap.size) rfl);have HLV:=aW (λ W (h:Below w.heap.size w W)=>fs k k1 n1 s1 A1 na1 ca1 B1 nb1 cb1 S A nk ca W (hW.goe.keep h));have HOF:=aW (λ W (h:Below w.heap.size w W)=>eOf k W (hW.goe.keep h));unfold OfP at HOF;obtain ⟨t,hof,htne,hts⟩:=gS ⟨by omega,by omega⟩ (k:=k);rw [hof] at HOF;unfold cx at HOF;simp only at HOF;have HTS:=aW (And.intro htne hts);obtain ⟨T,hT⟩:∃ T:ByteArray,⟨t.toArray⟩=T:=⟨_,rfl⟩
 rw [hT] at HOF;have HTT:=aW hT;unfold lC at HLV;obtain ⟨L,hL⟩:∃ L,ay k=L:=⟨_,rfl⟩
 rw [hL] at hf HLV HOF hlen ⊢;have HLK:=aW hL;have hlt:¬ (L:Int)<(f:Int):=by omega
 have HST:=aW (λ (W3:World) hb=>dx (W1:=w) (W3:=W3) (X:=#[Zi Zq k,Zi Zq k1,Zi Zq n1,Zt s1,Zs A1 na1 ca1,Zs B1 nb1 cb1,Zt S,Zs A nk ca]) (O:=#[Zt T,Zi Zq k,Zi Zq L]) hW h1 h4 hb);have HKD:=aW (And.intro hcl hdk);have HLEN:=aW hlen;have HOP:=aW hop;clear hW hx hc hd hok hdk hv h1 h4 hcv hcl hS hnk hL hlen hck hsl h2 h3 hop hof htne hts hT hk;obtain ⟨c0,f0,l0⟩:=HH0.out.b0.rules;go_enter Tryz.func74,Tryz.ntmps74;go_upto_block 0 with (first
  | (go_at_call 112;refine (HLV.out _ HH0.out.1).mono ?_;rintro e w1 ⟨rfl,hb1⟩;obtain ⟨c1,f1,l1⟩:=(HH0.out.keep hb1).b0.rules)
  | (go_at_call 113;refine (HOF.out _ (HH0.out.1.trans (hb1.mono HH0.out.1.size))).mono ?_;rintro e w3 ⟨rfl,hb3⟩))
 have HS:=aW (HST.out _ (hb1.trans (hb3.mono hb1.size)));obtain ⟨W4,hW4⟩:∃ W',w3.alloc (.cells #[Zt T,Zi Zq k,Zi Zq L] 154)=W':=⟨_,rfl⟩
 rw [hW4] at HS ⊢;obtain ⟨bo,hbo⟩:∃ q,w3.heap.size=q:=⟨_,rfl⟩
 rw [hbo] at HS ⊢;obtain ⟨x0,x1,x2⟩:=HS.out.x.1.rules;obtain ⟨p0,p1,p2⟩:=HS.out.o.1.rules;clear c0 f0 l0 c1 f1 l1 hb1 hb3 HH0 hW4 hbo;rw [HLK.out] at HAL HL9 HL4;rw [HTS.out.2];obtain rfl:L=2:=by
  rw [← HLK.out];have hk9:=HOP.out;obtain rfl | rfl:k=14∨k=14:=by omega
  all_goals rfl
 have hl1:=HLEN.out;rw [al,ai,HTS.out.2] at hl1;have hnk1:nk=2:=by rw [← HNK.out,HY.out];rfl
 subst hnk1;have hL4:=HL4.out;have HP1:=aW (λ W row9 X9 O9 A9 c9 k9 (h:PS w W g row row9 (aJ (az 2 y) st) w.heap.size bo X9 O9 A9 c9 k9)=>h.put1 t W.heap.size rfl HTS.out.1 (by have:=aN (az 2 y) st;omega));rw [HTT.out] at HP1;have HAH:=aW (λ W=>ju T k (2:Int) W);have hal4:decide ((2:Int)=3∨(2:Int)=7)=false:=by decide
 rw [hal4] at HAH;have HE1:=aW (λ W' row9 X9 O9 A9 c9 cs (h:PS w W' g row row9 st w.heap.size bo X9 O9 A9 c9 kids) (hER:ER W' (PbM g row9 W') cs y)=>(ih y cs 2 W' g row9 _ st h.wp hER (HKD.out.1 y (by rw [HY.out];simp)) (HKD.out.2 y (by rw [HY.out];simp)) (by have:=HL9.out;omega) (by omega)).mono λ e W'' hq=>h.put hq);obtain ⟨b,o,k9,k19,n19,s19,A19,na19,ca19,B19,nb19,cb19,s9,A29,n29,ca29,rfl,hb,_,_⟩:=br HS.out.ks HS.out.rd (i:=0) (x:=y) (by rw [HY.out];rfl);go_wp2_with (first
  | (go_at_call 115;refine (HAH.out _).mono ?_;rintro e wa ⟨rfl,hba⟩;have hsa:=HS.out.bel hba;obtain ⟨x0,x1,x2⟩:=hsa.x.1.rules;obtain ⟨p0,p1,p2⟩:=hsa.o.1.rules;obtain ⟨b9,o9,k9,k19,n19,s19,A19,na19,ca19,B19,nb19,cb19,s9,A29,n29,ca29,he9,hb9,hER9,hz9⟩:=br hsa.ks hsa.rd (i:=0) (x:=y) (by rw [HY.out];rfl);simp only [Nat.zero_mul,Nat.add_zero] at hz9;injection he9 with he9;injection he9 with he9 he8;subst he9 he8;obtain ⟨z0,z1,z2,z3,z4,z5,z6,z7⟩:=hz9 _ ah.refl;have HSA:=aW hsa;have HER9:=aW hER9;clear hz9 hER9)
  | (go_at_call 74;refine (HE1.out _ _ _ _ _ _ _ HSA.out HER9.out).mono ?_;rintro e w4 ⟨rfl,row4,hs4⟩;obtain ⟨v0,v1,v2⟩:=hs4.o.1.rules)
  | (go_at_call 73;refine (HP1.out _ _ _ _ _ _ _ hs4).mono ?_;rintro e w5 ⟨rfl,row5,hs5⟩))
 clear z0 z1 z2 z3 z4 z5 z6 z7 v0 v1 v2;have hl4:=cz (aJ (az 2 y) st) t;have hl5:=aN (az 2 y) st;have hs6:=hs5.bel ((Below.refl _ _).drew);have HS6:=aW hs6;obtain ⟨b,o,k',k1',n1',s1',A1',na1',ca1',B1',nb1',cb1',s',A2',n2',ca2',he,hb,hER,hz⟩:=br hs6.ks hs6.rd (i:=1) (x:=z) (by rw [HY.out];rfl);simp only [Nat.zero_mul,Nat.add_zero,Nat.one_mul] at hz;injection he with he
 injection he with he he8
 subst he he8;obtain ⟨z0,z1,z2,z3,z4,z5,z6,z7⟩:=hz _ ah.refl;have HZ:=aW hz;have HE:=aW (ih z _ (2+1) _ g row5 _ _ hs6.wp hER (HKD.out.1 z (by rw [HY.out];simp)) (HKD.out.2 z (by rw [HY.out];simp)) (by have:=HL9.out;omega) (by omega));have q7:=hs6.x.1.cell 7;have q2:=hs6.o.1.cell 2;simp at q7 q2;clear hz hER HKD x0 x1 x2 p0 p1 p2 hs6;have hcast:((2+1:Nat):Int)=3:=rfl;rw [hcast] at HE;go_region_held3 (λ w'=>w'.cell? ⟨w.heap.size,7,none⟩=some (Zs (some ⟨b,o,none⟩) 2 ca)/\w'.cell? ⟨bo,2,none⟩=some (Zi Zq 2)/\w'.cell? ⟨b,o+8,none⟩=some (Zi Zq k')/\w'.cell? ⟨b,o+8+1,none⟩=some (Zi Zq k1')/\w'.cell? ⟨b,o+8+2,none⟩=some (Zi Zq n1')/\w'.cell? ⟨b,o+8+3,none⟩=some (Zt s1')/\w'.cell? ⟨b,o+8+4,none⟩=some (Zs A1' na1' ca1')/\w'.cell? ⟨b,o+8+5,none⟩=some (Zs B1' nb1' cb1')/\w'.cell? ⟨b,o+8+6,none⟩=some (Zt s')/\w'.cell? ⟨b,o+8+7,none⟩=some (Zs A2' n2' ca2')) (go_keep) ((go_at_call 74;refine HE.out.mono ?_;intro e w7 hp;obtain ⟨rfl,row7,hs7,hk7⟩:=HS6.out.putM hp;obtain ⟨y0,y1,y2,y3,y4,y5,y6,y7⟩:=HZ.out _ hk7;have r7:=hs7.x.1.cell 7;have r2:=hs7.o.1.cell 2;simp at r7 r2));go_wp2;go_end0;exact hs7.fin
theorem zG (r:Nat) (ih:ia r):ii r (λ k=>9<=k/\k<=10):=by
 intro k v s kids cs f w g row n st hk hW hx hc hd hf hlen;have hop:=hk;obtain ⟨k1,n1,s1,A1,na1,ca1,B1,nb1,cb1,A,ca,css,rfl,hv,h1,h2,h3,h4⟩:=hx.out;have hc':=hc;unfold bh at hc';obtain ⟨_,hcv,hsl,hck,hcl⟩:=hc';have hcl:=aK.1 hcl;obtain ⟨_,hok,hdk⟩:=aR hd;have hdk:∀ x ∈ kids,bj r x≠0:=hdk;have hop9:cV v=true/\s=[]/\kids.length=2:=by
  unfold okX at hok;rw [if_neg (by omega)] at hok;split at hok
  ·cases hok
  ·rename_i hz9
   rw [if_neg (by omega),if_neg (by omega),if_neg (by omega)] at hok
   first
    | (simp only [decide_eq_true_eq] at hok;exact ⟨by simpa using hz9,hok⟩)
    | (rw [if_pos (by omega)] at hok;simp only [decide_eq_true_eq] at hok;exact ⟨by simpa using hz9,hok⟩)
    | (rw [if_neg (by omega),if_pos (by omega)] at hok;simp only [decide_eq_true_eq] at hok;exact ⟨by simpa using hz9,hok⟩)
 obtain ⟨_,_,hn1⟩:=hop9;have e1:(k == 1)=false:=by rw [beq_eq_false_iff_ne];omega
 have e2:(k == 2)=false:=by rw [beq_eq_false_iff_ne];omega
 have e3:(k == 3)=false:=by rw [beq_eq_false_iff_ne];omega
 have e4:(k == 4)=false:=by rw [beq_eq_false_iff_ne];omega
 obtain ⟨y,z,hy⟩:∃ y z,kids=[y,z]:=by
  match kids,hn1 with
  | [y,z],_=>exact ⟨y,z,rfl⟩
 have HF1:=aW (show gP (ay k)=5 by
  obtain rfl | rfl:k=9∨k=10:=by omega
  all_goals rfl)
 have hbody:bK k v s (bR kids)=az 5 y++opK k::az (ay k+1) z:=by
  rw [hy];refine ((if_neg (by omega)).trans ((if_neg (by omega)).trans ((if_neg (by omega)).trans (if_neg (by omega))))).trans ?_;show cU (gP (ay k)) (bM y)++opK k::cU (ay k+1) (bM z)=_
  rw [HF1.out];rfl
 have HL9:=aW (show ay k<=8 by
  obtain rfl | rfl:k=9∨k=10:=by omega
  all_goals decide)
 have HAL:=aW (show (decide (((ay k:Nat):Int)=3∨((ay k:Nat):Int)=7))=false by
  obtain rfl | rfl:k=9∨k=10:=by omega
  all_goals rfl)
 have HL4:=aW (show (((ay k:Nat):Int) == 4)=false by
  obtain rfl | rfl:k=9∨k=10:=by omega
  all_goals rfl)
 rw [hbody] at hlen ⊢;rw [bP,bU];have HY:=aW hy;clear hbody hn1 hy;obtain ⟨S,hS⟩:∃ S:ByteArray,⟨s.toArray⟩=S:=⟨_,rfl⟩
 rw [hS];have HSS:=aW hS;obtain ⟨nk,hnk⟩:∃ q,kids.length=q:=⟨_,rfl⟩
 rw [hnk];have HNK:=aW hnk;have HH0:=aW ((aH.nil w).push 45 #[Zi Zq k,Zi Zq k1,Zi Zq n1,Zt s1,Zs A1 na1 ca1,Zs B1 nb1 cb1,Zt S,Zs A nk ca] (g:=w.heap.size) rfl);have HLV:=aW (λ W (h:Below w.heap.size w W)=>fs k k1 n1 s1 A1 na1 ca1 B1 nb1 cb1 S A nk ca W (hW.goe.keep h));have HOF:=aW (λ W (h:Below w.heap.size w W)=>eOf k W (hW.goe.keep h));unfold OfP at HOF;obtain ⟨t,hof,htne,hts⟩:=gS ⟨by omega,by omega⟩ (k:=k);rw [hof] at HOF;unfold cx at HOF;simp only at HOF;have HTS:=aW (And.intro htne hts);obtain ⟨T,hT⟩:∃ T:ByteArray,⟨t.toArray⟩=T:=⟨_,rfl⟩
 rw [hT] at HOF;have HTT:=aW hT;unfold lC at HLV;obtain ⟨L,hL⟩:∃ L,ay k=L:=⟨_,rfl⟩
 rw [hL] at hf HLV HOF hlen ⊢;have HLK:=aW hL;have hlt:¬ (L:Int)<(f:Int):=by omega
 have HST:=aW (λ (W3:World) hb=>dx (W1:=w) (W3:=W3) (X:=#[Zi Zq k,Zi Zq k1,Zi Zq n1,Zt s1,Zs A1 na1 ca1,Zs B1 nb1 cb1,Zt S,Zs A nk ca]) (O:=#[Zt T,Zi Zq k,Zi Zq L]) hW h1 h4 hb);have HKD:=aW (And.intro hcl hdk);have HLEN:=aW hlen;have HOP:=aW hop;clear hW hx hc hd hok hdk hv h1 h4 hcv hcl hS hnk hL hlen hck hsl h2 h3 hop hof htne hts hT hk;obtain ⟨c0,f0,l0⟩:=HH0.out.b0.rules;go_enter Tryz.func74,Tryz.ntmps74;go_upto_block 0 with (first
  | (go_at_call 112;refine (HLV.out _ HH0.out.1).mono ?_;rintro e w1 ⟨rfl,hb1⟩;obtain ⟨c1,f1,l1⟩:=(HH0.out.keep hb1).b0.rules)
  | (go_at_call 113;refine (HOF.out _ (HH0.out.1.trans (hb1.mono HH0.out.1.size))).mono ?_;rintro e w3 ⟨rfl,hb3⟩))
 have HS:=aW (HST.out _ (hb1.trans (hb3.mono hb1.size)));obtain ⟨W4,hW4⟩:∃ W',w3.alloc (.cells #[Zt T,Zi Zq k,Zi Zq L] 154)=W':=⟨_,rfl⟩
 rw [hW4] at HS ⊢;obtain ⟨bo,hbo⟩:∃ q,w3.heap.size=q:=⟨_,rfl⟩
 rw [hbo] at HS ⊢;obtain ⟨x0,x1,x2⟩:=HS.out.x.1.rules;obtain ⟨p0,p1,p2⟩:=HS.out.o.1.rules;clear c0 f0 l0 c1 f1 l1 hb1 hb3 HH0 hW4 hbo;rw [HLK.out] at HAL HL9 HL4;rw [HTS.out.2];obtain rfl:L=5:=by
  rw [← HLK.out];have hk9:=HOP.out;obtain rfl | rfl:k=9∨k=10:=by omega
  all_goals rfl
 have hl1:=HLEN.out;rw [al,ai,HTS.out.2] at hl1;have hnk1:nk=2:=by rw [← HNK.out,HY.out];rfl
 subst hnk1;have hL4:=HL4.out;have HP1:=aW (λ W row9 X9 O9 A9 c9 k9 (h:PS w W g row row9 (aJ (az 5 y) st) w.heap.size bo X9 O9 A9 c9 k9)=>h.put1 t W.heap.size rfl HTS.out.1 (by have:=aN (az 5 y) st;omega));rw [HTT.out] at HP1;have HAH:=aW (λ W=>ju T k (5:Int) W);have hal4:decide ((5:Int)=3∨(5:Int)=7)=false:=by decide
 rw [hal4] at HAH;have HE1:=aW (λ W' row9 X9 O9 A9 c9 cs (h:PS w W' g row row9 st w.heap.size bo X9 O9 A9 c9 kids) (hER:ER W' (PbM g row9 W') cs y)=>(ih y cs 5 W' g row9 _ st h.wp hER (HKD.out.1 y (by rw [HY.out];simp)) (HKD.out.2 y (by rw [HY.out];simp)) (by have:=HL9.out;omega) (by omega)).mono λ e W'' hq=>h.put hq);obtain ⟨b,o,k9,k19,n19,s19,A19,na19,ca19,B19,nb19,cb19,s9,A29,n29,ca29,rfl,hb,_,_⟩:=br HS.out.ks HS.out.rd (i:=0) (x:=y) (by rw [HY.out];rfl);go_wp2_with (first
  | (go_at_call 115;refine (HAH.out _).mono ?_;rintro e wa ⟨rfl,hba⟩;have hsa:=HS.out.bel hba;obtain ⟨x0,x1,x2⟩:=hsa.x.1.rules;obtain ⟨p0,p1,p2⟩:=hsa.o.1.rules;obtain ⟨b9,o9,k9,k19,n19,s19,A19,na19,ca19,B19,nb19,cb19,s9,A29,n29,ca29,he9,hb9,hER9,hz9⟩:=br hsa.ks hsa.rd (i:=0) (x:=y) (by rw [HY.out];rfl);simp only [Nat.zero_mul,Nat.add_zero] at hz9;injection he9 with he9;injection he9 with he9 he8;subst he9 he8;obtain ⟨z0,z1,z2,z3,z4,z5,z6,z7⟩:=hz9 _ ah.refl;have HSA:=aW hsa;have HER9:=aW hER9;clear hz9 hER9)
  | (go_at_call 74;refine (HE1.out _ _ _ _ _ _ _ HSA.out HER9.out).mono ?_;rintro e w4 ⟨rfl,row4,hs4⟩;obtain ⟨v0,v1,v2⟩:=hs4.o.1.rules)
  | (go_at_call 73;refine (HP1.out _ _ _ _ _ _ _ hs4).mono ?_;rintro e w5 ⟨rfl,row5,hs5⟩))
 clear z0 z1 z2 z3 z4 z5 z6 z7 v0 v1 v2;have hl4:=cz (aJ (az 5 y) st) t;have hl5:=aN (az 5 y) st;have hs6:=hs5.bel ((Below.refl _ _).drew);have HS6:=aW hs6;obtain ⟨b,o,k',k1',n1',s1',A1',na1',ca1',B1',nb1',cb1',s',A2',n2',ca2',he,hb,hER,hz⟩:=br hs6.ks hs6.rd (i:=1) (x:=z) (by rw [HY.out];rfl);simp only [Nat.zero_mul,Nat.add_zero,Nat.one_mul] at hz;injection he with he
 injection he with he he8
 subst he he8;obtain ⟨z0,z1,z2,z3,z4,z5,z6,z7⟩:=hz _ ah.refl;have HZ:=aW hz;have HE:=aW (ih z _ (5+1) _ g row5 _ _ hs6.wp hER (HKD.out.1 z (by rw [HY.out];simp)) (HKD.out.2 z (by rw [HY.out];simp)) (by have:=HL9.out;omega) (by omega));have q7:=hs6.x.1.cell 7;have q2:=hs6.o.1.cell 2;simp at q7 q2;clear hz hER HKD x0 x1 x2 p0 p1 p2 hs6;have hcast:((5+1:Nat):Int)=6:=rfl;rw [hcast] at HE;go_region_held3 (λ w'=>w'.cell? ⟨w.heap.size,7,none⟩=some (Zs (some ⟨b,o,none⟩) 2 ca)/\w'.cell? ⟨bo,2,none⟩=some (Zi Zq 5)/\w'.cell? ⟨b,o+8,none⟩=some (Zi Zq k')/\w'.cell? ⟨b,o+8+1,none⟩=some (Zi Zq k1')/\w'.cell? ⟨b,o+8+2,none⟩=some (Zi Zq n1')/\w'.cell? ⟨b,o+8+3,none⟩=some (Zt s1')/\w'.cell? ⟨b,o+8+4,none⟩=some (Zs A1' na1' ca1')/\w'.cell? ⟨b,o+8+5,none⟩=some (Zs B1' nb1' cb1')/\w'.cell? ⟨b,o+8+6,none⟩=some (Zt s')/\w'.cell? ⟨b,o+8+7,none⟩=some (Zs A2' n2' ca2')) (go_keep) ((go_at_call 74;refine HE.out.mono ?_;intro e w7 hp;obtain ⟨rfl,row7,hs7,hk7⟩:=HS6.out.putM hp;obtain ⟨y0,y1,y2,y3,y4,y5,y6,y7⟩:=HZ.out _ hk7;have r7:=hs7.x.1.cell 7;have r2:=hs7.o.1.cell 2;simp at r7 r2));go_wp2;go_end0;exact hs7.fin
theorem zH (r:Nat) (ih:ia r):ii r (λ k=>8<=k/\k<=8):=by
 intro k v s kids cs f w g row n st hk hW hx hc hd hf hlen;have hop:=hk;obtain ⟨k1,n1,s1,A1,na1,ca1,B1,nb1,cb1,A,ca,css,rfl,hv,h1,h2,h3,h4⟩:=hx.out;have hc':=hc;unfold bh at hc';obtain ⟨_,hcv,hsl,hck,hcl⟩:=hc';have hcl:=aK.1 hcl;obtain ⟨_,hok,hdk⟩:=aR hd;have hdk:∀ x ∈ kids,bj r x≠0:=hdk;have hop9:cV v=true/\s=[]/\kids.length=2:=by
  unfold okX at hok;rw [if_neg (by omega)] at hok;split at hok
  ·cases hok
  ·rename_i hz9
   rw [if_neg (by omega),if_neg (by omega),if_neg (by omega)] at hok
   first
    | (simp only [decide_eq_true_eq] at hok;exact ⟨by simpa using hz9,hok⟩)
    | (rw [if_pos (by omega)] at hok;simp only [decide_eq_true_eq] at hok;exact ⟨by simpa using hz9,hok⟩)
    | (rw [if_neg (by omega),if_pos (by omega)] at hok;simp only [decide_eq_true_eq] at hok;exact ⟨by simpa using hz9,hok⟩)
 obtain ⟨_,_,hn1⟩:=hop9;have e1:(k == 1)=false:=by rw [beq_eq_false_iff_ne];omega
 have e2:(k == 2)=false:=by rw [beq_eq_false_iff_ne];omega
 have e3:(k == 3)=false:=by rw [beq_eq_false_iff_ne];omega
 have e4:(k == 4)=false:=by rw [beq_eq_false_iff_ne];omega
 obtain ⟨y,z,hy⟩:∃ y z,kids=[y,z]:=by
  match kids,hn1 with
  | [y,z],_=>exact ⟨y,z,rfl⟩
 have HF1:=aW (show gP (ay k)=6 by
  obtain rfl | rfl:k=8∨k=8:=by omega
  all_goals rfl)
 have hbody:bK k v s (bR kids)=az 6 y++opK k::az (ay k+1) z:=by
  rw [hy];refine ((if_neg (by omega)).trans ((if_neg (by omega)).trans ((if_neg (by omega)).trans (if_neg (by omega))))).trans ?_;show cU (gP (ay k)) (bM y)++opK k::cU (ay k+1) (bM z)=_
  rw [HF1.out];rfl
 have HL9:=aW (show ay k<=8 by
  obtain rfl | rfl:k=8∨k=8:=by omega
  all_goals decide)
 have HAL:=aW (show (decide (((ay k:Nat):Int)=3∨((ay k:Nat):Int)=7))=false by
  obtain rfl | rfl:k=8∨k=8:=by omega
  all_goals rfl)
 have HL4:=aW (show (((ay k:Nat):Int) == 4)=false by
  obtain rfl | rfl:k=8∨k=8:=by omega
  all_goals rfl)
 rw [hbody] at hlen ⊢;rw [bP,bU];have HY:=aW hy;clear hbody hn1 hy;obtain ⟨S,hS⟩:∃ S:ByteArray,⟨s.toArray⟩=S:=⟨_,rfl⟩
 rw [hS];have HSS:=aW hS;obtain ⟨nk,hnk⟩:∃ q,kids.length=q:=⟨_,rfl⟩
 rw [hnk];have HNK:=aW hnk;have HH0:=aW ((aH.nil w).push 45 #[Zi Zq k,Zi Zq k1,Zi Zq n1,Zt s1,Zs A1 na1 ca1,Zs B1 nb1 cb1,Zt S,Zs A nk ca] (g:=w.heap.size) rfl);have HLV:=aW (λ W (h:Below w.heap.size w W)=>fs k k1 n1 s1 A1 na1 ca1 B1 nb1 cb1 S A nk ca W (hW.goe.keep h));have HOF:=aW (λ W (h:Below w.heap.size w W)=>eOf k W (hW.goe.keep h));unfold OfP at HOF;obtain ⟨t,hof,htne,hts⟩:=gS ⟨by omega,by omega⟩ (k:=k);rw [hof] at HOF;unfold cx at HOF;simp only at HOF;have HTS:=aW (And.intro htne hts);obtain ⟨T,hT⟩:∃ T:ByteArray,⟨t.toArray⟩=T:=⟨_,rfl⟩
 rw [hT] at HOF;have HTT:=aW hT;unfold lC at HLV;obtain ⟨L,hL⟩:∃ L,ay k=L:=⟨_,rfl⟩
 rw [hL] at hf HLV HOF hlen ⊢;have HLK:=aW hL;have hlt:¬ (L:Int)<(f:Int):=by omega
 have HST:=aW (λ (W3:World) hb=>dx (W1:=w) (W3:=W3) (X:=#[Zi Zq k,Zi Zq k1,Zi Zq n1,Zt s1,Zs A1 na1 ca1,Zs B1 nb1 cb1,Zt S,Zs A nk ca]) (O:=#[Zt T,Zi Zq k,Zi Zq L]) hW h1 h4 hb);have HKD:=aW (And.intro hcl hdk);have HLEN:=aW hlen;have HOP:=aW hop;clear hW hx hc hd hok hdk hv h1 h4 hcv hcl hS hnk hL hlen hck hsl h2 h3 hop hof htne hts hT hk;obtain ⟨c0,f0,l0⟩:=HH0.out.b0.rules;go_enter Tryz.func74,Tryz.ntmps74;go_upto_block 0 with (first
  | (go_at_call 112;refine (HLV.out _ HH0.out.1).mono ?_;rintro e w1 ⟨rfl,hb1⟩;obtain ⟨c1,f1,l1⟩:=(HH0.out.keep hb1).b0.rules)
  | (go_at_call 113;refine (HOF.out _ (HH0.out.1.trans (hb1.mono HH0.out.1.size))).mono ?_;rintro e w3 ⟨rfl,hb3⟩))
 have HS:=aW (HST.out _ (hb1.trans (hb3.mono hb1.size)));obtain ⟨W4,hW4⟩:∃ W',w3.alloc (.cells #[Zt T,Zi Zq k,Zi Zq L] 154)=W':=⟨_,rfl⟩
 rw [hW4] at HS ⊢;obtain ⟨bo,hbo⟩:∃ q,w3.heap.size=q:=⟨_,rfl⟩
 rw [hbo] at HS ⊢;obtain ⟨x0,x1,x2⟩:=HS.out.x.1.rules;obtain ⟨p0,p1,p2⟩:=HS.out.o.1.rules;clear c0 f0 l0 c1 f1 l1 hb1 hb3 HH0 hW4 hbo;rw [HLK.out] at HAL HL9 HL4;rw [HTS.out.2];obtain rfl:L=6:=by
  rw [← HLK.out];have hk9:=HOP.out;obtain rfl | rfl:k=8∨k=8:=by omega
  all_goals rfl
 have hl1:=HLEN.out;rw [al,ai,HTS.out.2] at hl1;have hnk1:nk=2:=by rw [← HNK.out,HY.out];rfl
 subst hnk1;have hL4:=HL4.out;have HP1:=aW (λ W row9 X9 O9 A9 c9 k9 (h:PS w W g row row9 (aJ (az 6 y) st) w.heap.size bo X9 O9 A9 c9 k9)=>h.put1 t W.heap.size rfl HTS.out.1 (by have:=aN (az 6 y) st;omega));rw [HTT.out] at HP1;have HAH:=aW (λ W=>ju T k (6:Int) W);have hal4:decide ((6:Int)=3∨(6:Int)=7)=false:=by decide
 rw [hal4] at HAH;have HE1:=aW (λ W' row9 X9 O9 A9 c9 cs (h:PS w W' g row row9 st w.heap.size bo X9 O9 A9 c9 kids) (hER:ER W' (PbM g row9 W') cs y)=>(ih y cs 6 W' g row9 _ st h.wp hER (HKD.out.1 y (by rw [HY.out];simp)) (HKD.out.2 y (by rw [HY.out];simp)) (by have:=HL9.out;omega) (by omega)).mono λ e W'' hq=>h.put hq);obtain ⟨b,o,k9,k19,n19,s19,A19,na19,ca19,B19,nb19,cb19,s9,A29,n29,ca29,rfl,hb,_,_⟩:=br HS.out.ks HS.out.rd (i:=0) (x:=y) (by rw [HY.out];rfl);go_wp2_with (first
  | (go_at_call 115;refine (HAH.out _).mono ?_;rintro e wa ⟨rfl,hba⟩;have hsa:=HS.out.bel hba;obtain ⟨x0,x1,x2⟩:=hsa.x.1.rules;obtain ⟨p0,p1,p2⟩:=hsa.o.1.rules;obtain ⟨b9,o9,k9,k19,n19,s19,A19,na19,ca19,B19,nb19,cb19,s9,A29,n29,ca29,he9,hb9,hER9,hz9⟩:=br hsa.ks hsa.rd (i:=0) (x:=y) (by rw [HY.out];rfl);simp only [Nat.zero_mul,Nat.add_zero] at hz9;injection he9 with he9;injection he9 with he9 he8;subst he9 he8;obtain ⟨z0,z1,z2,z3,z4,z5,z6,z7⟩:=hz9 _ ah.refl;have HSA:=aW hsa;have HER9:=aW hER9;clear hz9 hER9)
  | (go_at_call 74;refine (HE1.out _ _ _ _ _ _ _ HSA.out HER9.out).mono ?_;rintro e w4 ⟨rfl,row4,hs4⟩;obtain ⟨v0,v1,v2⟩:=hs4.o.1.rules)
  | (go_at_call 73;refine (HP1.out _ _ _ _ _ _ _ hs4).mono ?_;rintro e w5 ⟨rfl,row5,hs5⟩))
 clear z0 z1 z2 z3 z4 z5 z6 z7 v0 v1 v2;have hl4:=cz (aJ (az 6 y) st) t;have hl5:=aN (az 6 y) st;have hs6:=hs5.bel ((Below.refl _ _).drew);have HS6:=aW hs6;obtain ⟨b,o,k',k1',n1',s1',A1',na1',ca1',B1',nb1',cb1',s',A2',n2',ca2',he,hb,hER,hz⟩:=br hs6.ks hs6.rd (i:=1) (x:=z) (by rw [HY.out];rfl);simp only [Nat.zero_mul,Nat.add_zero,Nat.one_mul] at hz;injection he with he
 injection he with he he8
 subst he he8;obtain ⟨z0,z1,z2,z3,z4,z5,z6,z7⟩:=hz _ ah.refl;have HZ:=aW hz;have HE:=aW (ih z _ (6+1) _ g row5 _ _ hs6.wp hER (HKD.out.1 z (by rw [HY.out];simp)) (HKD.out.2 z (by rw [HY.out];simp)) (by have:=HL9.out;omega) (by omega));have q7:=hs6.x.1.cell 7;have q2:=hs6.o.1.cell 2;simp at q7 q2;clear hz hER HKD x0 x1 x2 p0 p1 p2 hs6;have hcast:((6+1:Nat):Int)=7:=rfl;rw [hcast] at HE;go_region_held3 (λ w'=>w'.cell? ⟨w.heap.size,7,none⟩=some (Zs (some ⟨b,o,none⟩) 2 ca)/\w'.cell? ⟨bo,2,none⟩=some (Zi Zq 6)/\w'.cell? ⟨b,o+8,none⟩=some (Zi Zq k')/\w'.cell? ⟨b,o+8+1,none⟩=some (Zi Zq k1')/\w'.cell? ⟨b,o+8+2,none⟩=some (Zi Zq n1')/\w'.cell? ⟨b,o+8+3,none⟩=some (Zt s1')/\w'.cell? ⟨b,o+8+4,none⟩=some (Zs A1' na1' ca1')/\w'.cell? ⟨b,o+8+5,none⟩=some (Zs B1' nb1' cb1')/\w'.cell? ⟨b,o+8+6,none⟩=some (Zt s')/\w'.cell? ⟨b,o+8+7,none⟩=some (Zs A2' n2' ca2')) (go_keep) ((go_at_call 74;refine HE.out.mono ?_;intro e w7 hp;obtain ⟨rfl,row7,hs7,hk7⟩:=HS6.out.putM hp;obtain ⟨y0,y1,y2,y3,y4,y5,y6,y7⟩:=HZ.out _ hk7;have r7:=hs7.x.1.cell 7;have r2:=hs7.o.1.cell 2;simp at r7 r2));go_wp2;go_end0;exact hs7.fin
end
end Go.Proofs.YtgmnmnnoahdjnaaGreatDoor
