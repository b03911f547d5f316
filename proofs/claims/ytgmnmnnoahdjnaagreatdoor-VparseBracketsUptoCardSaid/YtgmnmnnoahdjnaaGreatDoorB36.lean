import Derived.Test.YtgmnmnnoahdjnaaGreatDoorB34
set_option maxRecDepth 100000
set_option maxHeartbeats 16000000
set_option linter.unusedVariables false
set_option linter.unusedSimpArgs false
namespace Go.Proofs.YtgmnmnnoahdjnaaGreatDoor
section
open Go.RowKit
attribute [local go_sem] aa ac ae ab
theorem xP (r:Nat):gK r (fun k=>k=2):=by
 intro k v s kids cs f w g row n st hk hW hx hc hd hf hlen;subst hk;obtain ⟨k1,n1,s1,A1,na1,ca1,B1,nb1,cb1,A,ca,css,rfl,hv,h1,h2,h3,h4⟩:=hx.out;have hc':=hc;unfold bB at hc';obtain ⟨_,hcv,hsl,hck,hcl⟩:=hc';have hcl:=bf.1 hcl;obtain ⟨_,hok,hdk⟩:=bR hd;have hdk:∀ x ∈ kids,bi r x≠0:=hdk;have hsne:s≠[]:=by
  unfold okX at hok;rintro rfl;rw [if_neg (by decide)] at hok;split at hok
  ·cases hok
  ·rw [if_pos rfl] at hok;simp only [Bool.and_eq_true] at hok;exact absurd hok.1 (by decide)
 have hbody:cn 2 v s (cD kids)=[eq s]:=(if_neg (by decide)).trans (if_pos rfl);rw [hbody] at hlen ⊢;clear hbody;obtain ⟨S,hS⟩:∃ S:ByteArray,⟨s.toArray⟩=S:=⟨_,rfl⟩
 rw [hS];have HSS:=aW hS;obtain ⟨nk,hnk⟩:∃ q,kids.length=q:=⟨_,rfl⟩
 rw [hnk];have HNK:=aW hnk;have HH0:=aW ((aL.nil w).push 45 #[.int .i64 2,.int .i64 k1,.int .i64 n1,.string s1,.slice A1 na1 ca1,.slice B1 nb1 cb1,.string S,.slice A nk ca] (g:=w.heap.size) rfl);have HLV:=aW (fun W (h:Below w.heap.size w W)=>eY 2 k1 n1 s1 A1 na1 ca1 B1 nb1 cb1 S A nk ca W (hW.goe.keep h));have HOF:=aW (fun W (h:Below w.heap.size w W)=>eOf 2 W (hW.goe.keep h));unfold OfP at HOF;rw [j5 (by omega)] at HOF;unfold cj fi at HOF;simp only at HOF;unfold kC at HLV;obtain ⟨L,hL⟩:∃ L,aE 2=L:=⟨_,rfl⟩
 rw [hL] at hf HLV;have HLK:=aW hL;have hlt:¬ (L:Int)<(f:Int):=by omega
 have HST:=aW (fun (W3:World) hb=>dl (W1:=w) (W3:=W3) (X:=#[.int .i64 2,.int .i64 k1,.int .i64 n1,.string s1,.slice A1 na1 ca1,.slice B1 nb1 cb1,.string S,.slice A nk ca]) (O:=#[.string ⟨#[]⟩,.int .i64 0,.int .i64 0]) hW h1 h4 hb);have HKD:=aW (And.intro hcl hdk);have HLEN:=aW hlen;have HOP:=aW trivial;clear hW hx hc hd hok hdk hv h1 h4 hcv hcl hS hnk hL hlen hck hsl h2 h3;obtain ⟨c0,f0,l0⟩:=HH0.out.b0.rules;go_enter Tryz.func74,Tryz.ntmps74;go_upto_block 0 with (first
  | (go_at_call 112;refine (HLV.out _ HH0.out.1).mono ?_;rintro e w1 ⟨rfl,hb1⟩;obtain ⟨c1,f1,l1⟩:=(HH0.out.keep hb1).b0.rules)
  | (go_at_call 113;refine (HOF.out _ (HH0.out.1.trans (hb1.mono HH0.out.1.size))).mono ?_;rintro e w3 ⟨rfl,hb3⟩))
 have HS:=aW (HST.out _ (hb1.trans (hb3.mono hb1.size)));obtain ⟨W4,hW4⟩:∃ W',w3.alloc (.cells #[.string ⟨#[]⟩,.int .i64 0,.int .i64 0] 154)=W':=⟨_,rfl⟩
 rw [hW4] at HS ⊢;obtain ⟨bo,hbo⟩:∃ q,w3.heap.size=q:=⟨_,rfl⟩
 rw [hbo] at HS ⊢;obtain ⟨x0,x1,x2⟩:=HS.out.x.1.rules;obtain ⟨p0,p1,p2⟩:=HS.out.o.1.rules;clear c0 f0 l0 c1 f1 l1 hb1 hb3 HH0 hW4 hbo;have HP1:=aW (HS.out.put1 s W4.heap.size rfl hsne (by have:=HLEN.out;rw [aj,bm] at this;exact Nat.le_trans (by show _≤st.1.length+(s.length+1+0);omega) this));rw [HSS.out] at HP1;go_wp2_with (go_at_call 73;refine HP1.out.mono ?_;rintro e w5 ⟨rfl,row5,hs5⟩);go_end0;exact hs5.fin
theorem xQ (r:Nat) (ih:gE r):gK r (fun k=>k=3):=by
 intro k v s kids cs f w g row n st hk hW hx hc hd hf hlen;subst hk;obtain ⟨k1,n1,s1,A1,na1,ca1,B1,nb1,cb1,A,ca,css,rfl,hv,h1,h2,h3,h4⟩:=hx.out;have hc':=hc;unfold bB at hc';obtain ⟨_,hcv,hsl,hck,hcl⟩:=hc';have hcl:=bf.1 hcl;obtain ⟨_,hok,hdk⟩:=bR hd;have hdk:∀ x ∈ kids,bi r x≠0:=hdk;have hsne:s≠[]∧kids.length=1:=by
  unfold okX at hok;rw [if_neg (by decide)] at hok;split at hok
  ·cases hok
  ·rw [if_neg (by decide),if_pos rfl] at hok;simp only [Bool.and_eq_true,decide_eq_true_eq] at hok;exact ⟨by rintro rfl;exact absurd hok.1 (by decide),hok.2⟩
 obtain ⟨hsne,hn1⟩:=hsne;obtain ⟨y,hy⟩:∃ y,kids=[y]:=List.length_eq_one_iff.1 hn1;have hbody:cn 3 v s (cD kids)=ar 8 y++[ap [46],eq s]:=by rw [hy];exact (if_neg (by decide)).trans ((if_neg (by decide)).trans (if_pos rfl))
 rw [hbody] at hlen ⊢;rw [bM];have HY:=aW hy;clear hbody hn1 hy;obtain ⟨S,hS⟩:∃ S:ByteArray,⟨s.toArray⟩=S:=⟨_,rfl⟩
 rw [hS];have HSS:=aW hS;obtain ⟨nk,hnk⟩:∃ q,kids.length=q:=⟨_,rfl⟩
 rw [hnk];have HNK:=aW hnk;have HH0:=aW ((aL.nil w).push 45 #[.int .i64 3,.int .i64 k1,.int .i64 n1,.string s1,.slice A1 na1 ca1,.slice B1 nb1 cb1,.string S,.slice A nk ca] (g:=w.heap.size) rfl);have HLV:=aW (fun W (h:Below w.heap.size w W)=>eY 3 k1 n1 s1 A1 na1 ca1 B1 nb1 cb1 S A nk ca W (hW.goe.keep h));have HOF:=aW (fun W (h:Below w.heap.size w W)=>eOf 3 W (hW.goe.keep h));unfold OfP at HOF;rw [j5 (by omega)] at HOF;unfold cj fi at HOF;simp only at HOF;unfold kC at HLV;obtain ⟨L,hL⟩:∃ L,aE 3=L:=⟨_,rfl⟩
 rw [hL] at hf HLV;have HLK:=aW hL;have hlt:¬ (L:Int)<(f:Int):=by omega
 have HST:=aW (fun (W3:World) hb=>dl (W1:=w) (W3:=W3) (X:=#[.int .i64 3,.int .i64 k1,.int .i64 n1,.string s1,.slice A1 na1 ca1,.slice B1 nb1 cb1,.string S,.slice A nk ca]) (O:=#[.string ⟨#[]⟩,.int .i64 0,.int .i64 0]) hW h1 h4 hb);have HKD:=aW (And.intro hcl hdk);have HLEN:=aW hlen;have HOP:=aW trivial;clear hW hx hc hd hok hdk hv h1 h4 hcv hcl hS hnk hL hlen hck hsl h2 h3;obtain ⟨c0,f0,l0⟩:=HH0.out.b0.rules;go_enter Tryz.func74,Tryz.ntmps74;go_upto_block 0 with (first
  | (go_at_call 112;refine (HLV.out _ HH0.out.1).mono ?_;rintro e w1 ⟨rfl,hb1⟩;obtain ⟨c1,f1,l1⟩:=(HH0.out.keep hb1).b0.rules)
  | (go_at_call 113;refine (HOF.out _ (HH0.out.1.trans (hb1.mono HH0.out.1.size))).mono ?_;rintro e w3 ⟨rfl,hb3⟩))
 have HS:=aW (HST.out _ (hb1.trans (hb3.mono hb1.size)));obtain ⟨W4,hW4⟩:∃ W',w3.alloc (.cells #[.string ⟨#[]⟩,.int .i64 0,.int .i64 0] 154)=W':=⟨_,rfl⟩
 rw [hW4] at HS ⊢;obtain ⟨bo,hbo⟩:∃ q,w3.heap.size=q:=⟨_,rfl⟩
 rw [hbo] at HS ⊢;obtain ⟨x0,x1,x2⟩:=HS.out.x.1.rules;obtain ⟨p0,p1,p2⟩:=HS.out.o.1.rules;clear c0 f0 l0 c1 f1 l1 hb1 hb3 HH0 hW4 hbo;obtain ⟨b,o,k',k1',n1',s1',A1',na1',ca1',B1',nb1',cb1',s',A2',n2',ca2',rfl,hb,hER,hz⟩:=fb HS.out.ks HS.out.rd (i:=0) (x:=y) (by rw [HY.out];rfl);obtain ⟨z0,z1,z2,z3,z4,z5,z6,z7⟩:=hz _ (Below.refl _ _);simp only [Nat.zero_mul,Nat.add_zero,Nat.one_mul] at z0 z1 z2 z3 z4 z5 z6 z7;have hl1:=HLEN.out;rw [aC,aj,aj,bm] at hl1;have hl2:(ay (ap [46])).length=1:=rfl;have hl3:(ay (eq s)).length=s.length:=rfl;have hl4:=aI (ar 8 y) st;have HE:=aW (ih y _ 8 W4 g row _ st HS.out.wp hER (HKD.out.1 y (by rw [HY.out];simp)) (HKD.out.2 y (by rw [HY.out];simp)) (by omega) (by omega));have HPT:=aW (fun W' row' X9 O9 A9 c9 k9 (h:PS w W' g row row' (aF (ar 8 y) st) w.heap.size bo X9 O9 A9 c9 k9)=>h.put2 [46] s W'.heap.size rfl (by simp) hsne (by simp only [List.length_cons,List.length_nil];omega));rw [HSS.out] at HPT;have hnk1:nk=1:=by rw [← HNK.out,HY.out];rfl
 subst hnk1;clear hz hER hl1 hl2 hl3 hl4 HKD;go_wp2_with (first
  | (go_at_call 74;refine HE.out.mono ?_;intro e w5 hp;obtain ⟨rfl,row5,hs5⟩:=HS.out.put hp;obtain ⟨v0,v1,v2⟩:=hs5.x.1.rules)
  | (go_at_call 73;refine (HPT.out _ _ _ _ _ _ _ hs5).mono ?_;rintro e w6 ⟨rfl,row6,hs6⟩))
 go_end0;exact hs6.fin
theorem vX (r:Nat) (ih:gE r):gK r (fun k=>5≤k∧k≤7):=by
 intro k v s kids cs f w g row n st hk hW hx hc hd hf hlen;have hop:=hk;obtain ⟨k1,n1,s1,A1,na1,ca1,B1,nb1,cb1,A,ca,css,rfl,hv,h1,h2,h3,h4⟩:=hx.out;have hc':=hc;unfold bB at hc';obtain ⟨_,hcv,hsl,hck,hcl⟩:=hc';have hcl:=bf.1 hcl;obtain ⟨_,hok,hdk⟩:=bR hd;have hdk:∀ x ∈ kids,bi r x≠0:=hdk;have hop9:fh v=true∧s=[]∧kids.length=1:=by
  unfold okX at hok;rw [if_neg (by omega)] at hok;split at hok
  ·cases hok
  ·rename_i hz9
   rw [if_neg (by omega),if_neg (by omega),if_neg (by omega)] at hok
   first
    | (simp only [decide_eq_true_eq] at hok;exact ⟨by simpa using hz9,hok⟩)
    | (rw [if_pos (by omega)] at hok;simp only [decide_eq_true_eq] at hok;exact ⟨by simpa using hz9,hok⟩)
    | (rw [if_neg (by omega),if_pos (by omega)] at hok;simp only [decide_eq_true_eq] at hok;exact ⟨by simpa using hz9,hok⟩)
 obtain ⟨_,_,hn1⟩:=hop9;have e1:(k == 1)=false:=by rw [beq_eq_false_iff_ne];omega
 have e2:(k == 2)=false:=by rw [beq_eq_false_iff_ne];omega
 have e3:(k == 3)=false:=by rw [beq_eq_false_iff_ne];omega
 have e4:(k == 4)=false:=by rw [beq_eq_false_iff_ne];omega
 obtain ⟨y,hy⟩:∃ y,kids=[y]:=List.length_eq_one_iff.1 hn1;have hbody:cn k v s (cD kids)=opK k::ar (aE k) y:=by rw [hy];exact (if_neg (by omega)).trans ((if_neg (by omega)).trans ((if_neg (by omega)).trans (if_neg (by omega))))
 have HL9:=aW (show aE k≤9 by unfold aE;(repeat' split)<;>omega);have HAL:=aW (show (decide (((aE k:Nat):Int)=3∨((aE k:Nat):Int)=7))=true by
  obtain rfl | rfl | rfl:k=5∨k=6∨k=7:=by omega
  all_goals rfl)
 rw [hbody] at hlen ⊢;rw [bT];have HY:=aW hy;clear hbody hn1 hy;obtain ⟨S,hS⟩:∃ S:ByteArray,⟨s.toArray⟩=S:=⟨_,rfl⟩
 rw [hS];have HSS:=aW hS;obtain ⟨nk,hnk⟩:∃ q,kids.length=q:=⟨_,rfl⟩
 rw [hnk];have HNK:=aW hnk;have HH0:=aW ((aL.nil w).push 45 #[.int .i64 k,.int .i64 k1,.int .i64 n1,.string s1,.slice A1 na1 ca1,.slice B1 nb1 cb1,.string S,.slice A nk ca] (g:=w.heap.size) rfl);have HLV:=aW (fun W (h:Below w.heap.size w W)=>eY k k1 n1 s1 A1 na1 ca1 B1 nb1 cb1 S A nk ca W (hW.goe.keep h));have HOF:=aW (fun W (h:Below w.heap.size w W)=>eOf k W (hW.goe.keep h));unfold OfP at HOF;obtain ⟨t,hof,htne,hts⟩:=gw ⟨by omega,by omega⟩ (k:=k);rw [hof] at HOF;unfold cj at HOF;simp only at HOF;have HTS:=aW (And.intro htne hts);obtain ⟨T,hT⟩:∃ T:ByteArray,⟨t.toArray⟩=T:=⟨_,rfl⟩
 rw [hT] at HOF;have HTT:=aW hT;unfold kC at HLV;obtain ⟨L,hL⟩:∃ L,aE k=L:=⟨_,rfl⟩
 rw [hL] at hf HLV HOF hlen ⊢;have HLK:=aW hL;have hlt:¬ (L:Int)<(f:Int):=by omega
 have HST:=aW (fun (W3:World) hb=>dl (W1:=w) (W3:=W3) (X:=#[.int .i64 k,.int .i64 k1,.int .i64 n1,.string s1,.slice A1 na1 ca1,.slice B1 nb1 cb1,.string S,.slice A nk ca]) (O:=#[.string T,.int .i64 k,.int .i64 L]) hW h1 h4 hb);have HKD:=aW (And.intro hcl hdk);have HLEN:=aW hlen;have HOP:=aW hop;clear hW hx hc hd hok hdk hv h1 h4 hcv hcl hS hnk hL hlen hck hsl h2 h3 hop hof htne hts hT hk;obtain ⟨c0,f0,l0⟩:=HH0.out.b0.rules;go_enter Tryz.func74,Tryz.ntmps74;go_upto_block 0 with (first
  | (go_at_call 112;refine (HLV.out _ HH0.out.1).mono ?_;rintro e w1 ⟨rfl,hb1⟩;obtain ⟨c1,f1,l1⟩:=(HH0.out.keep hb1).b0.rules)
  | (go_at_call 113;refine (HOF.out _ (HH0.out.1.trans (hb1.mono HH0.out.1.size))).mono ?_;rintro e w3 ⟨rfl,hb3⟩))
 have HS:=aW (HST.out _ (hb1.trans (hb3.mono hb1.size)));obtain ⟨W4,hW4⟩:∃ W',w3.alloc (.cells #[.string T,.int .i64 k,.int .i64 L] 154)=W':=⟨_,rfl⟩
 rw [hW4] at HS ⊢;obtain ⟨bo,hbo⟩:∃ q,w3.heap.size=q:=⟨_,rfl⟩
 rw [hbo] at HS ⊢;obtain ⟨x0,x1,x2⟩:=HS.out.x.1.rules;obtain ⟨p0,p1,p2⟩:=HS.out.o.1.rules;clear c0 f0 l0 c1 f1 l1 hb1 hb3 HH0 hW4 hbo;rw [HLK.out] at HAL HL9;rw [HTS.out.2] at ⊢;have hl1:=HLEN.out;rw [aj,HTS.out.2] at hl1;have hnk1:nk=1:=by rw [← HNK.out,HY.out];rfl
 subst hnk1;have HP1:=aW (fun W row9 X9 O9 A9 c9 k9 (h:PS w W g row row9 st w.heap.size bo X9 O9 A9 c9 k9)=>h.put1 t W.heap.size rfl HTS.out.1 (by omega));rw [HTT.out] at HP1;have HAH:=aW (fun W=>iX T k (L:Int) W);rw [HAL.out] at HAH;go_wp2_with (first
  | (go_at_call 115;refine (HAH.out _).mono ?_;rintro e wa ⟨rfl,hba⟩;have hsa:=HS.out.bel hba;obtain ⟨x0,x1,x2⟩:=hsa.x.1.rules;obtain ⟨p0,p1,p2⟩:=hsa.o.1.rules)
  | (go_at_call 73;refine (HP1.out _ _ _ _ _ _ _ hsa).mono ?_;rintro e w5 ⟨rfl,row5,hs5⟩))
 have hl4:=cm st t;have hs6:=hs5.bel ((Below.refl _ _).drew);have HS6:=aW hs6;obtain ⟨b,o,k',k1',n1',s1',A1',na1',ca1',B1',nb1',cb1',s',A2',n2',ca2',rfl,hb,hER,hz⟩:=bh hs6.ks hs6.rd (i:=0) (x:=y) (by rw [HY.out];rfl);simp only [Nat.zero_mul,Nat.add_zero,Nat.one_mul] at hz;obtain ⟨z0,z1,z2,z3,z4,z5,z6,z7⟩:=hz _ ah.refl;have HZ:=aW hz;have HE:=aW (ih y _ L _ g row5 _ _ hs6.wp hER (HKD.out.1 y (by rw [HY.out];simp)) (HKD.out.2 y (by rw [HY.out];simp)) (by have:=HL9.out;omega) (by omega));have q7:=hs6.x.1.cell 7;have q2:=hs6.o.1.cell 2;simp at q7 q2;clear hz hER HKD x0 x1 x2 p0 p1 p2 hs6;go_region_held3 (fun w'=>w'.cell? ⟨w.heap.size,7,none⟩=some (.slice (some ⟨b,o,none⟩) 1 ca)∧w'.cell? ⟨bo,2,none⟩=some (.int .i64 L)∧w'.cell? ⟨b,o,none⟩=some (.int .i64 k')∧w'.cell? ⟨b,o+1,none⟩=some (.int .i64 k1')∧w'.cell? ⟨b,o+2,none⟩=some (.int .i64 n1')∧w'.cell? ⟨b,o+3,none⟩=some (.string s1')∧w'.cell? ⟨b,o+4,none⟩=some (.slice A1' na1' ca1')∧w'.cell? ⟨b,o+5,none⟩=some (.slice B1' nb1' cb1')∧w'.cell? ⟨b,o+6,none⟩=some (.string s')∧w'.cell? ⟨b,o+7,none⟩=some (.slice A2' n2' ca2')) (go_keep) ((go_at_call 74;refine HE.out.mono ?_;intro e w7 hp;obtain ⟨rfl,row7,hs7,hk7⟩:=HS6.out.putM hp;obtain ⟨y0,y1,y2,y3,y4,y5,y6,y7⟩:=HZ.out _ hk7;have r7:=hs7.x.1.cell 7;have r2:=hs7.o.1.cell 2;simp at r7 r2));go_wp2;go_end0;exact hs7.fin
theorem iV:∀ (l m:List (List LX)),l≠[]→m≠[]→bd (l++m)=bd l++ap [44]::bd m
 | [],_,h,_=>absurd rfl h
 | [a],b::m,_,_=>rfl
 | [_],[],_,h=>absurd rfl h
 |a::b::r,m,_,h=>by
  show a++ap [44]::bd (b::r++m)=_
  rw [iV (b::r) m (by simp) h];show _=(a++ap [44]::bd (b::r))++_
  simp
theorem qn (l:List (List LX)) (a:List LX):bd (l++[a])=if l=[] then a else bd l++ap [44]::a:=by
 by_cases h:l=[]
 ·rw [if_pos h,h];rfl
 ·rw [if_neg h,iV l [a] h (by simp)];rfl
theorem qo (l:List (List LX)) (j:Nat):bO (bd (l.take j))≤bO (bd l):=by
 by_cases h1:l.take j=[]
 ·rw [h1];show 0≤_;omega
 by_cases h2:l.drop j=[]
 ·have h:=List.take_append_drop j l;rw [h2,List.append_nil] at h;rw [h];exact Nat.le_refl _
 ·have h:=iV _ _ h1 h2;rw [List.take_append_drop] at h;rw [h,aC];omega
theorem PS.putG {w W W':World} {g:Nat} {row0 row:Value} {st st':List UInt8 × Bool} {bx bo:Nat} {X O:Array Value} {A:Option Addr} {css:List (List Value)} {kids:List EJ} (h:PS w W g row0 row st bx bo X O A css kids) {e:Ending} (hp:gj g row st' W e W'):e=.returned (.tuple #[])∧∃ row',PS w W' g row0 row' st' bx bo X O A css kids∧MG g row W row' W':=by
 obtain ⟨rfl,row',n',h1,h2⟩:=hp;have hn:=h1.own.1;subst hn;exact ⟨rfl,row',h.step h2 h1,h2⟩
def cI (kids:List EJ) (i:Nat):List LX:=ap [91]::bd ((kids.take i).map (ar 1))
theorem sA {kids:List EJ} {y:EJ} (h:kids[0]? = some y):cI kids (0+1)=cI kids 0++ar 1 y:=by
 unfold cI;rw [List.take_add_one,h];rfl
theorem qJ {kids:List EJ} {i:Nat} {y:EJ} (h:kids[i+1]? = some y):cI kids (i+1+1)=cI kids (i+1)++ap [44]::ar 1 y:=by
 unfold cI;rw [List.take_add_one (i:=i+1),h];show _::bd ((kids.take (i+1)++[y]).map (ar 1))=_
 rw [List.map_append];show _::bd (_++[ar 1 y])=_
 rw [qn,if_neg]
 ·rfl
 ·intro e;have:=congrArg List.length e;have h9:=(List.getElem?_eq_some_iff.1 h).1;simp at this;rw [this] at h9;exact absurd h9 (Nat.not_lt_zero _)
theorem sw (kids:List EJ) (i:Nat):bO (cI kids i)≤bO (ap [91]::bd (kids.map (ar 1))):=by
 unfold cI;rw [aj,aj,List.map_take];have:=qo (kids.map (ar 1)) i;omega
theorem xO (r:Nat) (ih:gE r):gK r (fun k=>k=4):=by
 intro k v s kids cs f w g row n st hk hW hx hc hd hf hlen;subst hk;obtain ⟨k1,n1,s1,A1,na1,ca1,B1,nb1,cb1,A,ca,css,rfl,hv,h1,h2,h3,h4⟩:=hx.out;have hc':=hc;unfold bB at hc';obtain ⟨_,hcv,hsl,hck,hcl⟩:=hc';have hcl:=bf.1 hcl;obtain ⟨_,hok,hdk⟩:=bR hd;have hdk:∀ x ∈ kids,bi r x≠0:=hdk;have HCK:=aW hck;have hbody:cn 4 v s (cD kids)=cI kids kids.length++[ap [93]]:=by
  rw [iH];refine ((if_neg (by decide)).trans ((if_neg (by decide)).trans ((if_neg (by decide)).trans (if_pos rfl)))).trans ?_;unfold cI;rw [List.take_length,List.map_map];rfl
 rw [hbody] at hlen ⊢;rw [bM];clear hbody;obtain ⟨S,hS⟩:∃ S:ByteArray,⟨s.toArray⟩=S:=⟨_,rfl⟩
 rw [hS];have HSS:=aW hS;obtain ⟨nk,hnk⟩:∃ q,kids.length=q:=⟨_,rfl⟩
 rw [hnk];have HNK:=aW hnk;have HH0:=aW ((aL.nil w).push 45 #[.int .i64 4,.int .i64 k1,.int .i64 n1,.string s1,.slice A1 na1 ca1,.slice B1 nb1 cb1,.string S,.slice A nk ca] (g:=w.heap.size) rfl);have HLV:=aW (fun W (h:Below w.heap.size w W)=>eY 4 k1 n1 s1 A1 na1 ca1 B1 nb1 cb1 S A nk ca W (hW.goe.keep h));have HOF:=aW (fun W (h:Below w.heap.size w W)=>eOf 4 W (hW.goe.keep h));unfold OfP at HOF;rw [j5 (by omega)] at HOF;unfold cj fi at HOF;simp only at HOF;unfold kC at HLV;obtain ⟨L,hL⟩:∃ L,aE 4=L:=⟨_,rfl⟩
 rw [hL] at hf HLV;have HLK:=aW hL;have hlt:¬ (L:Int)<(f:Int):=by omega
 have HST:=aW (fun (W3:World) hb=>dl (W1:=w) (W3:=W3) (X:=#[.int .i64 4,.int .i64 k1,.int .i64 n1,.string s1,.slice A1 na1 ca1,.slice B1 nb1 cb1,.string S,.slice A nk ca]) (O:=#[.string ⟨#[]⟩,.int .i64 0,.int .i64 0]) hW h1 h4 hb);have HKD:=aW (And.intro hcl hdk);have HLEN:=aW hlen;have HOP:=aW trivial;clear hW hx hc hd hok hdk hv h1 h4 hcv hcl hS hnk hL hlen hck hsl h2 h3;obtain ⟨c0,f0,l0⟩:=HH0.out.b0.rules;go_enter Tryz.func74,Tryz.ntmps74;go_upto_block 0 with (first
  | (go_at_call 112;refine (HLV.out _ HH0.out.1).mono ?_;rintro e w1 ⟨rfl,hb1⟩;obtain ⟨c1,f1,l1⟩:=(HH0.out.keep hb1).b0.rules)
  | (go_at_call 113;refine (HOF.out _ (HH0.out.1.trans (hb1.mono HH0.out.1.size))).mono ?_;rintro e w3 ⟨rfl,hb3⟩))
 have HS:=aW (HST.out _ (hb1.trans (hb3.mono hb1.size)));obtain ⟨W4,hW4⟩:∃ W',w3.alloc (.cells #[.string ⟨#[]⟩,.int .i64 0,.int .i64 0] 154)=W':=⟨_,rfl⟩
 rw [hW4] at HS ⊢;obtain ⟨bo,hbo⟩:∃ q,w3.heap.size=q:=⟨_,rfl⟩
 rw [hbo] at HS ⊢;obtain ⟨x0,x1,x2⟩:=HS.out.x.1.rules;obtain ⟨p0,p1,p2⟩:=HS.out.o.1.rules;clear c0 f0 l0 c1 f1 l1 hb1 hb3 HH0 hW4 hbo;rw [HNK.out] at HLEN HCK;have hl1:=HLEN.out;rw [aC,aj,bm] at hl1;have hl2:(ay (ap [93])).length=1:=rfl;have HLI:=aW (show ∀ i,i≤nk→bO (cI kids i)≤bO (cI kids nk) from fun i _=>by
  have h1:=sw kids i;have h2:cI kids nk=ap [91]::bd (kids.map (ar 1)):=by unfold cI;rw [List.take_of_length_le (Nat.le_of_eq HNK.out)]
  rw [h2];exact h1)
 have HLN:=aW (show st.1.length+(bO (cI kids nk)+2)≤100000000000 by omega);have hl0:st.1.length+(1+1)≤100000000000:=by omega
 have HP0:=aW (HS.out.put1 [91] W4.heap.size rfl (by simp) hl0);clear hl1 hl2 hl0;go_wp2_with (go_at_call 73;refine HP0.out.mono ?_;rintro e w5 ⟨rfl,row5,hs5⟩;obtain ⟨v0,v1,v2⟩:=hs5.x.1.rules);have HS5:=aW hs5;clear v0 v1 v2 hs5 x0 x1 x2 p0 p1 p2 HP0;go_loopg [7,8,95] nk (fun gk s7 s8 s95 wr => ∃ (i:Nat) (row':Value),i≤nk∧gk=nk-i∧s95=.int .i64 (i:Int)∧Hid (PS w wr g row row' (aF (cI kids i) st) w.heap.size bo #[.int .i64 4,.int .i64 k1,.int .i64 n1,.string s1,.slice A1 na1 ca1,.slice B1 nb1 cb1,.string S,.slice A nk ca] #[.string ⟨#[]⟩,.int .i64 0,.int .i64 0] A css kids))
 case atStart=>exact ⟨0,row5,Nat.zero_le _,rfl,rfl,HS5⟩
 case round =>
  obtain ⟨i,row1,hik,hgk,rfl,HS1⟩:=hrel;have HGK:=aW hgk;clear hgk HS5;by_cases hlt:i<nk
  ·obtain ⟨y,hy⟩:∃ y,kids[i]? = some y:=⟨_,List.getElem?_eq_getElem (by rw [HNK.out];exact hlt)⟩
   have hym:=List.mem_of_getElem? hy;have HYC:=aW (And.intro (HKD.out.1 y hym) (HKD.out.2 y hym));obtain ⟨b,o,k',k1',n1',s1',A1',na1',ca1',B1',nb1',cb1',s',A2',n2',ca2',rfl,hb,hER,hz⟩:=bh HS1.out.ks HS1.out.rd hy;obtain ⟨z0,z1,z2,z3,z4,z5,z6,z7⟩:=hz _ ah.refl;have hba:=(Below.refl wr.heap.size wr).alloc (Nat.le_refl _) (.cells ([.int .i64 k',.int .i64 k1',.int .i64 n1',.string s1',.slice A1' na1' ca1',.slice B1' nb1' cb1',.string s',.slice A2' n2' ca2']).toArray 45);have HS8:=aW (HS1.out.bel hba);have HB8:=aW (And.intro (PB.new HS1.out.wp ([.int .i64 k',.int .i64 k1',.int .i64 n1',.string s1',.slice A1' na1' ca1',.slice B1' nb1' cb1',.string s',.slice A2' n2' ca2']).toArray 45) (hER.mg (MG.bel (mb:=g) (a:=row1) hba)));have hfl:=aI (cI kids i) st;have hli:=HLI.out i hik;clear hz hER hym hba;by_cases hi0:i=0
   ·have h0i:¬ (0:Int)<(i:Int):=by omega
    have HT:=aW (show cI kids (i+1)=cI kids i++ar 1 y by rw [hi0] at hy ⊢;exact sA hy);have HI0:=aW hi0;clear hi0;have h9:=HLI.out (i+1) hlt;rw [HT.out,aC] at h9;have hm9:=HLN.out;have HE:=aW (ih y _ 1 _ g row1 _ _ HS8.out.wp HB8.out.2 HYC.out.1 HYC.out.2 (by decide) (by omega));clear h9 hfl hli hy hm9;go_wp2_with (go_at_call 74;refine HE.out.mono ?_;intro e w9 hp;obtain ⟨rfl,row9,hs9,hm9⟩:=HS8.out.putG hp);have HS9:=aW (show PS w w9 g row row9 (aF (cI kids (i+1)) st) w.heap.size bo _ _ _ _ _ by rw [HT.out,bM];exact hs9);go_roundg (nk-(i+1))
    case measure=>have:=HGK.out;omega
    case rel=>exact ⟨i+1,row9,hlt,rfl,by go_num,HS9⟩
   ·have h0i:(0:Int)<(i:Int):=by omega
    have hi9:i≤4194304:=Nat.le_trans hik HCK.out;have HT:=aW (show cI kids (i+1)=cI kids i++ap [44]::ar 1 y by
     obtain ⟨m,rfl⟩:∃ m,i=m+1:=⟨i-1,by omega⟩
     exact qJ hy)
    have h9:=HLI.out (i+1) hlt;rw [HT.out,aC,aj] at h9;have h8:(ay (ap [44])).length=1:=rfl;have hm9:=HLN.out;have hpl:=cm (aF (cI kids (i)) st) [44];simp only [List.length_cons,List.length_nil] at hpl;have HP1:=aW (fun W p (hp:p=W.heap.size) (h:WP W g row1 (aF (cI kids (i)) st).1.length (aF (cI kids (i)) st).1 (aF (cI kids (i)) st).2)=>io [44] W p g row1 _ _ _ h hp (by simp) (by simp only [List.length_cons,List.length_nil];omega));have HE:=aW (fun W' row' X9 O9 A9 c9 k9 (h:PS w W' g row row' (a9 (aF (cI kids (i)) st) [44]) w.heap.size bo X9 O9 A9 c9 k9) (hER:ER W' (PbM g row' W') [.int .i64 k',.int .i64 k1',.int .i64 n1',.string s1',.slice A1' na1' ca1',.slice B1' nb1' cb1',.string s',.slice A2' n2' ca2'] y)=>ih y _ 1 W' g row' _ _ h.wp hER HYC.out.1 HYC.out.2 (by decide) (by omega));clear h9 h8 hfl hli hy hpl hm9;go_wp2_with (first
     | (go_at_call 73;refine (HP1.out _ _ (by simp) HS8.out.wp).mono ?_;intro e w6 hp;obtain ⟨rfl,row6,hs6,hm6⟩:=HS8.out.putG hp;have hb6:=HB8.out.1.mg hm6;have HE6:=aW (HE.out _ _ _ _ _ _ _ hs6 (HB8.out.2.mg hm6));obtain ⟨q0,q1,q2⟩:=hb6.1.rules)
     | (go_at_call 74;refine HE6.out.mono ?_;intro e w9 hp;obtain ⟨rfl,row9,hs9,hm9⟩:=hs6.putG hp))
    have HS9:=aW (show PS w w9 g row row9 (aF (cI kids (i+1)) st) w.heap.size bo _ _ _ _ _ by rw [HT.out,bM,bT];exact hs9);go_roundg (nk-(i+1))
    case measure=>have:=HGK.out;omega
    case rel=>exact ⟨i+1,row9,hlt,rfl,by go_num,HS9⟩
  ·obtain rfl:i=nk:=by omega
   have hfl:=aI (cI kids i) st;have hm9:=HLN.out;have HP9:=aW (HS1.out.put1 [93] wr.heap.size rfl (by simp) (by simp only [List.length_cons,List.length_nil];omega));clear hfl hm9;go_wp2_with (go_at_call 73;refine HP9.out.mono ?_;rintro e w6 ⟨rfl,row6,hs6⟩);go_end0;exact hs6.fin
end
end Go.Proofs.YtgmnmnnoahdjnaaGreatDoor
