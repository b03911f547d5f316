import Derived.Test.YtgolomgmnanbpaaGreatDoorV27
open Go.Value renaming int → Zi, slice → Zs, string → Zt, pointer → Zp
open Go.IntKind renaming i64 → Zq
set_option maxRecDepth 100000
set_option maxHeartbeats 16000000
set_option linter.unusedVariables false
set_option linter.unusedSimpArgs false
namespace Go.Proofs.YtgolomgmnanbpaaGreatDoor
section
open Go.RowKit
attribute [local go_sem] aa ac ae ab
theorem wW {env:List (List UInt8 × JV)} {v:JV} {s:List UInt8} {ya yb:EJ} {cs:List Value} {EA:Option Addr} {n ec:Nat} {F:Nat->Prop} {w:World} (hF:∀ b,F b->b<w.heap.size) (hx:ER w F cs (.mk 10 v s [ya,yb])) (hcx:bh (.mk 10 v s [ya,yb]))
  (ka:dA EA n ec F env w ya) (kb:dA EA n ec F env w yb) (oa ob:Option JV) (hoa:evE env ya=oa) (hob:evE env yb=ob) (op:Option JV) (hop:bg env 10 v s [oa,ob]=op) :
  Calls Tryz.prog 17 #[.agg cs.toArray,Zs EA n ec] w (IsP op F w):=by
 obtain ⟨k1,n1,s1,A1,na1,ca1,B1,nb1,cb1,A,ca,css0,rfl,hv,h1,h2,h3,h4⟩:=hx.out;obtain ⟨b,o,kx,px,nx,sx,Ax,nax,cax,Bx,nbx,cbx,zx,Cx,ncx,ccx,rfl,hb,hER,hz⟩:=aq h1 h4 (i:=0) (x:=ya) rfl;have HKA:=aW (λ (W:World) (h:Below w.heap.size w W)=>ka W _ h (hER.bel h));obtain ⟨b',o',ky,py,ny,sy,Ay,nay,cay,By,nby,cby,zy,Cy,ncy,ccy,hbb,hb2,hER2,hz2⟩:=aq h1 h4 (i:=1) (x:=yb) rfl;injection hbb with hbb;injection hbb with hb1 hb3
 subst hb1 hb3;have HKB:=aW (λ (W:World) (h:Below w.heap.size w W)=>kb W _ h (hER2.bel h));have HZ2:=aW hz2;rw [hoa] at HKA;rw [hob] at HKB;obtain ⟨nr,hnr⟩:∃ q:Nat,2=q:=⟨_,rfl⟩
 have hnr1:0<nr:=by omega
 have hnr2:1<nr:=by omega
 have HFF:=aW hF;have HOP:=aW hop;have HVS:=aW hv;have HH0:=aW (((aj.nil w).push 28 #[Zi Zq 10,Zi Zq k1,Zi Zq n1,Zt s1,Zs A1 na1 ca1,Zs B1 nb1 cb1,Zt ⟨s.toArray⟩,Zs (some ⟨b,o,none⟩) nr ca] (g:=w.heap.size) rfl).push 40 #[Zi Zq 0,Zi Zq 0,Zt ⟨#[]⟩,Zs none 0 0,Zs none 0 0,.bool false] (g:=w.heap.size+1) (by simp));obtain ⟨z0,z1,z2,z3,z4,z5,z6,z7⟩:=hz _ HH0.out.1;rw [dP] at z0 z1 z2 z3 z4 z5 z6 z7;have hlb:b<w.heap.size:=hb;have hlb2:b≠w.heap.size+1:=by omega
 rw [show ([ya,yb]:List EJ).length=nr from hnr];obtain ⟨c0,f0,l0⟩:=HH0.out.b1.rules;clear hF hx hcx hv h1 h2 h3 h4 hER hz hb hoa hob hop hnr ka kb hER2 hz2 hb2;go_enter Tryz.func17,Tryz.ntmps17;go_wp2_with fail;refine (HKA.out _ HH0.out.1).mono ?_;rintro e w1 ⟨k5,n5,s5,A5,na5,ca5,B5,nb5,cb5,va,ba,rfl,hva,hca,hoa,hga,hza,hb1⟩;obtain ⟨WA,hWA⟩:∃ W,w1.alloc (.cells #[Zi Zq k5,Zi Zq n5,Zt s5,Zs A5 na5 ca5,Zs B5 nb5 cb5,.bool ba] 40)=W:=⟨_,rfl⟩
 have HWA:=aW hWA;have HH1:=aW (show aj [(w1.heap.size,40,#[Zi Zq k5,Zi Zq n5,Zt s5,Zs A5 na5 ca5,Zs B5 nb5 cb5,.bool ba]),(w.heap.size+1,40,#[Zi Zq 0,Zi Zq 0,Zt ⟨#[]⟩,Zs none 0 0,Zs none 0 0,.bool false]),(w.heap.size,28,#[Zi Zq 10,Zi Zq k1,Zi Zq n1,Zt s1,Zs A1 na1 ca1,Zs B1 nb1 cb1,Zt ⟨s.toArray⟩,Zs (some ⟨b,o,none⟩) nr ca])] w WA by rw [← hWA];exact (HH0.out.keep hb1).push 40 #[Zi Zq k5,Zi Zq n5,Zt s5,Zs A5 na5 ca5,Zs B5 nb5 cb5,.bool ba] (g:=w1.heap.size) rfl);have HW1:=aW (show Below w1.heap.size w1 WA by rw [← hWA];exact (Below.refl _ w1).alloc (Nat.le_refl _) _);have HVA:=aW (λ (W:World) (h:Below w1.heap.size w1 W)=>IsP.val (w:=w) (by simp) hva h);have HQA:=aW (And.intro hca (And.intro hoa (And.intro hga hza)));have hs1:w.heap.size+2<=w1.heap.size:=by have:=hb1.size;simpa using this
 have hn1:w1.heap.size≠w.heap.size+1:=by omega
 have hn2:w1.heap.size≠w.heap.size:=by omega
 clear hWA hva hca hoa hga hza hb1 c0 f0 l0 z0 z1 z2 z3 z4 z5 z6 z7 HKA;go_upto_region 24 with fail;rw [HWA.out];clear HWA;obtain ⟨c0,f0,l0⟩:=HH1.out.b2.rules;obtain ⟨c1,f1,l1⟩:=HH1.out.b1.rules;obtain ⟨c2,f2,l2⟩:=HH1.out.b0.rules;cases ba with
 |false =>
  have HX:=aW (show op=none by rw [← HOP.out,HQA.out.2.1];rfl);go_upto_region 25 with fail
  try simp only []
  go_step;go_step;go_step;go_step;refine bS rfl 40 4 98 rfl (w.heap.size+1) 0 #[Zi Zq 0,Zi Zq 0,Zt ⟨#[]⟩,Zs none 0 0,Zs none 0 0,.bool false] rfl rfl HH1.out.b1.there ?_;have HBR:=aW (HH1.out.b1.set6C (Zi Zq 0) (Zi Zq 0) (Zt ⟨#[]⟩) (Zs none 0 0) (Zs none 0 0) (.bool false));have HPT:=aW (show IsP op F w (.returned (.agg #[Zi Zq 0,Zi Zq 0,Zt ⟨#[]⟩,Zs none 0 0,Zs none 0 0,.bool false])) (WA.setCells (w.heap.size+1) 0 [Zi Zq 0,Zi Zq 0,Zt ⟨#[]⟩,Zs none 0 0,Zs none 0 0,.bool false]) from IsP.nilC HX.out HH1.out.1);obtain ⟨WG,hWG⟩:∃ W',WA.setCells (w.heap.size+1) 0 [Zi Zq 0,Zi Zq 0,Zt ⟨#[]⟩,Zs none 0 0,Zs none 0 0,.bool false]=W':=⟨_,rfl⟩
  rw [hWG] at HBR HPT
  try simp only []
  rw [hWG];clear hWG;obtain ⟨cR,fR,lR⟩:=HBR.out.rules;go_wp2_with ((with_reducible refine bodyPost_ret (v:=.agg #[Zi Zq 0,Zi Zq 0,Zt ⟨#[]⟩,Zs none 0 0,Zs none 0 0,.bool false]) ?_ rfl ?_);(simp only [results,Tryz.results17];go_simp);exact HPT.out)
 | true =>
 have HOA:=aW (show oa=some va from HQA.out.2.1);have HGA:=aW (HQA.out.2.2.1 rfl);have HCA:=aW HQA.out.1;clear HQA;go_wp2_with fail;refine (cU _ _ _ _ _ _ _ _ _ _ _).mono ?_;rintro e w2 ⟨rfl,hb2⟩;have HH2:=aW (HH1.out.keep hb2);have HW2:=aW (HW1.out.trans (hb2.mono HW1.out.size));clear hb2 c0 f0 l0 c1 f1 l1 c2 f2 l2;obtain ⟨c0,f0,l0⟩:=HH2.out.b2.rules;obtain ⟨c1,f1,l1⟩:=HH2.out.b1.rules;obtain ⟨c2,f2,l2⟩:=HH2.out.b0.rules;obtain ⟨y0,y1,y2,y3,y4,y5,y6,y7⟩:=HZ2.out _ HH2.out.1;rw [Nat.one_mul] at y0 y1 y2 y3 y4 y5 y6 y7;have hlb9:b<w2.heap.size:=Nat.lt_of_lt_of_le hlb HH2.out.1.size;have hs2:w.heap.size+2<=w2.heap.size:=Nat.le_trans hs1 HW2.out.size;go_upto_region 56 with fail;go_wp2_with fail;refine (HKB.out _ HH2.out.1).mono ?_;rintro e w3 ⟨k6,n6,s6,A6,na6,ca6,B6,nb6,cb6,vb,bb,rfl,hvb,hcb,hob,hgb,hzb,hb3⟩;obtain ⟨WB,hWB⟩:∃ W,w3.alloc (.cells #[Zi Zq k6,Zi Zq n6,Zt s6,Zs A6 na6 ca6,Zs B6 nb6 cb6,.bool bb] 40)=W:=⟨_,rfl⟩
 have HWB:=aW hWB;have HH3:=aW (show aj [(w3.heap.size,40,#[Zi Zq k6,Zi Zq n6,Zt s6,Zs A6 na6 ca6,Zs B6 nb6 cb6,.bool bb]),(w1.heap.size,40,#[Zi Zq k5,Zi Zq n5,Zt s5,Zs A5 na5 ca5,Zs B5 nb5 cb5,.bool true]),(w.heap.size+1,40,#[Zi Zq 0,Zi Zq 0,Zt ⟨#[]⟩,Zs none 0 0,Zs none 0 0,.bool false]),(w.heap.size,28,#[Zi Zq 10,Zi Zq k1,Zi Zq n1,Zt s1,Zs A1 na1 ca1,Zs B1 nb1 cb1,Zt ⟨s.toArray⟩,Zs (some ⟨b,o,none⟩) nr ca])] w WB by rw [← hWB];exact (HH2.out.keep hb3).push 40 #[Zi Zq k6,Zi Zq n6,Zt s6,Zs A6 na6 ca6,Zs B6 nb6 cb6,.bool bb] (g:=w3.heap.size) rfl);have HW3:=aW (show Below w3.heap.size w3 WB by rw [← hWB];exact (Below.refl _ w3).alloc (Nat.le_refl _) _);have HW13:=aW (HW2.out.trans (hb3.mono HW2.out.size));have HW14:=aW (HW13.out.trans (HW3.out.mono HW13.out.size));have HVB:=aW (λ (W:World) (h:Below w3.heap.size w3 W)=>IsP.val (w:=w) hs2 hvb h);have HQB:=aW (And.intro hcb (And.intro hob (And.intro hgb hzb)));have hn3:w3.heap.size≠w.heap.size+1:=by have:=hb3.size;omega
 have hn4:w3.heap.size≠w.heap.size:=by have:=hb3.size;omega
 have hn5:w3.heap.size≠w1.heap.size:=by have:=hb3.size;have:=HH2.out.b0.lt;omega
 clear hWB hvb hcb hob hgb hzb hb3 c0 f0 l0 c1 f1 l1 c2 f2 l2 y0 y1 y2 y3 y4 y5 y6 y7 HKB HZ2;go_upto_region 57 with fail;rw [HWB.out];clear HWB;obtain ⟨c0,f0,l0⟩:=HH3.out.b3.rules;obtain ⟨c1,f1,l1⟩:=HH3.out.b2.rules;obtain ⟨c2,f2,l2⟩:=HH3.out.b1.rules;obtain ⟨c3,f3,l3⟩:=HH3.out.b0.rules;cases bb with
 |false =>
  have HX:=aW (show op=none by rw [← HOP.out,HOA.out,HQB.out.2.1];exact fP (by omega));go_upto_region 58 with fail
  try simp only []
  go_step;go_step;go_step;go_step;refine bS rfl 40 4 206 rfl (w.heap.size+1) 0 #[Zi Zq 0,Zi Zq 0,Zt ⟨#[]⟩,Zs none 0 0,Zs none 0 0,.bool false] rfl rfl HH3.out.b2.there ?_;have HBR:=aW (HH3.out.b2.set6C (Zi Zq 0) (Zi Zq 0) (Zt ⟨#[]⟩) (Zs none 0 0) (Zs none 0 0) (.bool false));have HPT:=aW (show IsP op F w (.returned (.agg #[Zi Zq 0,Zi Zq 0,Zt ⟨#[]⟩,Zs none 0 0,Zs none 0 0,.bool false])) (WB.setCells (w.heap.size+1) 0 [Zi Zq 0,Zi Zq 0,Zt ⟨#[]⟩,Zs none 0 0,Zs none 0 0,.bool false]) from IsP.nilC HX.out HH3.out.1);obtain ⟨WG,hWG⟩:∃ W',WB.setCells (w.heap.size+1) 0 [Zi Zq 0,Zi Zq 0,Zt ⟨#[]⟩,Zs none 0 0,Zs none 0 0,.bool false]=W':=⟨_,rfl⟩
  rw [hWG] at HBR HPT
  try simp only []
  rw [hWG];clear hWG;obtain ⟨cR,fR,lR⟩:=HBR.out.rules;go_wp2_with ((with_reducible refine bodyPost_ret (v:=.agg #[Zi Zq 0,Zi Zq 0,Zt ⟨#[]⟩,Zs none 0 0,Zs none 0 0,.bool false]) ?_ rfl ?_);(simp only [results,Tryz.results17];go_simp);exact HPT.out)
 | true =>
 have HOB:=aW (show ob=some vb from HQB.out.2.1);have HGB:=aW (HQB.out.2.2.1 rfl);have HCB:=aW HQB.out.1;clear HQB;have HKN:=aW (And.intro (br (HVA.out _ (Below.refl _ _))) (br (HVB.out _ (Below.refl _ _))));have HO:=aW (show op=if k5=3/\k6=3 then mB 10 n5 n6 else none by
  rw [← HOP.out,HOA.out,HOB.out,mC (by omega),HKN.out.1.1,HKN.out.1.2.1,HKN.out.2.1,HKN.out.2.2.1])
 by_cases hk5:k5=3;rotate_left
 ·have e5:(k5 != 3)=true:=by simp [hk5]
  have HX:=aW (show op=none by rw [HO.out,if_neg (λ h=>hk5 h.1)]);clear hk5;go_upto_region 63 with fail
  try simp only []
  go_step;go_step;go_step;go_step;refine bS rfl 40 4 242 rfl (w.heap.size+1) 0 #[Zi Zq 0,Zi Zq 0,Zt ⟨#[]⟩,Zs none 0 0,Zs none 0 0,.bool false] rfl rfl HH3.out.b2.there ?_;have HBR:=aW (HH3.out.b2.set6C (Zi Zq 0) (Zi Zq 0) (Zt ⟨#[]⟩) (Zs none 0 0) (Zs none 0 0) (.bool false));have HPT:=aW (show IsP op F w (.returned (.agg #[Zi Zq 0,Zi Zq 0,Zt ⟨#[]⟩,Zs none 0 0,Zs none 0 0,.bool false])) (WB.setCells (w.heap.size+1) 0 [Zi Zq 0,Zi Zq 0,Zt ⟨#[]⟩,Zs none 0 0,Zs none 0 0,.bool false]) from IsP.nilC HX.out HH3.out.1);obtain ⟨WG,hWG⟩:∃ W',WB.setCells (w.heap.size+1) 0 [Zi Zq 0,Zi Zq 0,Zt ⟨#[]⟩,Zs none 0 0,Zs none 0 0,.bool false]=W':=⟨_,rfl⟩
  rw [hWG] at HBR HPT
  try simp only []
  rw [hWG];clear hWG;obtain ⟨cR,fR,lR⟩:=HBR.out.rules;go_wp2_with ((with_reducible refine bodyPost_ret (v:=.agg #[Zi Zq 0,Zi Zq 0,Zt ⟨#[]⟩,Zs none 0 0,Zs none 0 0,.bool false]) ?_ rfl ?_);(simp only [results,Tryz.results17];go_simp);exact HPT.out)
 by_cases hk6:k6=3;rotate_left
 ·have e5:(k5 != 3)=false:=by simp [hk5]
  have e6:(k6 != 3)=true:=by simp [hk6]
  have HX:=aW (show op=none by rw [HO.out,if_neg (λ h=>hk6 h.2)]);clear hk5 hk6;go_upto_region 63 with fail
  try simp only []
  go_step;go_step;go_step;go_step;refine bS rfl 40 4 242 rfl (w.heap.size+1) 0 #[Zi Zq 0,Zi Zq 0,Zt ⟨#[]⟩,Zs none 0 0,Zs none 0 0,.bool false] rfl rfl HH3.out.b2.there ?_;have HBR:=aW (HH3.out.b2.set6C (Zi Zq 0) (Zi Zq 0) (Zt ⟨#[]⟩) (Zs none 0 0) (Zs none 0 0) (.bool false));have HPT:=aW (show IsP op F w (.returned (.agg #[Zi Zq 0,Zi Zq 0,Zt ⟨#[]⟩,Zs none 0 0,Zs none 0 0,.bool false])) (WB.setCells (w.heap.size+1) 0 [Zi Zq 0,Zi Zq 0,Zt ⟨#[]⟩,Zs none 0 0,Zs none 0 0,.bool false]) from IsP.nilC HX.out HH3.out.1);obtain ⟨WG,hWG⟩:∃ W',WB.setCells (w.heap.size+1) 0 [Zi Zq 0,Zi Zq 0,Zt ⟨#[]⟩,Zs none 0 0,Zs none 0 0,.bool false]=W':=⟨_,rfl⟩
  rw [hWG] at HBR HPT
  try simp only []
  rw [hWG];clear hWG;obtain ⟨cR,fR,lR⟩:=HBR.out.rules;go_wp2_with ((with_reducible refine bodyPost_ret (v:=.agg #[Zi Zq 0,Zi Zq 0,Zt ⟨#[]⟩,Zs none 0 0,Zs none 0 0,.bool false]) ?_ rfl ?_);(simp only [results,Tryz.results17];go_simp);exact HPT.out)
 have e5:(k5 != 3)=false:=by simp [hk5]
 have e6:(k6 != 3)=false:=by simp [hk6]
 have HN:=aW (show op=mB 10 n5 n6 by rw [HO.out,if_pos ⟨hk5,hk6⟩]);clear HO hk5 hk6;have HSU:=aW (uz n5 n6 WB (show iw n5 by rw [← HKN.out.1.2.1];exact fF HCA.out) (show iw n6 by rw [← HKN.out.2.2.1];exact fF HCB.out));go_upto_region 70 with fail;go_wp2_with fail;refine HSU.out.mono ?_;intro e w4 h;obtain ⟨rfl,⟨hi,rfl⟩ | ⟨hi,rfl⟩⟩:=h.cases;rotate_left
 ·have HX:=aW (show op=none by rw [HN.out];exact mp hi);clear h hi;go_upto_region 72 with fail
  try simp only []
  go_step;go_step;go_step;go_step;refine bS rfl 40 4 281 rfl (w.heap.size+1) 0 #[Zi Zq 0,Zi Zq 0,Zt ⟨#[]⟩,Zs none 0 0,Zs none 0 0,.bool false] rfl rfl HH3.out.b2.there ?_;have HBR:=aW (HH3.out.b2.set6C (Zi Zq 0) (Zi Zq 0) (Zt ⟨#[]⟩) (Zs none 0 0) (Zs none 0 0) (.bool false));have HPT:=aW (show IsP op F w (.returned (.agg #[Zi Zq 0,Zi Zq 0,Zt ⟨#[]⟩,Zs none 0 0,Zs none 0 0,.bool false])) (w4.setCells (w.heap.size+1) 0 [Zi Zq 0,Zi Zq 0,Zt ⟨#[]⟩,Zs none 0 0,Zs none 0 0,.bool false]) from IsP.nilC HX.out HH3.out.1);obtain ⟨WG,hWG⟩:∃ W',w4.setCells (w.heap.size+1) 0 [Zi Zq 0,Zi Zq 0,Zt ⟨#[]⟩,Zs none 0 0,Zs none 0 0,.bool false]=W':=⟨_,rfl⟩
  rw [hWG] at HBR HPT
  try simp only []
  rw [hWG];clear hWG;obtain ⟨cR,fR,lR⟩:=HBR.out.rules;go_wp2_with ((with_reducible refine bodyPost_ret (v:=.agg #[Zi Zq 0,Zi Zq 0,Zt ⟨#[]⟩,Zs none 0 0,Zs none 0 0,.bool false]) ?_ rfl ?_);(simp only [results,Tryz.results17];go_simp);exact HPT.out)
 have HX:=aW (show op=some (cC _) from by rw [HN.out];exact ju hi);have HIW:=aW hi;clear h hi;obtain ⟨z,hz⟩:∃ z,(n5-n6)=z:=⟨_,rfl⟩
 have HZE:=aW hz;rw [hz] at HIW;go_upto_region 73 with fail
 try rw [hz]
 go_wp2_with fail
 try rw [hz]
 refine (d9 _ _ _ _ _ _ _ _ _ _).mono ?_;rintro e w5 ⟨rfl,hb5⟩;have HH5:=aW (HH3.out.keep hb5);clear hb5 hz c0 f0 l0 c1 f1 l1 c2 f2 l2 c3 f3 l3
 try simp only []
 go_step;refine bS rfl 40 4 284 rfl (w.heap.size+1) 0 #[Zi Zq 3,Zi Zq z,Zt ⟨#[]⟩,Zs none 0 0,Zs none 0 0,.bool true] rfl rfl HH5.out.b2.there ?_;have HBR:=aW (HH5.out.b2.set6C (Zi Zq 3) (Zi Zq z) (Zt ⟨#[]⟩) (Zs none 0 0) (Zs none 0 0) (.bool true));have HPT:=aW (show IsP op F w (.returned (.agg #[Zi Zq 3,Zi Zq z,Zt ⟨#[]⟩,Zs none 0 0,Zs none 0 0,.bool true])) (w5.setCells (w.heap.size+1) 0 [Zi Zq 3,Zi Zq z,Zt ⟨#[]⟩,Zs none 0 0,Zs none 0 0,.bool true]) from aM (s:=[]) (by rw [HX.out];show some (JV.mk 3 (n5-n6) [] [] [])=_;rw [HZE.out]) (dt z) (dl HIW.out) HFF.out HH5.out.1);obtain ⟨WG,hWG⟩:∃ W',w5.setCells (w.heap.size+1) 0 [Zi Zq 3,Zi Zq z,Zt ⟨#[]⟩,Zs none 0 0,Zs none 0 0,.bool true]=W':=⟨_,rfl⟩
 rw [hWG] at HBR HPT
 try simp only []
 rw [hWG];clear hWG;obtain ⟨cR,fR,lR⟩:=HBR.out.rules;go_wp2_with ((with_reducible refine bodyPost_ret (v:=.agg #[Zi Zq 3,Zi Zq z,Zt ⟨#[]⟩,Zs none 0 0,Zs none 0 0,.bool true]) ?_ rfl ?_);(simp only [results,Tryz.results17];go_simp);exact HPT.out)
theorem yh {env:List (List UInt8 × JV)} {v:JV} {s:List UInt8} {ya yb:EJ} {cs:List Value} {EA:Option Addr} {n ec:Nat} {F:Nat->Prop} {w:World} (hF:∀ b,F b->b<w.heap.size) (hx:ER w F cs (.mk 8 v s [ya,yb])) (hcx:bh (.mk 8 v s [ya,yb]))
  (ka:dA EA n ec F env w ya) (kb:dA EA n ec F env w yb) (oa ob:Option JV) (hoa:evE env ya=oa) (hob:evE env yb=ob) (op:Option JV) (hop:bg env 8 v s [oa,ob]=op) :
  Calls Tryz.prog 17 #[.agg cs.toArray,Zs EA n ec] w (IsP op F w):=by
 obtain ⟨k1,n1,s1,A1,na1,ca1,B1,nb1,cb1,A,ca,css0,rfl,hv,h1,h2,h3,h4⟩:=hx.out;obtain ⟨b,o,kx,px,nx,sx,Ax,nax,cax,Bx,nbx,cbx,zx,Cx,ncx,ccx,rfl,hb,hER,hz⟩:=aq h1 h4 (i:=0) (x:=ya) rfl;have HKA:=aW (λ (W:World) (h:Below w.heap.size w W)=>ka W _ h (hER.bel h));obtain ⟨b',o',ky,py,ny,sy,Ay,nay,cay,By,nby,cby,zy,Cy,ncy,ccy,hbb,hb2,hER2,hz2⟩:=aq h1 h4 (i:=1) (x:=yb) rfl;injection hbb with hbb;injection hbb with hb1 hb3
 subst hb1 hb3;have HKB:=aW (λ (W:World) (h:Below w.heap.size w W)=>kb W _ h (hER2.bel h));have HZ2:=aW hz2;rw [hoa] at HKA;rw [hob] at HKB;obtain ⟨nr,hnr⟩:∃ q:Nat,2=q:=⟨_,rfl⟩
 have hnr1:0<nr:=by omega
 have hnr2:1<nr:=by omega
 have HFF:=aW hF;have HOP:=aW hop;have HVS:=aW hv;have HH0:=aW (((aj.nil w).push 28 #[Zi Zq 8,Zi Zq k1,Zi Zq n1,Zt s1,Zs A1 na1 ca1,Zs B1 nb1 cb1,Zt ⟨s.toArray⟩,Zs (some ⟨b,o,none⟩) nr ca] (g:=w.heap.size) rfl).push 40 #[Zi Zq 0,Zi Zq 0,Zt ⟨#[]⟩,Zs none 0 0,Zs none 0 0,.bool false] (g:=w.heap.size+1) (by simp));obtain ⟨z0,z1,z2,z3,z4,z5,z6,z7⟩:=hz _ HH0.out.1;rw [dP] at z0 z1 z2 z3 z4 z5 z6 z7;have hlb:b<w.heap.size:=hb;have hlb2:b≠w.heap.size+1:=by omega
 rw [show ([ya,yb]:List EJ).length=nr from hnr];obtain ⟨c0,f0,l0⟩:=HH0.out.b1.rules;clear hF hx hcx hv h1 h2 h3 h4 hER hz hb hoa hob hop hnr ka kb hER2 hz2 hb2;go_enter Tryz.func17,Tryz.ntmps17;go_wp2_with fail;refine (HKA.out _ HH0.out.1).mono ?_;rintro e w1 ⟨k5,n5,s5,A5,na5,ca5,B5,nb5,cb5,va,ba,rfl,hva,hca,hoa,hga,hza,hb1⟩;obtain ⟨WA,hWA⟩:∃ W,w1.alloc (.cells #[Zi Zq k5,Zi Zq n5,Zt s5,Zs A5 na5 ca5,Zs B5 nb5 cb5,.bool ba] 40)=W:=⟨_,rfl⟩
 have HWA:=aW hWA;have HH1:=aW (show aj [(w1.heap.size,40,#[Zi Zq k5,Zi Zq n5,Zt s5,Zs A5 na5 ca5,Zs B5 nb5 cb5,.bool ba]),(w.heap.size+1,40,#[Zi Zq 0,Zi Zq 0,Zt ⟨#[]⟩,Zs none 0 0,Zs none 0 0,.bool false]),(w.heap.size,28,#[Zi Zq 8,Zi Zq k1,Zi Zq n1,Zt s1,Zs A1 na1 ca1,Zs B1 nb1 cb1,Zt ⟨s.toArray⟩,Zs (some ⟨b,o,none⟩) nr ca])] w WA by rw [← hWA];exact (HH0.out.keep hb1).push 40 #[Zi Zq k5,Zi Zq n5,Zt s5,Zs A5 na5 ca5,Zs B5 nb5 cb5,.bool ba] (g:=w1.heap.size) rfl);have HW1:=aW (show Below w1.heap.size w1 WA by rw [← hWA];exact (Below.refl _ w1).alloc (Nat.le_refl _) _);have HVA:=aW (λ (W:World) (h:Below w1.heap.size w1 W)=>IsP.val (w:=w) (by simp) hva h);have HQA:=aW (And.intro hca (And.intro hoa (And.intro hga hza)));have hs1:w.heap.size+2<=w1.heap.size:=by have:=hb1.size;simpa using this
 have hn1:w1.heap.size≠w.heap.size+1:=by omega
 have hn2:w1.heap.size≠w.heap.size:=by omega
 clear hWA hva hca hoa hga hza hb1 c0 f0 l0 z0 z1 z2 z3 z4 z5 z6 z7 HKA;go_upto_region 24 with fail;rw [HWA.out];clear HWA;obtain ⟨c0,f0,l0⟩:=HH1.out.b2.rules;obtain ⟨c1,f1,l1⟩:=HH1.out.b1.rules;obtain ⟨c2,f2,l2⟩:=HH1.out.b0.rules;cases ba with
 |false =>
  have HX:=aW (show op=none by rw [← HOP.out,HQA.out.2.1];rfl);go_upto_region 25 with fail
  try simp only []
  go_step;go_step;go_step;go_step;refine bS rfl 40 4 98 rfl (w.heap.size+1) 0 #[Zi Zq 0,Zi Zq 0,Zt ⟨#[]⟩,Zs none 0 0,Zs none 0 0,.bool false] rfl rfl HH1.out.b1.there ?_;have HBR:=aW (HH1.out.b1.set6C (Zi Zq 0) (Zi Zq 0) (Zt ⟨#[]⟩) (Zs none 0 0) (Zs none 0 0) (.bool false));have HPT:=aW (show IsP op F w (.returned (.agg #[Zi Zq 0,Zi Zq 0,Zt ⟨#[]⟩,Zs none 0 0,Zs none 0 0,.bool false])) (WA.setCells (w.heap.size+1) 0 [Zi Zq 0,Zi Zq 0,Zt ⟨#[]⟩,Zs none 0 0,Zs none 0 0,.bool false]) from IsP.nilC HX.out HH1.out.1);obtain ⟨WG,hWG⟩:∃ W',WA.setCells (w.heap.size+1) 0 [Zi Zq 0,Zi Zq 0,Zt ⟨#[]⟩,Zs none 0 0,Zs none 0 0,.bool false]=W':=⟨_,rfl⟩
  rw [hWG] at HBR HPT
  try simp only []
  rw [hWG];clear hWG;obtain ⟨cR,fR,lR⟩:=HBR.out.rules;go_wp2_with ((with_reducible refine bodyPost_ret (v:=.agg #[Zi Zq 0,Zi Zq 0,Zt ⟨#[]⟩,Zs none 0 0,Zs none 0 0,.bool false]) ?_ rfl ?_);(simp only [results,Tryz.results17];go_simp);exact HPT.out)
 | true =>
 have HOA:=aW (show oa=some va from HQA.out.2.1);have HGA:=aW (HQA.out.2.2.1 rfl);have HCA:=aW HQA.out.1;clear HQA;go_wp2_with fail;refine (cU _ _ _ _ _ _ _ _ _ _ _).mono ?_;rintro e w2 ⟨rfl,hb2⟩;have HH2:=aW (HH1.out.keep hb2);have HW2:=aW (HW1.out.trans (hb2.mono HW1.out.size));clear hb2 c0 f0 l0 c1 f1 l1 c2 f2 l2;obtain ⟨c0,f0,l0⟩:=HH2.out.b2.rules;obtain ⟨c1,f1,l1⟩:=HH2.out.b1.rules;obtain ⟨c2,f2,l2⟩:=HH2.out.b0.rules;obtain ⟨y0,y1,y2,y3,y4,y5,y6,y7⟩:=HZ2.out _ HH2.out.1;rw [Nat.one_mul] at y0 y1 y2 y3 y4 y5 y6 y7;have hlb9:b<w2.heap.size:=Nat.lt_of_lt_of_le hlb HH2.out.1.size;have hs2:w.heap.size+2<=w2.heap.size:=Nat.le_trans hs1 HW2.out.size;go_upto_region 56 with fail;go_wp2_with fail;refine (HKB.out _ HH2.out.1).mono ?_;rintro e w3 ⟨k6,n6,s6,A6,na6,ca6,B6,nb6,cb6,vb,bb,rfl,hvb,hcb,hob,hgb,hzb,hb3⟩;obtain ⟨WB,hWB⟩:∃ W,w3.alloc (.cells #[Zi Zq k6,Zi Zq n6,Zt s6,Zs A6 na6 ca6,Zs B6 nb6 cb6,.bool bb] 40)=W:=⟨_,rfl⟩
 have HWB:=aW hWB;have HH3:=aW (show aj [(w3.heap.size,40,#[Zi Zq k6,Zi Zq n6,Zt s6,Zs A6 na6 ca6,Zs B6 nb6 cb6,.bool bb]),(w1.heap.size,40,#[Zi Zq k5,Zi Zq n5,Zt s5,Zs A5 na5 ca5,Zs B5 nb5 cb5,.bool true]),(w.heap.size+1,40,#[Zi Zq 0,Zi Zq 0,Zt ⟨#[]⟩,Zs none 0 0,Zs none 0 0,.bool false]),(w.heap.size,28,#[Zi Zq 8,Zi Zq k1,Zi Zq n1,Zt s1,Zs A1 na1 ca1,Zs B1 nb1 cb1,Zt ⟨s.toArray⟩,Zs (some ⟨b,o,none⟩) nr ca])] w WB by rw [← hWB];exact (HH2.out.keep hb3).push 40 #[Zi Zq k6,Zi Zq n6,Zt s6,Zs A6 na6 ca6,Zs B6 nb6 cb6,.bool bb] (g:=w3.heap.size) rfl);have HW3:=aW (show Below w3.heap.size w3 WB by rw [← hWB];exact (Below.refl _ w3).alloc (Nat.le_refl _) _);have HW13:=aW (HW2.out.trans (hb3.mono HW2.out.size));have HW14:=aW (HW13.out.trans (HW3.out.mono HW13.out.size));have HVB:=aW (λ (W:World) (h:Below w3.heap.size w3 W)=>IsP.val (w:=w) hs2 hvb h);have HQB:=aW (And.intro hcb (And.intro hob (And.intro hgb hzb)));have hn3:w3.heap.size≠w.heap.size+1:=by have:=hb3.size;omega
 have hn4:w3.heap.size≠w.heap.size:=by have:=hb3.size;omega
 have hn5:w3.heap.size≠w1.heap.size:=by have:=hb3.size;have:=HH2.out.b0.lt;omega
 clear hWB hvb hcb hob hgb hzb hb3 c0 f0 l0 c1 f1 l1 c2 f2 l2 y0 y1 y2 y3 y4 y5 y6 y7 HKB HZ2;go_upto_region 57 with fail;rw [HWB.out];clear HWB;obtain ⟨c0,f0,l0⟩:=HH3.out.b3.rules;obtain ⟨c1,f1,l1⟩:=HH3.out.b2.rules;obtain ⟨c2,f2,l2⟩:=HH3.out.b1.rules;obtain ⟨c3,f3,l3⟩:=HH3.out.b0.rules;cases bb with
 |false =>
  have HX:=aW (show op=none by rw [← HOP.out,HOA.out,HQB.out.2.1];exact fP (by omega));go_upto_region 58 with fail
  try simp only []
  go_step;go_step;go_step;go_step;refine bS rfl 40 4 206 rfl (w.heap.size+1) 0 #[Zi Zq 0,Zi Zq 0,Zt ⟨#[]⟩,Zs none 0 0,Zs none 0 0,.bool false] rfl rfl HH3.out.b2.there ?_;have HBR:=aW (HH3.out.b2.set6C (Zi Zq 0) (Zi Zq 0) (Zt ⟨#[]⟩) (Zs none 0 0) (Zs none 0 0) (.bool false));have HPT:=aW (show IsP op F w (.returned (.agg #[Zi Zq 0,Zi Zq 0,Zt ⟨#[]⟩,Zs none 0 0,Zs none 0 0,.bool false])) (WB.setCells (w.heap.size+1) 0 [Zi Zq 0,Zi Zq 0,Zt ⟨#[]⟩,Zs none 0 0,Zs none 0 0,.bool false]) from IsP.nilC HX.out HH3.out.1);obtain ⟨WG,hWG⟩:∃ W',WB.setCells (w.heap.size+1) 0 [Zi Zq 0,Zi Zq 0,Zt ⟨#[]⟩,Zs none 0 0,Zs none 0 0,.bool false]=W':=⟨_,rfl⟩
  rw [hWG] at HBR HPT
  try simp only []
  rw [hWG];clear hWG;obtain ⟨cR,fR,lR⟩:=HBR.out.rules;go_wp2_with ((with_reducible refine bodyPost_ret (v:=.agg #[Zi Zq 0,Zi Zq 0,Zt ⟨#[]⟩,Zs none 0 0,Zs none 0 0,.bool false]) ?_ rfl ?_);(simp only [results,Tryz.results17];go_simp);exact HPT.out)
 | true =>
 have HOB:=aW (show ob=some vb from HQB.out.2.1);have HGB:=aW (HQB.out.2.2.1 rfl);have HCB:=aW HQB.out.1;clear HQB;have HKN:=aW (And.intro (br (HVA.out _ (Below.refl _ _))) (br (HVB.out _ (Below.refl _ _))));have HO:=aW (show op=if k5=3/\k6=3 then mB 8 n5 n6 else none by
  rw [← HOP.out,HOA.out,HOB.out,mC (by omega),HKN.out.1.1,HKN.out.1.2.1,HKN.out.2.1,HKN.out.2.2.1])
 by_cases hk5:k5=3;rotate_left
 ·have e5:(k5 != 3)=true:=by simp [hk5]
  have HX:=aW (show op=none by rw [HO.out,if_neg (λ h=>hk5 h.1)]);clear hk5;go_upto_region 63 with fail
  try simp only []
  go_step;go_step;go_step;go_step;refine bS rfl 40 4 242 rfl (w.heap.size+1) 0 #[Zi Zq 0,Zi Zq 0,Zt ⟨#[]⟩,Zs none 0 0,Zs none 0 0,.bool false] rfl rfl HH3.out.b2.there ?_;have HBR:=aW (HH3.out.b2.set6C (Zi Zq 0) (Zi Zq 0) (Zt ⟨#[]⟩) (Zs none 0 0) (Zs none 0 0) (.bool false));have HPT:=aW (show IsP op F w (.returned (.agg #[Zi Zq 0,Zi Zq 0,Zt ⟨#[]⟩,Zs none 0 0,Zs none 0 0,.bool false])) (WB.setCells (w.heap.size+1) 0 [Zi Zq 0,Zi Zq 0,Zt ⟨#[]⟩,Zs none 0 0,Zs none 0 0,.bool false]) from IsP.nilC HX.out HH3.out.1);obtain ⟨WG,hWG⟩:∃ W',WB.setCells (w.heap.size+1) 0 [Zi Zq 0,Zi Zq 0,Zt ⟨#[]⟩,Zs none 0 0,Zs none 0 0,.bool false]=W':=⟨_,rfl⟩
  rw [hWG] at HBR HPT
  try simp only []
  rw [hWG];clear hWG;obtain ⟨cR,fR,lR⟩:=HBR.out.rules;go_wp2_with ((with_reducible refine bodyPost_ret (v:=.agg #[Zi Zq 0,Zi Zq 0,Zt ⟨#[]⟩,Zs none 0 0,Zs none 0 0,.bool false]) ?_ rfl ?_);(simp only [results,Tryz.results17];go_simp);exact HPT.out)
 by_cases hk6:k6=3;rotate_left
 ·have e5:(k5 != 3)=false:=by simp [hk5]
  have e6:(k6 != 3)=true:=by simp [hk6]
  have HX:=aW (show op=none by rw [HO.out,if_neg (λ h=>hk6 h.2)]);clear hk5 hk6;go_upto_region 63 with fail
  try simp only []
  go_step;go_step;go_step;go_step;refine bS rfl 40 4 242 rfl (w.heap.size+1) 0 #[Zi Zq 0,Zi Zq 0,Zt ⟨#[]⟩,Zs none 0 0,Zs none 0 0,.bool false] rfl rfl HH3.out.b2.there ?_;have HBR:=aW (HH3.out.b2.set6C (Zi Zq 0) (Zi Zq 0) (Zt ⟨#[]⟩) (Zs none 0 0) (Zs none 0 0) (.bool false));have HPT:=aW (show IsP op F w (.returned (.agg #[Zi Zq 0,Zi Zq 0,Zt ⟨#[]⟩,Zs none 0 0,Zs none 0 0,.bool false])) (WB.setCells (w.heap.size+1) 0 [Zi Zq 0,Zi Zq 0,Zt ⟨#[]⟩,Zs none 0 0,Zs none 0 0,.bool false]) from IsP.nilC HX.out HH3.out.1);obtain ⟨WG,hWG⟩:∃ W',WB.setCells (w.heap.size+1) 0 [Zi Zq 0,Zi Zq 0,Zt ⟨#[]⟩,Zs none 0 0,Zs none 0 0,.bool false]=W':=⟨_,rfl⟩
  rw [hWG] at HBR HPT
  try simp only []
  rw [hWG];clear hWG;obtain ⟨cR,fR,lR⟩:=HBR.out.rules;go_wp2_with ((with_reducible refine bodyPost_ret (v:=.agg #[Zi Zq 0,Zi Zq 0,Zt ⟨#[]⟩,Zs none 0 0,Zs none 0 0,.bool false]) ?_ rfl ?_);(simp only [results,Tryz.results17];go_simp);exact HPT.out)
 have e5:(k5 != 3)=false:=by simp [hk5]
 have e6:(k6 != 3)=false:=by simp [hk6]
 have HN:=aW (show op=mB 8 n5 n6 by rw [HO.out,if_pos ⟨hk5,hk6⟩]);clear HO hk5 hk6;have HSU:=aW (uL n5 (show iw n5 by rw [← HKN.out.1.2.1];exact fF HCA.out) _ n6 WB (Nat.le_refl _) (show iw n6 by rw [← HKN.out.2.2.1];exact fF HCB.out));go_upto_region 66 with fail;go_wp2_with fail;refine HSU.out.mono ?_;intro e w4 h;obtain ⟨rfl,⟨hi,rfl⟩ | ⟨hi,rfl⟩⟩:=h.cases;rotate_left
 ·have HX:=aW (show op=none by rw [HN.out];exact mp hi);clear h hi;go_upto_region 72 with fail
  try simp only []
  go_step;go_step;go_step;go_step;refine bS rfl 40 4 281 rfl (w.heap.size+1) 0 #[Zi Zq 0,Zi Zq 0,Zt ⟨#[]⟩,Zs none 0 0,Zs none 0 0,.bool false] rfl rfl HH3.out.b2.there ?_;have HBR:=aW (HH3.out.b2.set6C (Zi Zq 0) (Zi Zq 0) (Zt ⟨#[]⟩) (Zs none 0 0) (Zs none 0 0) (.bool false));have HPT:=aW (show IsP op F w (.returned (.agg #[Zi Zq 0,Zi Zq 0,Zt ⟨#[]⟩,Zs none 0 0,Zs none 0 0,.bool false])) (w4.setCells (w.heap.size+1) 0 [Zi Zq 0,Zi Zq 0,Zt ⟨#[]⟩,Zs none 0 0,Zs none 0 0,.bool false]) from IsP.nilC HX.out HH3.out.1);obtain ⟨WG,hWG⟩:∃ W',w4.setCells (w.heap.size+1) 0 [Zi Zq 0,Zi Zq 0,Zt ⟨#[]⟩,Zs none 0 0,Zs none 0 0,.bool false]=W':=⟨_,rfl⟩
  rw [hWG] at HBR HPT
  try simp only []
  rw [hWG];clear hWG;obtain ⟨cR,fR,lR⟩:=HBR.out.rules;go_wp2_with ((with_reducible refine bodyPost_ret (v:=.agg #[Zi Zq 0,Zi Zq 0,Zt ⟨#[]⟩,Zs none 0 0,Zs none 0 0,.bool false]) ?_ rfl ?_);(simp only [results,Tryz.results17];go_simp);exact HPT.out)
 have HX:=aW (show op=some (cC _) from by rw [HN.out];exact ju hi);have HIW:=aW hi;clear h hi;obtain ⟨z,hz⟩:∃ z,(n5*n6)=z:=⟨_,rfl⟩
 have HZE:=aW hz;rw [hz] at HIW;go_upto_region 73 with fail
 try rw [hz]
 go_wp2_with fail
 try rw [hz]
 refine (d9 _ _ _ _ _ _ _ _ _ _).mono ?_;rintro e w5 ⟨rfl,hb5⟩;have HH5:=aW (HH3.out.keep hb5);clear hb5 hz c0 f0 l0 c1 f1 l1 c2 f2 l2 c3 f3 l3
 try simp only []
 go_step;refine bS rfl 40 4 284 rfl (w.heap.size+1) 0 #[Zi Zq 3,Zi Zq z,Zt ⟨#[]⟩,Zs none 0 0,Zs none 0 0,.bool true] rfl rfl HH5.out.b2.there ?_;have HBR:=aW (HH5.out.b2.set6C (Zi Zq 3) (Zi Zq z) (Zt ⟨#[]⟩) (Zs none 0 0) (Zs none 0 0) (.bool true));have HPT:=aW (show IsP op F w (.returned (.agg #[Zi Zq 3,Zi Zq z,Zt ⟨#[]⟩,Zs none 0 0,Zs none 0 0,.bool true])) (w5.setCells (w.heap.size+1) 0 [Zi Zq 3,Zi Zq z,Zt ⟨#[]⟩,Zs none 0 0,Zs none 0 0,.bool true]) from aM (s:=[]) (by rw [HX.out];show some (JV.mk 3 (n5*n6) [] [] [])=_;rw [HZE.out]) (dt z) (dl HIW.out) HFF.out HH5.out.1);obtain ⟨WG,hWG⟩:∃ W',w5.setCells (w.heap.size+1) 0 [Zi Zq 3,Zi Zq z,Zt ⟨#[]⟩,Zs none 0 0,Zs none 0 0,.bool true]=W':=⟨_,rfl⟩
 rw [hWG] at HBR HPT
 try simp only []
 rw [hWG];clear hWG;obtain ⟨cR,fR,lR⟩:=HBR.out.rules;go_wp2_with ((with_reducible refine bodyPost_ret (v:=.agg #[Zi Zq 3,Zi Zq z,Zt ⟨#[]⟩,Zs none 0 0,Zs none 0 0,.bool true]) ?_ rfl ?_);(simp only [results,Tryz.results17];go_simp);exact HPT.out)
theorem wV {env:List (List UInt8 × JV)} {v:JV} {s:List UInt8} {ya yb:EJ} {cs:List Value} {EA:Option Addr} {n ec:Nat} {F:Nat->Prop} {w:World} (hF:∀ b,F b->b<w.heap.size) (hx:ER w F cs (.mk 11 v s [ya,yb])) (hcx:bh (.mk 11 v s [ya,yb]))
  (ka:dA EA n ec F env w ya) (kb:dA EA n ec F env w yb) (oa ob:Option JV) (hoa:evE env ya=oa) (hob:evE env yb=ob) (op:Option JV) (hop:bg env 11 v s [oa,ob]=op) :
  Calls Tryz.prog 17 #[.agg cs.toArray,Zs EA n ec] w (IsP op F w):=by
 obtain ⟨k1,n1,s1,A1,na1,ca1,B1,nb1,cb1,A,ca,css0,rfl,hv,h1,h2,h3,h4⟩:=hx.out;obtain ⟨b,o,kx,px,nx,sx,Ax,nax,cax,Bx,nbx,cbx,zx,Cx,ncx,ccx,rfl,hb,hER,hz⟩:=aq h1 h4 (i:=0) (x:=ya) rfl;have HKA:=aW (λ (W:World) (h:Below w.heap.size w W)=>ka W _ h (hER.bel h));obtain ⟨b',o',ky,py,ny,sy,Ay,nay,cay,By,nby,cby,zy,Cy,ncy,ccy,hbb,hb2,hER2,hz2⟩:=aq h1 h4 (i:=1) (x:=yb) rfl;injection hbb with hbb;injection hbb with hb1 hb3
 subst hb1 hb3;have HKB:=aW (λ (W:World) (h:Below w.heap.size w W)=>kb W _ h (hER2.bel h));have HZ2:=aW hz2;rw [hoa] at HKA;rw [hob] at HKB;obtain ⟨nr,hnr⟩:∃ q:Nat,2=q:=⟨_,rfl⟩
 have hnr1:0<nr:=by omega
 have hnr2:1<nr:=by omega
 have HFF:=aW hF;have HOP:=aW hop;have HVS:=aW hv;have HH0:=aW (((aj.nil w).push 28 #[Zi Zq 11,Zi Zq k1,Zi Zq n1,Zt s1,Zs A1 na1 ca1,Zs B1 nb1 cb1,Zt ⟨s.toArray⟩,Zs (some ⟨b,o,none⟩) nr ca] (g:=w.heap.size) rfl).push 40 #[Zi Zq 0,Zi Zq 0,Zt ⟨#[]⟩,Zs none 0 0,Zs none 0 0,.bool false] (g:=w.heap.size+1) (by simp));obtain ⟨z0,z1,z2,z3,z4,z5,z6,z7⟩:=hz _ HH0.out.1;rw [dP] at z0 z1 z2 z3 z4 z5 z6 z7;have hlb:b<w.heap.size:=hb;have hlb2:b≠w.heap.size+1:=by omega
 rw [show ([ya,yb]:List EJ).length=nr from hnr];obtain ⟨c0,f0,l0⟩:=HH0.out.b1.rules;clear hF hx hcx hv h1 h2 h3 h4 hER hz hb hoa hob hop hnr ka kb hER2 hz2 hb2;go_enter Tryz.func17,Tryz.ntmps17;go_wp2_with fail;refine (HKA.out _ HH0.out.1).mono ?_;rintro e w1 ⟨k5,n5,s5,A5,na5,ca5,B5,nb5,cb5,va,ba,rfl,hva,hca,hoa,hga,hza,hb1⟩;obtain ⟨WA,hWA⟩:∃ W,w1.alloc (.cells #[Zi Zq k5,Zi Zq n5,Zt s5,Zs A5 na5 ca5,Zs B5 nb5 cb5,.bool ba] 40)=W:=⟨_,rfl⟩
 have HWA:=aW hWA;have HH1:=aW (show aj [(w1.heap.size,40,#[Zi Zq k5,Zi Zq n5,Zt s5,Zs A5 na5 ca5,Zs B5 nb5 cb5,.bool ba]),(w.heap.size+1,40,#[Zi Zq 0,Zi Zq 0,Zt ⟨#[]⟩,Zs none 0 0,Zs none 0 0,.bool false]),(w.heap.size,28,#[Zi Zq 11,Zi Zq k1,Zi Zq n1,Zt s1,Zs A1 na1 ca1,Zs B1 nb1 cb1,Zt ⟨s.toArray⟩,Zs (some ⟨b,o,none⟩) nr ca])] w WA by rw [← hWA];exact (HH0.out.keep hb1).push 40 #[Zi Zq k5,Zi Zq n5,Zt s5,Zs A5 na5 ca5,Zs B5 nb5 cb5,.bool ba] (g:=w1.heap.size) rfl);have HW1:=aW (show Below w1.heap.size w1 WA by rw [← hWA];exact (Below.refl _ w1).alloc (Nat.le_refl _) _);have HVA:=aW (λ (W:World) (h:Below w1.heap.size w1 W)=>IsP.val (w:=w) (by simp) hva h);have HQA:=aW (And.intro hca (And.intro hoa (And.intro hga hza)));have hs1:w.heap.size+2<=w1.heap.size:=by have:=hb1.size;simpa using this
 have hn1:w1.heap.size≠w.heap.size+1:=by omega
 have hn2:w1.heap.size≠w.heap.size:=by omega
 clear hWA hva hca hoa hga hza hb1 c0 f0 l0 z0 z1 z2 z3 z4 z5 z6 z7 HKA;go_upto_region 24 with fail;rw [HWA.out];clear HWA;obtain ⟨c0,f0,l0⟩:=HH1.out.b2.rules;obtain ⟨c1,f1,l1⟩:=HH1.out.b1.rules;obtain ⟨c2,f2,l2⟩:=HH1.out.b0.rules;cases ba with
 |false =>
  have HX:=aW (show op=none by rw [← HOP.out,HQA.out.2.1];rfl);go_upto_region 25 with fail
  try simp only []
  go_step;go_step;go_step;go_step;refine bS rfl 40 4 98 rfl (w.heap.size+1) 0 #[Zi Zq 0,Zi Zq 0,Zt ⟨#[]⟩,Zs none 0 0,Zs none 0 0,.bool false] rfl rfl HH1.out.b1.there ?_;have HBR:=aW (HH1.out.b1.set6C (Zi Zq 0) (Zi Zq 0) (Zt ⟨#[]⟩) (Zs none 0 0) (Zs none 0 0) (.bool false));have HPT:=aW (show IsP op F w (.returned (.agg #[Zi Zq 0,Zi Zq 0,Zt ⟨#[]⟩,Zs none 0 0,Zs none 0 0,.bool false])) (WA.setCells (w.heap.size+1) 0 [Zi Zq 0,Zi Zq 0,Zt ⟨#[]⟩,Zs none 0 0,Zs none 0 0,.bool false]) from IsP.nilC HX.out HH1.out.1);obtain ⟨WG,hWG⟩:∃ W',WA.setCells (w.heap.size+1) 0 [Zi Zq 0,Zi Zq 0,Zt ⟨#[]⟩,Zs none 0 0,Zs none 0 0,.bool false]=W':=⟨_,rfl⟩
  rw [hWG] at HBR HPT
  try simp only []
  rw [hWG];clear hWG;obtain ⟨cR,fR,lR⟩:=HBR.out.rules;go_wp2_with ((with_reducible refine bodyPost_ret (v:=.agg #[Zi Zq 0,Zi Zq 0,Zt ⟨#[]⟩,Zs none 0 0,Zs none 0 0,.bool false]) ?_ rfl ?_);(simp only [results,Tryz.results17];go_simp);exact HPT.out)
 | true =>
 have HOA:=aW (show oa=some va from HQA.out.2.1);have HGA:=aW (HQA.out.2.2.1 rfl);have HCA:=aW HQA.out.1;clear HQA;go_wp2_with fail;refine (cU _ _ _ _ _ _ _ _ _ _ _).mono ?_;rintro e w2 ⟨rfl,hb2⟩;have HH2:=aW (HH1.out.keep hb2);have HW2:=aW (HW1.out.trans (hb2.mono HW1.out.size));clear hb2 c0 f0 l0 c1 f1 l1 c2 f2 l2;obtain ⟨c0,f0,l0⟩:=HH2.out.b2.rules;obtain ⟨c1,f1,l1⟩:=HH2.out.b1.rules;obtain ⟨c2,f2,l2⟩:=HH2.out.b0.rules;obtain ⟨y0,y1,y2,y3,y4,y5,y6,y7⟩:=HZ2.out _ HH2.out.1;rw [Nat.one_mul] at y0 y1 y2 y3 y4 y5 y6 y7;have hlb9:b<w2.heap.size:=Nat.lt_of_lt_of_le hlb HH2.out.1.size;have hs2:w.heap.size+2<=w2.heap.size:=Nat.le_trans hs1 HW2.out.size;go_upto_region 56 with fail;go_wp2_with fail;refine (HKB.out _ HH2.out.1).mono ?_;rintro e w3 ⟨k6,n6,s6,A6,na6,ca6,B6,nb6,cb6,vb,bb,rfl,hvb,hcb,hob,hgb,hzb,hb3⟩;obtain ⟨WB,hWB⟩:∃ W,w3.alloc (.cells #[Zi Zq k6,Zi Zq n6,Zt s6,Zs A6 na6 ca6,Zs B6 nb6 cb6,.bool bb] 40)=W:=⟨_,rfl⟩
 have HWB:=aW hWB;have HH3:=aW (show aj [(w3.heap.size,40,#[Zi Zq k6,Zi Zq n6,Zt s6,Zs A6 na6 ca6,Zs B6 nb6 cb6,.bool bb]),(w1.heap.size,40,#[Zi Zq k5,Zi Zq n5,Zt s5,Zs A5 na5 ca5,Zs B5 nb5 cb5,.bool true]),(w.heap.size+1,40,#[Zi Zq 0,Zi Zq 0,Zt ⟨#[]⟩,Zs none 0 0,Zs none 0 0,.bool false]),(w.heap.size,28,#[Zi Zq 11,Zi Zq k1,Zi Zq n1,Zt s1,Zs A1 na1 ca1,Zs B1 nb1 cb1,Zt ⟨s.toArray⟩,Zs (some ⟨b,o,none⟩) nr ca])] w WB by rw [← hWB];exact (HH2.out.keep hb3).push 40 #[Zi Zq k6,Zi Zq n6,Zt s6,Zs A6 na6 ca6,Zs B6 nb6 cb6,.bool bb] (g:=w3.heap.size) rfl);have HW3:=aW (show Below w3.heap.size w3 WB by rw [← hWB];exact (Below.refl _ w3).alloc (Nat.le_refl _) _);have HW13:=aW (HW2.out.trans (hb3.mono HW2.out.size));have HW14:=aW (HW13.out.trans (HW3.out.mono HW13.out.size));have HVB:=aW (λ (W:World) (h:Below w3.heap.size w3 W)=>IsP.val (w:=w) hs2 hvb h);have HQB:=aW (And.intro hcb (And.intro hob (And.intro hgb hzb)));have hn3:w3.heap.size≠w.heap.size+1:=by have:=hb3.size;omega
 have hn4:w3.heap.size≠w.heap.size:=by have:=hb3.size;omega
 have hn5:w3.heap.size≠w1.heap.size:=by have:=hb3.size;have:=HH2.out.b0.lt;omega
 clear hWB hvb hcb hob hgb hzb hb3 c0 f0 l0 c1 f1 l1 c2 f2 l2 y0 y1 y2 y3 y4 y5 y6 y7 HKB HZ2;go_upto_region 57 with fail;rw [HWB.out];clear HWB;obtain ⟨c0,f0,l0⟩:=HH3.out.b3.rules;obtain ⟨c1,f1,l1⟩:=HH3.out.b2.rules;obtain ⟨c2,f2,l2⟩:=HH3.out.b1.rules;obtain ⟨c3,f3,l3⟩:=HH3.out.b0.rules;cases bb with
 |false =>
  have HX:=aW (show op=none by rw [← HOP.out,HOA.out,HQB.out.2.1];exact fP (by omega));go_upto_region 58 with fail
  try simp only []
  go_step;go_step;go_step;go_step;refine bS rfl 40 4 206 rfl (w.heap.size+1) 0 #[Zi Zq 0,Zi Zq 0,Zt ⟨#[]⟩,Zs none 0 0,Zs none 0 0,.bool false] rfl rfl HH3.out.b2.there ?_;have HBR:=aW (HH3.out.b2.set6C (Zi Zq 0) (Zi Zq 0) (Zt ⟨#[]⟩) (Zs none 0 0) (Zs none 0 0) (.bool false));have HPT:=aW (show IsP op F w (.returned (.agg #[Zi Zq 0,Zi Zq 0,Zt ⟨#[]⟩,Zs none 0 0,Zs none 0 0,.bool false])) (WB.setCells (w.heap.size+1) 0 [Zi Zq 0,Zi Zq 0,Zt ⟨#[]⟩,Zs none 0 0,Zs none 0 0,.bool false]) from IsP.nilC HX.out HH3.out.1);obtain ⟨WG,hWG⟩:∃ W',WB.setCells (w.heap.size+1) 0 [Zi Zq 0,Zi Zq 0,Zt ⟨#[]⟩,Zs none 0 0,Zs none 0 0,.bool false]=W':=⟨_,rfl⟩
  rw [hWG] at HBR HPT
  try simp only []
  rw [hWG];clear hWG;obtain ⟨cR,fR,lR⟩:=HBR.out.rules;go_wp2_with ((with_reducible refine bodyPost_ret (v:=.agg #[Zi Zq 0,Zi Zq 0,Zt ⟨#[]⟩,Zs none 0 0,Zs none 0 0,.bool false]) ?_ rfl ?_);(simp only [results,Tryz.results17];go_simp);exact HPT.out)
 | true =>
 have HOB:=aW (show ob=some vb from HQB.out.2.1);have HGB:=aW (HQB.out.2.2.1 rfl);have HCB:=aW HQB.out.1;clear HQB;have HKN:=aW (And.intro (br (HVA.out _ (Below.refl _ _))) (br (HVB.out _ (Below.refl _ _))));have HCP:=aW (λ (W:World) (h1:Below w1.heap.size w1 W) (h2:Below w3.heap.size w3 W)=>js va vb [Zi Zq k5,Zi Zq n5,Zt s5,Zs A5 na5 ca5,Zs B5 nb5 cb5] [Zi Zq k6,Zi Zq n6,Zt s6,Zs A6 na6 ca6,Zs B6 nb6 cb6] _ _ W (HVA.out W h1) (HVB.out W h2) HGA.out HGB.out HCA.out HCB.out);have HO:=aW (show op=some (qZ 11 (bp va vb)) by rw [← HOP.out,HOA.out,HOB.out];exact lW (by omega));obtain ⟨r,hr⟩:∃ r,bp va vb=r:=⟨_,rfl⟩
 have hr3:=iu va vb;rw [hr] at HCP HO hr3;clear hr;go_upto_region 60 with fail;go_wp2_with fail;refine (HCP.out _ HW14.out HW3.out).mono ?_;rintro e w4 ⟨rfl,hb4⟩;have HH4:=aW (HH3.out.keep hb4);clear hb4 c0 f0 l0 c1 f1 l1 c2 f2 l2 c3 f3 l3 HCP;obtain ⟨c0,f0,l0⟩:=HH4.out.b3.rules;go_upto_region 61 with fail;rcases hr3 with rfl | rfl | rfl
 ·obtain ⟨t,ht⟩:∃ t:Bool,t=false:=⟨_,rfl⟩
  have HX:=aW (show op=some (aG t) by rw [HO.out,ht];rfl);have HTR:=aW (λ W=>bZ false W);go_wp2_with fail;refine (HTR.out _).mono ?_;rintro e w5 ⟨rfl,hb5⟩;have HH5:=aW (HH4.out.keep hb5);clear hb5 c0 f0 l0
  try simp only []
  go_step;refine bS rfl 40 4 231 rfl (w.heap.size+1) 0 #[Zi Zq 2,Zi Zq 0,Zt ⟨#[]⟩,Zs none 0 0,Zs none 0 0,.bool true] rfl rfl HH5.out.b2.there ?_;have HBR:=aW (HH5.out.b2.set6C (Zi Zq 2) (Zi Zq 0) (Zt ⟨#[]⟩) (Zs none 0 0) (Zs none 0 0) (.bool true));have HPT:=aW (show IsP op F w (.returned (.agg #[Zi Zq 2,Zi Zq 0,Zt ⟨#[]⟩,Zs none 0 0,Zs none 0 0,.bool true])) (w5.setCells (w.heap.size+1) 0 [Zi Zq 2,Zi Zq 0,Zt ⟨#[]⟩,Zs none 0 0,Zs none 0 0,.bool true]) from aM (s:=[]) (by rw [HX.out,ht];rfl) (by rfl) (aw (by unfold iw;omega) (by unfold iw;omega) (by simp)) HFF.out HH5.out.1);obtain ⟨WG,hWG⟩:∃ W',w5.setCells (w.heap.size+1) 0 [Zi Zq 2,Zi Zq 0,Zt ⟨#[]⟩,Zs none 0 0,Zs none 0 0,.bool true]=W':=⟨_,rfl⟩
  rw [hWG] at HBR HPT
  try simp only []
  rw [hWG];clear hWG;obtain ⟨cR,fR,lR⟩:=HBR.out.rules;go_wp2_with ((with_reducible refine bodyPost_ret (v:=.agg #[Zi Zq 2,Zi Zq 0,Zt ⟨#[]⟩,Zs none 0 0,Zs none 0 0,.bool true]) ?_ rfl ?_);(simp only [results,Tryz.results17];go_simp);exact HPT.out)
 ·obtain ⟨t,ht⟩:∃ t:Bool,t=true:=⟨_,rfl⟩
  have HX:=aW (show op=some (aG t) by rw [HO.out,ht];rfl);have HTR:=aW (λ W=>bZ true W);go_wp2_with fail;refine (HTR.out _).mono ?_;rintro e w5 ⟨rfl,hb5⟩;have HH5:=aW (HH4.out.keep hb5);clear hb5 c0 f0 l0
  try simp only []
  go_step;refine bS rfl 40 4 231 rfl (w.heap.size+1) 0 #[Zi Zq 2,Zi Zq 1,Zt ⟨#[]⟩,Zs none 0 0,Zs none 0 0,.bool true] rfl rfl HH5.out.b2.there ?_;have HBR:=aW (HH5.out.b2.set6C (Zi Zq 2) (Zi Zq 1) (Zt ⟨#[]⟩) (Zs none 0 0) (Zs none 0 0) (.bool true));have HPT:=aW (show IsP op F w (.returned (.agg #[Zi Zq 2,Zi Zq 1,Zt ⟨#[]⟩,Zs none 0 0,Zs none 0 0,.bool true])) (w5.setCells (w.heap.size+1) 0 [Zi Zq 2,Zi Zq 1,Zt ⟨#[]⟩,Zs none 0 0,Zs none 0 0,.bool true]) from aM (s:=[]) (by rw [HX.out,ht];rfl) (by rfl) (aw (by unfold iw;omega) (by unfold iw;omega) (by simp)) HFF.out HH5.out.1);obtain ⟨WG,hWG⟩:∃ W',w5.setCells (w.heap.size+1) 0 [Zi Zq 2,Zi Zq 1,Zt ⟨#[]⟩,Zs none 0 0,Zs none 0 0,.bool true]=W':=⟨_,rfl⟩
  rw [hWG] at HBR HPT
  try simp only []
  rw [hWG];clear hWG;obtain ⟨cR,fR,lR⟩:=HBR.out.rules;go_wp2_with ((with_reducible refine bodyPost_ret (v:=.agg #[Zi Zq 2,Zi Zq 1,Zt ⟨#[]⟩,Zs none 0 0,Zs none 0 0,.bool true]) ?_ rfl ?_);(simp only [results,Tryz.results17];go_simp);exact HPT.out)
 ·obtain ⟨t,ht⟩:∃ t:Bool,t=false:=⟨_,rfl⟩
  have HX:=aW (show op=some (aG t) by rw [HO.out,ht];rfl);have HTR:=aW (λ W=>bZ false W);go_wp2_with fail;refine (HTR.out _).mono ?_;rintro e w5 ⟨rfl,hb5⟩;have HH5:=aW (HH4.out.keep hb5);clear hb5 c0 f0 l0
  try simp only []
  go_step;refine bS rfl 40 4 231 rfl (w.heap.size+1) 0 #[Zi Zq 2,Zi Zq 0,Zt ⟨#[]⟩,Zs none 0 0,Zs none 0 0,.bool true] rfl rfl HH5.out.b2.there ?_;have HBR:=aW (HH5.out.b2.set6C (Zi Zq 2) (Zi Zq 0) (Zt ⟨#[]⟩) (Zs none 0 0) (Zs none 0 0) (.bool true));have HPT:=aW (show IsP op F w (.returned (.agg #[Zi Zq 2,Zi Zq 0,Zt ⟨#[]⟩,Zs none 0 0,Zs none 0 0,.bool true])) (w5.setCells (w.heap.size+1) 0 [Zi Zq 2,Zi Zq 0,Zt ⟨#[]⟩,Zs none 0 0,Zs none 0 0,.bool true]) from aM (s:=[]) (by rw [HX.out,ht];rfl) (by rfl) (aw (by unfold iw;omega) (by unfold iw;omega) (by simp)) HFF.out HH5.out.1);obtain ⟨WG,hWG⟩:∃ W',w5.setCells (w.heap.size+1) 0 [Zi Zq 2,Zi Zq 0,Zt ⟨#[]⟩,Zs none 0 0,Zs none 0 0,.bool true]=W':=⟨_,rfl⟩
  rw [hWG] at HBR HPT
  try simp only []
  rw [hWG];clear hWG;obtain ⟨cR,fR,lR⟩:=HBR.out.rules;go_wp2_with ((with_reducible refine bodyPost_ret (v:=.agg #[Zi Zq 2,Zi Zq 0,Zt ⟨#[]⟩,Zs none 0 0,Zs none 0 0,.bool true]) ?_ rfl ?_);(simp only [results,Tryz.results17];go_simp);exact HPT.out)
theorem tL:∀ (f:Nat) (l:List UInt8),l.length<=f->aL l=true->gq l=(dc l).length:=by
 intro f
 induction f with
 |zero =>
  intro l hl h;obtain rfl:l=[]:=by cases l with | nil=>rfl | cons c r=>simp at hl
  rfl
 |succ f ih =>
  intro l hl h;by_cases hn:l=[]
  ·subst hn;rfl
  ·rw [cV hn] at h;by_cases h0:(am l).2=0
   ·rw [if_pos h0] at h;cases h
   ·rw [if_neg h0] at h;rw [lA hn h0,gm hn,if_neg h0,List.length_cons,ih _ (by rw [List.length_drop];have:0<l.length:=List.length_pos_iff.2 hn;omega) h]
theorem xN {env:List (List UInt8 × JV)} {v:JV} {s:List UInt8} {ya yb:EJ} {cs:List Value} {EA:Option Addr} {n ec:Nat} {F:Nat->Prop} {w:World} (hF:∀ b,F b->b<w.heap.size) (hx:ER w F cs (.mk 6 v s [ya])) (hcx:bh (.mk 6 v s [ya]))
  (ka:dA EA n ec F env w ya) (kb:dA EA n ec F env w yb) (oa ob:Option JV) (hoa:evE env ya=oa) (hob:evE env yb=ob) (op:Option JV) (hop:bg env 6 v s [oa]=op) :
  Calls Tryz.prog 17 #[.agg cs.toArray,Zs EA n ec] w (IsP op F w):=by
 obtain ⟨k1,n1,s1,A1,na1,ca1,B1,nb1,cb1,A,ca,css0,rfl,hv,h1,h2,h3,h4⟩:=hx.out;obtain ⟨b,o,kx,px,nx,sx,Ax,nax,cax,Bx,nbx,cbx,zx,Cx,ncx,ccx,rfl,hb,hER,hz⟩:=aq h1 h4 (i:=0) (x:=ya) rfl;have HKA:=aW (λ (W:World) (h:Below w.heap.size w W)=>ka W _ h (hER.bel h));rw [hoa] at HKA;obtain ⟨nr,hnr⟩:∃ q:Nat,1=q:=⟨_,rfl⟩
 have hnr1:0<nr:=by omega
 have HFF:=aW hF;have HOP:=aW hop;have HVS:=aW hv;have HH0:=aW (((aj.nil w).push 28 #[Zi Zq 6,Zi Zq k1,Zi Zq n1,Zt s1,Zs A1 na1 ca1,Zs B1 nb1 cb1,Zt ⟨s.toArray⟩,Zs (some ⟨b,o,none⟩) nr ca] (g:=w.heap.size) rfl).push 40 #[Zi Zq 0,Zi Zq 0,Zt ⟨#[]⟩,Zs none 0 0,Zs none 0 0,.bool false] (g:=w.heap.size+1) (by simp));obtain ⟨z0,z1,z2,z3,z4,z5,z6,z7⟩:=hz _ HH0.out.1;rw [dP] at z0 z1 z2 z3 z4 z5 z6 z7;have hlb:b<w.heap.size:=hb;have hlb2:b≠w.heap.size+1:=by omega
 rw [show ([ya]:List EJ).length=nr from hnr];obtain ⟨c0,f0,l0⟩:=HH0.out.b1.rules;clear hF hx hcx hv h1 h2 h3 h4 hER hz hb hoa hob hop hnr ka kb;go_enter Tryz.func17,Tryz.ntmps17;go_wp2_with fail;refine (HKA.out _ HH0.out.1).mono ?_;rintro e w1 ⟨k5,n5,s5,A5,na5,ca5,B5,nb5,cb5,va,ba,rfl,hva,hca,hoa,hga,hza,hb1⟩;obtain ⟨WA,hWA⟩:∃ W,w1.alloc (.cells #[Zi Zq k5,Zi Zq n5,Zt s5,Zs A5 na5 ca5,Zs B5 nb5 cb5,.bool ba] 40)=W:=⟨_,rfl⟩
 have HWA:=aW hWA;have HH1:=aW (show aj [(w1.heap.size,40,#[Zi Zq k5,Zi Zq n5,Zt s5,Zs A5 na5 ca5,Zs B5 nb5 cb5,.bool ba]),(w.heap.size+1,40,#[Zi Zq 0,Zi Zq 0,Zt ⟨#[]⟩,Zs none 0 0,Zs none 0 0,.bool false]),(w.heap.size,28,#[Zi Zq 6,Zi Zq k1,Zi Zq n1,Zt s1,Zs A1 na1 ca1,Zs B1 nb1 cb1,Zt ⟨s.toArray⟩,Zs (some ⟨b,o,none⟩) nr ca])] w WA by rw [← hWA];exact (HH0.out.keep hb1).push 40 #[Zi Zq k5,Zi Zq n5,Zt s5,Zs A5 na5 ca5,Zs B5 nb5 cb5,.bool ba] (g:=w1.heap.size) rfl);have HW1:=aW (show Below w1.heap.size w1 WA by rw [← hWA];exact (Below.refl _ w1).alloc (Nat.le_refl _) _);have HVA:=aW (λ (W:World) (h:Below w1.heap.size w1 W)=>IsP.val (w:=w) (by simp) hva h);have HQA:=aW (And.intro hca (And.intro hoa (And.intro hga hza)));have hs1:w.heap.size+2<=w1.heap.size:=by have:=hb1.size;simpa using this
 have hn1:w1.heap.size≠w.heap.size+1:=by omega
 have hn2:w1.heap.size≠w.heap.size:=by omega
 clear hWA hva hca hoa hga hza hb1 c0 f0 l0 z0 z1 z2 z3 z4 z5 z6 z7 HKA;go_upto_region 24 with fail;rw [HWA.out];clear HWA;obtain ⟨c0,f0,l0⟩:=HH1.out.b2.rules;obtain ⟨c1,f1,l1⟩:=HH1.out.b1.rules;obtain ⟨c2,f2,l2⟩:=HH1.out.b0.rules;cases ba with
 |false =>
  have HX:=aW (show op=none by rw [← HOP.out,HQA.out.2.1];rfl);go_upto_region 25 with fail
  try simp only []
  go_step;go_step;go_step;go_step;refine bS rfl 40 4 98 rfl (w.heap.size+1) 0 #[Zi Zq 0,Zi Zq 0,Zt ⟨#[]⟩,Zs none 0 0,Zs none 0 0,.bool false] rfl rfl HH1.out.b1.there ?_;have HBR:=aW (HH1.out.b1.set6C (Zi Zq 0) (Zi Zq 0) (Zt ⟨#[]⟩) (Zs none 0 0) (Zs none 0 0) (.bool false));have HPT:=aW (show IsP op F w (.returned (.agg #[Zi Zq 0,Zi Zq 0,Zt ⟨#[]⟩,Zs none 0 0,Zs none 0 0,.bool false])) (WA.setCells (w.heap.size+1) 0 [Zi Zq 0,Zi Zq 0,Zt ⟨#[]⟩,Zs none 0 0,Zs none 0 0,.bool false]) from IsP.nilC HX.out HH1.out.1);obtain ⟨WG,hWG⟩:∃ W',WA.setCells (w.heap.size+1) 0 [Zi Zq 0,Zi Zq 0,Zt ⟨#[]⟩,Zs none 0 0,Zs none 0 0,.bool false]=W':=⟨_,rfl⟩
  rw [hWG] at HBR HPT
  try simp only []
  rw [hWG];clear hWG;obtain ⟨cR,fR,lR⟩:=HBR.out.rules;go_wp2_with ((with_reducible refine bodyPost_ret (v:=.agg #[Zi Zq 0,Zi Zq 0,Zt ⟨#[]⟩,Zs none 0 0,Zs none 0 0,.bool false]) ?_ rfl ?_);(simp only [results,Tryz.results17];go_simp);exact HPT.out)
 | true =>
 have HOA:=aW (show oa=some va from HQA.out.2.1);have HGA:=aW (HQA.out.2.2.1 rfl);have HCA:=aW HQA.out.1;clear HQA;go_wp2_with fail;refine (cU _ _ _ _ _ _ _ _ _ _ _).mono ?_;rintro e w2 ⟨rfl,hb2⟩;have HH2:=aW (HH1.out.keep hb2);have HW2:=aW (HW1.out.trans (hb2.mono HW1.out.size));clear hb2 c0 f0 l0 c1 f1 l1 c2 f2 l2;obtain ⟨c0,f0,l0⟩:=HH2.out.b2.rules;obtain ⟨c1,f1,l1⟩:=HH2.out.b1.rules;obtain ⟨c2,f2,l2⟩:=HH2.out.b0.rules;have HKN:=aW (br (HVA.out _ (Below.refl _ _)));have HO:=aW (show op=fv va by rw [← HOP.out,HOA.out];rfl);by_cases hk4:k5=4
 ·have e4:(k5 == 4)=true:=by simp [hk4]
  have htx:aL va.txt=true:=by
   have h1:=HKN.out.1;have h2:=HGA.out;obtain ⟨vk,vn,vs,vks,vys⟩:=va;have h3:vk=4:=h1.trans hk4;subst h3;exact nw h2
  have HCP:=aW (fu htx);have HPT:=aW (tL _ _ (Nat.le_refl _) htx);have HLN:=aW (show va.txt.length<=4194304 from by have:=HCA.out;obtain ⟨vk,vn,vs,vks,vys⟩:=va;exact this.out.2.2.1);have HX:=aW (show op=some (cC (gq va.txt)) by rw [HO.out];unfold fv;rw [if_pos (HKN.out.1.trans hk4)]);obtain ⟨cap,W3,hcv,hcap,hb3,hs3,hr3⟩:=dI (P:=Tryz.prog) w2 9 76 5 s5 Tryz.underlying9 Tryz.underlying76 Tryz.underlying5;have hss:sl s5=va.txt:=by rw [HKN.out.2.2.1,fW]
  have HPP:=aW (xx (Zs (some ⟨w2.heap.size,0,none⟩) s5.size cap) (dc va.txt) W3 HCP.out.1 (by rw [← HCP.out.2,← hss];exact ⟨_,_,by rw [bR],by rw [bR];exact hcap,hr3⟩) (by rw [← HCP.out.2];exact HLN.out));have HH3:=aW (HH2.out.keep hb3);obtain ⟨pn,hpn⟩:∃ q,(dc va.txt).length=q:=⟨_,rfl⟩
  have HXN:=aW (show op=some (cC (pn:Nat)) by rw [HX.out,HPT.out,hpn]);have HPL:=aW (show pn<=4194304 by rw [← hpn,← HPT.out];exact Nat.le_trans (qd _) HLN.out);unfold us at HPP;rw [hpn] at HPP;clear hk4 htx hb3 hs3 hr3 hcap hss hpn;go_upto_region 39 with fail;go_wp2_with fail;refine HPP.out.mono ?_;rintro e w4 ⟨⟨PA,pc,rfl,_,_⟩,hb4⟩;have HH4:=aW (HH3.out.keep hb4);clear hb4 c0 f0 l0 c1 f1 l1 c2 f2 l2 hcv;go_upto_region 40 with fail;go_wp2_with fail;refine (d9 _ _ _ _ _ _ _ _ _ _).mono ?_;rintro e w5 ⟨rfl,hb5⟩;have HH5:=aW (HH4.out.keep hb5);clear hb5
  try simp only []
  go_step;refine bS rfl 40 4 147 rfl (w.heap.size+1) 0 #[Zi Zq 3,Zi Zq (pn:Int),Zt ⟨#[]⟩,Zs none 0 0,Zs none 0 0,.bool true] rfl rfl HH5.out.b1.there ?_;have HBR:=aW (HH5.out.b1.set6C (Zi Zq 3) (Zi Zq (pn:Int)) (Zt ⟨#[]⟩) (Zs none 0 0) (Zs none 0 0) (.bool true));have HPT:=aW (show IsP op F w (.returned (.agg #[Zi Zq 3,Zi Zq (pn:Int),Zt ⟨#[]⟩,Zs none 0 0,Zs none 0 0,.bool true])) (w5.setCells (w.heap.size+1) 0 [Zi Zq 3,Zi Zq (pn:Int),Zt ⟨#[]⟩,Zs none 0 0,Zs none 0 0,.bool true]) from aM (s:=[]) HXN.out (dt _) (dl (by have:=HPL.out;unfold iw;omega)) HFF.out HH5.out.1);obtain ⟨WG,hWG⟩:∃ W',w5.setCells (w.heap.size+1) 0 [Zi Zq 3,Zi Zq (pn:Int),Zt ⟨#[]⟩,Zs none 0 0,Zs none 0 0,.bool true]=W':=⟨_,rfl⟩
  rw [hWG] at HBR HPT
  try simp only []
  rw [hWG];clear hWG;obtain ⟨cR,fR,lR⟩:=HBR.out.rules;go_wp2_with ((with_reducible refine bodyPost_ret (v:=.agg #[Zi Zq 3,Zi Zq (pn:Int),Zt ⟨#[]⟩,Zs none 0 0,Zs none 0 0,.bool true]) ?_ rfl ?_);(simp only [results,Tryz.results17];go_simp);exact HPT.out)
 have e4:(k5 == 4)=false:=by simp [hk4]
 by_cases hk5:k5<5
 ·have HX:=aW (show op=none by rw [HO.out];unfold fv;rw [if_neg (by rw [HKN.out.1];exact hk4),if_neg (by rw [HKN.out.1];omega)]);clear hk4;go_upto_region 42 with fail
  try simp only []
  go_step;go_step;go_step;go_step;refine bS rfl 40 4 152 rfl (w.heap.size+1) 0 #[Zi Zq 0,Zi Zq 0,Zt ⟨#[]⟩,Zs none 0 0,Zs none 0 0,.bool false] rfl rfl HH2.out.b1.there ?_;have HBR:=aW (HH2.out.b1.set6C (Zi Zq 0) (Zi Zq 0) (Zt ⟨#[]⟩) (Zs none 0 0) (Zs none 0 0) (.bool false));have HPT:=aW (show IsP op F w (.returned (.agg #[Zi Zq 0,Zi Zq 0,Zt ⟨#[]⟩,Zs none 0 0,Zs none 0 0,.bool false])) (w2.setCells (w.heap.size+1) 0 [Zi Zq 0,Zi Zq 0,Zt ⟨#[]⟩,Zs none 0 0,Zs none 0 0,.bool false]) from IsP.nilC HX.out HH2.out.1);obtain ⟨WG,hWG⟩:∃ W',w2.setCells (w.heap.size+1) 0 [Zi Zq 0,Zi Zq 0,Zt ⟨#[]⟩,Zs none 0 0,Zs none 0 0,.bool false]=W':=⟨_,rfl⟩
  rw [hWG] at HBR HPT
  try simp only []
  rw [hWG];clear hWG;obtain ⟨cR,fR,lR⟩:=HBR.out.rules;go_wp2_with ((with_reducible refine bodyPost_ret (v:=.agg #[Zi Zq 0,Zi Zq 0,Zt ⟨#[]⟩,Zs none 0 0,Zs none 0 0,.bool false]) ?_ rfl ?_);(simp only [results,Tryz.results17];go_simp);exact HPT.out)
 have HX:=aW (show op=some (cC (na5:Nat)) by rw [HO.out];unfold fv;rw [if_neg (by rw [HKN.out.1];exact hk4),if_pos (by rw [HKN.out.1];omega),HKN.out.2.2.2]);have HPL:=aW (show na5<=4194304 by have:=HCA.out;have h2:=HKN.out.2.2.2;obtain ⟨vk,vn,vs,vks,vys⟩:=va;rw [h2];exact this.out.2.2.2.1);clear hk4;go_upto_region 43 with fail;go_wp2_with fail;refine (d9 _ _ _ _ _ _ _ _ _ _).mono ?_;rintro e w5 ⟨rfl,hb5⟩;have HH5:=aW (HH2.out.keep hb5);clear hb5 c0 f0 l0 c1 f1 l1 c2 f2 l2
 try simp only []
 go_step;refine bS rfl 40 4 158 rfl (w.heap.size+1) 0 #[Zi Zq 3,Zi Zq (na5:Int),Zt ⟨#[]⟩,Zs none 0 0,Zs none 0 0,.bool true] rfl rfl HH5.out.b1.there ?_;have HBR:=aW (HH5.out.b1.set6C (Zi Zq 3) (Zi Zq (na5:Int)) (Zt ⟨#[]⟩) (Zs none 0 0) (Zs none 0 0) (.bool true));have HPT:=aW (show IsP op F w (.returned (.agg #[Zi Zq 3,Zi Zq (na5:Int),Zt ⟨#[]⟩,Zs none 0 0,Zs none 0 0,.bool true])) (w5.setCells (w.heap.size+1) 0 [Zi Zq 3,Zi Zq (na5:Int),Zt ⟨#[]⟩,Zs none 0 0,Zs none 0 0,.bool true]) from aM (s:=[]) HX.out (dt _) (dl (by have:=HPL.out;unfold iw;omega)) HFF.out HH5.out.1);obtain ⟨WG,hWG⟩:∃ W',w5.setCells (w.heap.size+1) 0 [Zi Zq 3,Zi Zq (na5:Int),Zt ⟨#[]⟩,Zs none 0 0,Zs none 0 0,.bool true]=W':=⟨_,rfl⟩
 rw [hWG] at HBR HPT
 try simp only []
 rw [hWG];clear hWG;obtain ⟨cR,fR,lR⟩:=HBR.out.rules;go_wp2_with ((with_reducible refine bodyPost_ret (v:=.agg #[Zi Zq 3,Zi Zq (na5:Int),Zt ⟨#[]⟩,Zs none 0 0,Zs none 0 0,.bool true]) ?_ rfl ?_);(simp only [results,Tryz.results17];go_simp);exact HPT.out)
end
end Go.Proofs.YtgolomgmnanbpaaGreatDoor
