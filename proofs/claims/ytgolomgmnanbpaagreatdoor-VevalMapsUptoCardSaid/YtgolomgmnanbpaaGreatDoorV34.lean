import Derived.Test.YtgolomgmnanbpaaGreatDoorV28
import Derived.Test.YtgolomgmnanbpaaGreatDoorV31
import Derived.Test.YtgolomgmnanbpaaGreatDoorV32
import Derived.Test.YtgolomgmnanbpaaGreatDoorV30
open Go.Value renaming int → Zi, slice → Zs, string → Zt, pointer → Zp
open Go.IntKind renaming i64 → Zq
set_option maxRecDepth 100000
set_option maxHeartbeats 16000000
set_option linter.unusedVariables false
set_option linter.unusedSimpArgs false
namespace Go.Proofs.YtgolomgmnanbpaaGreatDoor
section
open Go.RowKit
attribute [local go_sem] aa ac ae ab
theorem yB {env:List (List UInt8 × JV)} {v:JV} {s:List UInt8} {ya yb:EJ} {cs:List Value} {EA:Option Addr} {n ec:Nat} {F:Nat->Prop} {w:World} (hF:∀ b,F b->b<w.heap.size) (hx:ER w F cs (.mk 9 v s [ya,yb])) (hcx:bh (.mk 9 v s [ya,yb]))
  (ka:dA EA n ec F env w ya) (kb:dA EA n ec F env w yb) (oa ob:Option JV) (hoa:evE env ya=oa) (hob:evE env yb=ob) (op:Option JV) (hop:bg env 9 v s [oa,ob]=op) :
  Calls Tryz.prog 17 #[.agg cs.toArray,Zs EA n ec] w (IsP op F w):=by
 obtain ⟨k1,n1,s1,A1,na1,ca1,B1,nb1,cb1,A,ca,css0,rfl,hv,h1,h2,h3,h4⟩:=hx.out;obtain ⟨b,o,kx,px,nx,sx,Ax,nax,cax,Bx,nbx,cbx,zx,Cx,ncx,ccx,rfl,hb,hER,hz⟩:=aq h1 h4 (i:=0) (x:=ya) rfl;have HKA:=aW (λ (W:World) (h:Below w.heap.size w W)=>ka W _ h (hER.bel h));obtain ⟨b',o',ky,py,ny,sy,Ay,nay,cay,By,nby,cby,zy,Cy,ncy,ccy,hbb,hb2,hER2,hz2⟩:=aq h1 h4 (i:=1) (x:=yb) rfl;injection hbb with hbb;injection hbb with hb1 hb3
 subst hb1 hb3;have HKB:=aW (λ (W:World) (h:Below w.heap.size w W)=>kb W _ h (hER2.bel h));have HZ2:=aW hz2;rw [hoa] at HKA;rw [hob] at HKB;obtain ⟨nr,hnr⟩:∃ q:Nat,2=q:=⟨_,rfl⟩
 have hnr1:0<nr:=by omega
 have hnr2:1<nr:=by omega
 have HFF:=aW hF;have HOP:=aW hop;have HVS:=aW hv;have HH0:=aW (((aj.nil w).push 28 #[Zi Zq 9,Zi Zq k1,Zi Zq n1,Zt s1,Zs A1 na1 ca1,Zs B1 nb1 cb1,Zt ⟨s.toArray⟩,Zs (some ⟨b,o,none⟩) nr ca] (g:=w.heap.size) rfl).push 40 #[Zi Zq 0,Zi Zq 0,Zt ⟨#[]⟩,Zs none 0 0,Zs none 0 0,.bool false] (g:=w.heap.size+1) (by simp));obtain ⟨z0,z1,z2,z3,z4,z5,z6,z7⟩:=hz _ HH0.out.1;rw [dP] at z0 z1 z2 z3 z4 z5 z6 z7;have hlb:b<w.heap.size:=hb;have hlb2:b≠w.heap.size+1:=by omega
 rw [show ([ya,yb]:List EJ).length=nr from hnr];obtain ⟨c0,f0,l0⟩:=HH0.out.b1.rules;clear hF hx hcx hv h1 h2 h3 h4 hER hz hb hoa hob hop hnr ka kb hER2 hz2 hb2;go_enter Tryz.func17,Tryz.ntmps17;go_wp2_with fail;refine (HKA.out _ HH0.out.1).mono ?_;rintro e w1 ⟨k5,n5,s5,A5,na5,ca5,B5,nb5,cb5,va,ba,rfl,hva,hca,hoa,hga,hza,hb1⟩;obtain ⟨WA,hWA⟩:∃ W,w1.alloc (.cells #[Zi Zq k5,Zi Zq n5,Zt s5,Zs A5 na5 ca5,Zs B5 nb5 cb5,.bool ba] 40)=W:=⟨_,rfl⟩
 have HWA:=aW hWA;have HH1:=aW (show aj [(w1.heap.size,40,#[Zi Zq k5,Zi Zq n5,Zt s5,Zs A5 na5 ca5,Zs B5 nb5 cb5,.bool ba]),(w.heap.size+1,40,#[Zi Zq 0,Zi Zq 0,Zt ⟨#[]⟩,Zs none 0 0,Zs none 0 0,.bool false]),(w.heap.size,28,#[Zi Zq 9,Zi Zq k1,Zi Zq n1,Zt s1,Zs A1 na1 ca1,Zs B1 nb1 cb1,Zt ⟨s.toArray⟩,Zs (some ⟨b,o,none⟩) nr ca])] w WA by rw [← hWA];exact (HH0.out.keep hb1).push 40 #[Zi Zq k5,Zi Zq n5,Zt s5,Zs A5 na5 ca5,Zs B5 nb5 cb5,.bool ba] (g:=w1.heap.size) rfl);have HW1:=aW (show Below w1.heap.size w1 WA by rw [← hWA];exact (Below.refl _ w1).alloc (Nat.le_refl _) _);have HVA:=aW (λ (W:World) (h:Below w1.heap.size w1 W)=>IsP.val (w:=w) (by simp) hva h);have HQA:=aW (And.intro hca (And.intro hoa (And.intro hga hza)));have hs1:w.heap.size+2<=w1.heap.size:=by have:=hb1.size;simpa using this
 have hn1:w1.heap.size≠w.heap.size+1:=by omega
 have hn2:w1.heap.size≠w.heap.size:=by omega
 clear hWA hva hca hoa hga hza hb1 c0 f0 l0 z0 z1 z2 z3 z4 z5 z6 z7 HKA;go_upto_region 24 with fail;rw [HWA.out];clear HWA;obtain ⟨c0,f0,l0⟩:=HH1.out.b2.rules;obtain ⟨c1,f1,l1⟩:=HH1.out.b1.rules;obtain ⟨c2,f2,l2⟩:=HH1.out.b0.rules;cases ba with
 |false =>
  have HX:=aW (show op=none by rw [← HOP.out,HQA.out.2.1];rfl);go_upto_region 25 with fail
  try simp only []
  go_step;go_step;go_step;go_step;refine bS rfl 40 4 98 rfl (w.heap.size+1) 0 #[Zi Zq 0,Zi Zq 0,Zt ⟨#[]⟩,Zs none 0 0,Zs none 0 0,.bool false] rfl rfl HH1.out.b1.there ?_;have HBR:=aW (HH1.out.b1.set6C (Zi Zq 0) (Zi Zq 0) (Zt ⟨#[]⟩) (Zs none 0 0) (Zs none 0 0) (.bool false));have HPT:=aW (show IsP op F w (.returned (.agg #[Zi Zq 0,Zi Zq 0,Zt ⟨#[]⟩,Zs none 0 0,Zs none 0 0,.bool false])) (WA.setCells (w.heap.size+1) 0 [Zi Zq 0,Zi Zq 0,Zt ⟨#[]⟩,Zs none 0 0,Zs none 0 0,.bool false]) from IsP.nilC HX.out HH1.out.1);obtain ⟨WG,hWG⟩:∃ W',WA.setCells (w.heap.size+1) 0 [Zi Zq 0,Zi Zq 0,Zt ⟨#[]⟩,Zs none 0 0,Zs none 0 0,.bool false]=W':=⟨_,rfl⟩
  rw [hWG] at HBR HPT
  try simp only []
  rw [hWG];clear hWG;obtain ⟨cR,fR,lR⟩:=HBR.out.rules;go_wp2_with ((with_reducible refine bodyPost_ret (v:=.agg #[Zi Zq 0,Zi Zq 0,Zt ⟨#[]⟩,Zs none 0 0,Zs none 0 0,.bool false]) ?_ rfl ?_);(simp only [results,Tryz.results17];go_simp);exact HPT.out)
 | true =>
 have HOA:=aW (show oa=some va from HQA.out.2.1);have HGA:=aW (HQA.out.2.2.1 rfl);have HCA:=aW HQA.out.1;clear HQA;go_wp2_with fail;refine (cU _ _ _ _ _ _ _ _ _ _ _).mono ?_;rintro e w2 ⟨rfl,hb2⟩;have HH2:=aW (HH1.out.keep hb2);have HW2:=aW (HW1.out.trans (hb2.mono HW1.out.size));clear hb2 c0 f0 l0 c1 f1 l1 c2 f2 l2;obtain ⟨c0,f0,l0⟩:=HH2.out.b2.rules;obtain ⟨c1,f1,l1⟩:=HH2.out.b1.rules;obtain ⟨c2,f2,l2⟩:=HH2.out.b0.rules;obtain ⟨y0,y1,y2,y3,y4,y5,y6,y7⟩:=HZ2.out _ HH2.out.1;rw [Nat.one_mul] at y0 y1 y2 y3 y4 y5 y6 y7;have hlb9:b<w2.heap.size:=Nat.lt_of_lt_of_le hlb HH2.out.1.size;have hs2:w.heap.size+2<=w2.heap.size:=Nat.le_trans hs1 HW2.out.size;go_upto_region 56 with fail;go_wp2_with fail;refine (HKB.out _ HH2.out.1).mono ?_;rintro e w3 ⟨k6,n6,s6,A6,na6,ca6,B6,nb6,cb6,vb,bb,rfl,hvb,hcb,hob,hgb,hzb,hb3⟩;obtain ⟨WB,hWB⟩:∃ W,w3.alloc (.cells #[Zi Zq k6,Zi Zq n6,Zt s6,Zs A6 na6 ca6,Zs B6 nb6 cb6,.bool bb] 40)=W:=⟨_,rfl⟩
 have HWB:=aW hWB;have HH3:=aW (show aj [(w3.heap.size,40,#[Zi Zq k6,Zi Zq n6,Zt s6,Zs A6 na6 ca6,Zs B6 nb6 cb6,.bool bb]),(w1.heap.size,40,#[Zi Zq k5,Zi Zq n5,Zt s5,Zs A5 na5 ca5,Zs B5 nb5 cb5,.bool true]),(w.heap.size+1,40,#[Zi Zq 0,Zi Zq 0,Zt ⟨#[]⟩,Zs none 0 0,Zs none 0 0,.bool false]),(w.heap.size,28,#[Zi Zq 9,Zi Zq k1,Zi Zq n1,Zt s1,Zs A1 na1 ca1,Zs B1 nb1 cb1,Zt ⟨s.toArray⟩,Zs (some ⟨b,o,none⟩) nr ca])] w WB by rw [← hWB];exact (HH2.out.keep hb3).push 40 #[Zi Zq k6,Zi Zq n6,Zt s6,Zs A6 na6 ca6,Zs B6 nb6 cb6,.bool bb] (g:=w3.heap.size) rfl);have HW3:=aW (show Below w3.heap.size w3 WB by rw [← hWB];exact (Below.refl _ w3).alloc (Nat.le_refl _) _);have HW13:=aW (HW2.out.trans (hb3.mono HW2.out.size));have HW14:=aW (HW13.out.trans (HW3.out.mono HW13.out.size));have HVB:=aW (λ (W:World) (h:Below w3.heap.size w3 W)=>IsP.val (w:=w) hs2 hvb h);have HQB:=aW (And.intro hcb (And.intro hob (And.intro hgb hzb)));have hn3:w3.heap.size≠w.heap.size+1:=by have:=hb3.size;omega
 have hn4:w3.heap.size≠w.heap.size:=by have:=hb3.size;omega
 have hn5:w3.heap.size≠w1.heap.size:=by have:=hb3.size;have:=HH2.out.b0.lt;omega
 clear hWB hvb hcb hob hgb hzb hb3 c0 f0 l0 c1 f1 l1 c2 f2 l2 y0 y1 y2 y3 y4 y5 y6 y7 HKB HZ2;go_upto_region 57 with fail;rw [HWB.out];clear HWB;obtain ⟨c0,f0,l0⟩:=HH3.out.b3.rules;obtain ⟨c1,f1,l1⟩:=HH3.out.b2.rules;obtain ⟨c2,f2,l2⟩:=HH3.out.b1.rules;obtain ⟨c3,f3,l3⟩:=HH3.out.b0.rules;cases bb with
 |false =>
  have HX:=aW (show op=none by rw [← HOP.out,HOA.out,HQB.out.2.1];exact fP (by omega));go_upto_region 58 with fail
  try simp only []
  go_step;go_step;go_step;go_step;refine bS rfl 40 4 206 rfl (w.heap.size+1) 0 #[Zi Zq 0,Zi Zq 0,Zt ⟨#[]⟩,Zs none 0 0,Zs none 0 0,.bool false] rfl rfl HH3.out.b2.there ?_;have HBR:=aW (HH3.out.b2.set6C (Zi Zq 0) (Zi Zq 0) (Zt ⟨#[]⟩) (Zs none 0 0) (Zs none 0 0) (.bool false));have HPT:=aW (show IsP op F w (.returned (.agg #[Zi Zq 0,Zi Zq 0,Zt ⟨#[]⟩,Zs none 0 0,Zs none 0 0,.bool false])) (WB.setCells (w.heap.size+1) 0 [Zi Zq 0,Zi Zq 0,Zt ⟨#[]⟩,Zs none 0 0,Zs none 0 0,.bool false]) from IsP.nilC HX.out HH3.out.1);obtain ⟨WG,hWG⟩:∃ W',WB.setCells (w.heap.size+1) 0 [Zi Zq 0,Zi Zq 0,Zt ⟨#[]⟩,Zs none 0 0,Zs none 0 0,.bool false]=W':=⟨_,rfl⟩
  rw [hWG] at HBR HPT
  try simp only []
  rw [hWG];clear hWG;obtain ⟨cR,fR,lR⟩:=HBR.out.rules;go_wp2_with ((with_reducible refine bodyPost_ret (v:=.agg #[Zi Zq 0,Zi Zq 0,Zt ⟨#[]⟩,Zs none 0 0,Zs none 0 0,.bool false]) ?_ rfl ?_);(simp only [results,Tryz.results17];go_simp);exact HPT.out)
 | true =>
 have HOB:=aW (show ob=some vb from HQB.out.2.1);have HGB:=aW (HQB.out.2.2.1 rfl);have HCB:=aW HQB.out.1;clear HQB;have HKN:=aW (And.intro (br (HVA.out _ (Below.refl _ _))) (br (HVB.out _ (Below.refl _ _))));have HO:=aW (show op=if k5=3/\k6=3 then mB 9 n5 n6 else none by
  rw [← HOP.out,HOA.out,HOB.out,mC (by omega),HKN.out.1.1,HKN.out.1.2.1,HKN.out.2.1,HKN.out.2.2.1])
 by_cases hk5:k5=3;rotate_left
 ·have e5:(k5 != 3)=true:=by simp [hk5]
  have HX:=aW (show op=none by rw [HO.out,if_neg (λ h=>hk5 h.1)]);clear hk5;go_upto_region 63 with fail
  try simp only []
  go_step;go_step;go_step;go_step;refine bS rfl 40 4 242 rfl (w.heap.size+1) 0 #[Zi Zq 0,Zi Zq 0,Zt ⟨#[]⟩,Zs none 0 0,Zs none 0 0,.bool false] rfl rfl HH3.out.b2.there ?_;have HBR:=aW (HH3.out.b2.set6C (Zi Zq 0) (Zi Zq 0) (Zt ⟨#[]⟩) (Zs none 0 0) (Zs none 0 0) (.bool false));have HPT:=aW (show IsP op F w (.returned (.agg #[Zi Zq 0,Zi Zq 0,Zt ⟨#[]⟩,Zs none 0 0,Zs none 0 0,.bool false])) (WB.setCells (w.heap.size+1) 0 [Zi Zq 0,Zi Zq 0,Zt ⟨#[]⟩,Zs none 0 0,Zs none 0 0,.bool false]) from IsP.nilC HX.out HH3.out.1);obtain ⟨WG,hWG⟩:∃ W',WB.setCells (w.heap.size+1) 0 [Zi Zq 0,Zi Zq 0,Zt ⟨#[]⟩,Zs none 0 0,Zs none 0 0,.bool false]=W':=⟨_,rfl⟩
  rw [hWG] at HBR HPT
  try simp only []
  rw [hWG];clear hWG;obtain ⟨cR,fR,lR⟩:=HBR.out.rules;go_wp2_with ((with_reducible refine bodyPost_ret (v:=.agg #[Zi Zq 0,Zi Zq 0,Zt ⟨#[]⟩,Zs none 0 0,Zs none 0 0,.bool false]) ?_ rfl ?_);(simp only [results,Tryz.results17];go_simp);exact HPT.out)
 by_cases hk6:k6=3;rotate_left
 ·have e5:(k5 != 3)=false:=by simp [hk5]
  have e6:(k6 != 3)=true:=by simp [hk6]
  have HX:=aW (show op=none by rw [HO.out,if_neg (λ h=>hk6 h.2)]);clear hk5 hk6;go_upto_region 63 with fail
  try simp only []
  go_step;go_step;go_step;go_step;refine bS rfl 40 4 242 rfl (w.heap.size+1) 0 #[Zi Zq 0,Zi Zq 0,Zt ⟨#[]⟩,Zs none 0 0,Zs none 0 0,.bool false] rfl rfl HH3.out.b2.there ?_;have HBR:=aW (HH3.out.b2.set6C (Zi Zq 0) (Zi Zq 0) (Zt ⟨#[]⟩) (Zs none 0 0) (Zs none 0 0) (.bool false));have HPT:=aW (show IsP op F w (.returned (.agg #[Zi Zq 0,Zi Zq 0,Zt ⟨#[]⟩,Zs none 0 0,Zs none 0 0,.bool false])) (WB.setCells (w.heap.size+1) 0 [Zi Zq 0,Zi Zq 0,Zt ⟨#[]⟩,Zs none 0 0,Zs none 0 0,.bool false]) from IsP.nilC HX.out HH3.out.1);obtain ⟨WG,hWG⟩:∃ W',WB.setCells (w.heap.size+1) 0 [Zi Zq 0,Zi Zq 0,Zt ⟨#[]⟩,Zs none 0 0,Zs none 0 0,.bool false]=W':=⟨_,rfl⟩
  rw [hWG] at HBR HPT
  try simp only []
  rw [hWG];clear hWG;obtain ⟨cR,fR,lR⟩:=HBR.out.rules;go_wp2_with ((with_reducible refine bodyPost_ret (v:=.agg #[Zi Zq 0,Zi Zq 0,Zt ⟨#[]⟩,Zs none 0 0,Zs none 0 0,.bool false]) ?_ rfl ?_);(simp only [results,Tryz.results17];go_simp);exact HPT.out)
 have e5:(k5 != 3)=false:=by simp [hk5]
 have e6:(k6 != 3)=false:=by simp [hk6]
 have HN:=aW (show op=mB 9 n5 n6 by rw [HO.out,if_pos ⟨hk5,hk6⟩]);clear HO hk5 hk6;have HSU:=aW (tS n5 n6 WB (show iw n5 by rw [← HKN.out.1.2.1];exact fF HCA.out) (show iw n6 by rw [← HKN.out.2.2.1];exact fF HCB.out));go_upto_region 68 with fail;go_wp2_with fail;refine HSU.out.mono ?_;intro e w4 h;obtain ⟨rfl,⟨hi,rfl⟩ | ⟨hi,rfl⟩⟩:=h.cases;rotate_left
 ·have HX:=aW (show op=none by rw [HN.out];exact mp hi);clear h hi;go_upto_region 72 with fail
  try simp only []
  go_step;go_step;go_step;go_step;refine bS rfl 40 4 281 rfl (w.heap.size+1) 0 #[Zi Zq 0,Zi Zq 0,Zt ⟨#[]⟩,Zs none 0 0,Zs none 0 0,.bool false] rfl rfl HH3.out.b2.there ?_;have HBR:=aW (HH3.out.b2.set6C (Zi Zq 0) (Zi Zq 0) (Zt ⟨#[]⟩) (Zs none 0 0) (Zs none 0 0) (.bool false));have HPT:=aW (show IsP op F w (.returned (.agg #[Zi Zq 0,Zi Zq 0,Zt ⟨#[]⟩,Zs none 0 0,Zs none 0 0,.bool false])) (w4.setCells (w.heap.size+1) 0 [Zi Zq 0,Zi Zq 0,Zt ⟨#[]⟩,Zs none 0 0,Zs none 0 0,.bool false]) from IsP.nilC HX.out HH3.out.1);obtain ⟨WG,hWG⟩:∃ W',w4.setCells (w.heap.size+1) 0 [Zi Zq 0,Zi Zq 0,Zt ⟨#[]⟩,Zs none 0 0,Zs none 0 0,.bool false]=W':=⟨_,rfl⟩
  rw [hWG] at HBR HPT
  try simp only []
  rw [hWG];clear hWG;obtain ⟨cR,fR,lR⟩:=HBR.out.rules;go_wp2_with ((with_reducible refine bodyPost_ret (v:=.agg #[Zi Zq 0,Zi Zq 0,Zt ⟨#[]⟩,Zs none 0 0,Zs none 0 0,.bool false]) ?_ rfl ?_);(simp only [results,Tryz.results17];go_simp);exact HPT.out)
 have HX:=aW (show op=some (cC _) from by rw [HN.out];exact ju hi);have HIW:=aW hi;clear h hi;obtain ⟨z,hz⟩:∃ z,(n5+n6)=z:=⟨_,rfl⟩
 have HZE:=aW hz;rw [hz] at HIW;go_upto_region 73 with fail
 try rw [hz]
 go_wp2_with fail
 try rw [hz]
 refine (d9 _ _ _ _ _ _ _ _ _ _).mono ?_;rintro e w5 ⟨rfl,hb5⟩;have HH5:=aW (HH3.out.keep hb5);clear hb5 hz c0 f0 l0 c1 f1 l1 c2 f2 l2 c3 f3 l3
 try simp only []
 go_step;refine bS rfl 40 4 284 rfl (w.heap.size+1) 0 #[Zi Zq 3,Zi Zq z,Zt ⟨#[]⟩,Zs none 0 0,Zs none 0 0,.bool true] rfl rfl HH5.out.b2.there ?_;have HBR:=aW (HH5.out.b2.set6C (Zi Zq 3) (Zi Zq z) (Zt ⟨#[]⟩) (Zs none 0 0) (Zs none 0 0) (.bool true));have HPT:=aW (show IsP op F w (.returned (.agg #[Zi Zq 3,Zi Zq z,Zt ⟨#[]⟩,Zs none 0 0,Zs none 0 0,.bool true])) (w5.setCells (w.heap.size+1) 0 [Zi Zq 3,Zi Zq z,Zt ⟨#[]⟩,Zs none 0 0,Zs none 0 0,.bool true]) from aM (s:=[]) (by rw [HX.out];show some (JV.mk 3 (n5+n6) [] [] [])=_;rw [HZE.out]) (dt z) (dl HIW.out) HFF.out HH5.out.1);obtain ⟨WG,hWG⟩:∃ W',w5.setCells (w.heap.size+1) 0 [Zi Zq 3,Zi Zq z,Zt ⟨#[]⟩,Zs none 0 0,Zs none 0 0,.bool true]=W':=⟨_,rfl⟩
 rw [hWG] at HBR HPT
 try simp only []
 rw [hWG];clear hWG;obtain ⟨cR,fR,lR⟩:=HBR.out.rules;go_wp2_with ((with_reducible refine bodyPost_ret (v:=.agg #[Zi Zq 3,Zi Zq z,Zt ⟨#[]⟩,Zs none 0 0,Zs none 0 0,.bool true]) ?_ rfl ?_);(simp only [results,Tryz.results17];go_simp);exact HPT.out)
theorem yy {env:List (List UInt8 × JV)} {v:JV} {s:List UInt8} {ya yb:EJ} {cs:List Value} {EA:Option Addr} {n ec:Nat} {F:Nat->Prop} {w:World} (hF:∀ b,F b->b<w.heap.size) (hx:ER w F cs (.mk 7 v s [ya])) (hcx:bh (.mk 7 v s [ya]))
  (ka:dA EA n ec F env w ya) (kb:dA EA n ec F env w yb) (oa ob:Option JV) (hoa:evE env ya=oa) (hob:evE env yb=ob) (op:Option JV) (hop:bg env 7 v s [oa]=op) :
  Calls Tryz.prog 17 #[.agg cs.toArray,Zs EA n ec] w (IsP op F w):=by
 obtain ⟨k1,n1,s1,A1,na1,ca1,B1,nb1,cb1,A,ca,css0,rfl,hv,h1,h2,h3,h4⟩:=hx.out;obtain ⟨b,o,kx,px,nx,sx,Ax,nax,cax,Bx,nbx,cbx,zx,Cx,ncx,ccx,rfl,hb,hER,hz⟩:=aq h1 h4 (i:=0) (x:=ya) rfl;have HKA:=aW (λ (W:World) (h:Below w.heap.size w W)=>ka W _ h (hER.bel h));rw [hoa] at HKA;obtain ⟨nr,hnr⟩:∃ q:Nat,1=q:=⟨_,rfl⟩
 have hnr1:0<nr:=by omega
 have HFF:=aW hF;have HOP:=aW hop;have HVS:=aW hv;have HH0:=aW (((aj.nil w).push 28 #[Zi Zq 7,Zi Zq k1,Zi Zq n1,Zt s1,Zs A1 na1 ca1,Zs B1 nb1 cb1,Zt ⟨s.toArray⟩,Zs (some ⟨b,o,none⟩) nr ca] (g:=w.heap.size) rfl).push 40 #[Zi Zq 0,Zi Zq 0,Zt ⟨#[]⟩,Zs none 0 0,Zs none 0 0,.bool false] (g:=w.heap.size+1) (by simp));obtain ⟨z0,z1,z2,z3,z4,z5,z6,z7⟩:=hz _ HH0.out.1;rw [dP] at z0 z1 z2 z3 z4 z5 z6 z7;have hlb:b<w.heap.size:=hb;have hlb2:b≠w.heap.size+1:=by omega
 rw [show ([ya]:List EJ).length=nr from hnr];obtain ⟨c0,f0,l0⟩:=HH0.out.b1.rules;clear hF hx hcx hv h1 h2 h3 h4 hER hz hb hoa hob hop hnr ka kb;go_enter Tryz.func17,Tryz.ntmps17;go_wp2_with fail;refine (HKA.out _ HH0.out.1).mono ?_;rintro e w1 ⟨k5,n5,s5,A5,na5,ca5,B5,nb5,cb5,va,ba,rfl,hva,hca,hoa,hga,hza,hb1⟩;obtain ⟨WA,hWA⟩:∃ W,w1.alloc (.cells #[Zi Zq k5,Zi Zq n5,Zt s5,Zs A5 na5 ca5,Zs B5 nb5 cb5,.bool ba] 40)=W:=⟨_,rfl⟩
 have HWA:=aW hWA;have HH1:=aW (show aj [(w1.heap.size,40,#[Zi Zq k5,Zi Zq n5,Zt s5,Zs A5 na5 ca5,Zs B5 nb5 cb5,.bool ba]),(w.heap.size+1,40,#[Zi Zq 0,Zi Zq 0,Zt ⟨#[]⟩,Zs none 0 0,Zs none 0 0,.bool false]),(w.heap.size,28,#[Zi Zq 7,Zi Zq k1,Zi Zq n1,Zt s1,Zs A1 na1 ca1,Zs B1 nb1 cb1,Zt ⟨s.toArray⟩,Zs (some ⟨b,o,none⟩) nr ca])] w WA by rw [← hWA];exact (HH0.out.keep hb1).push 40 #[Zi Zq k5,Zi Zq n5,Zt s5,Zs A5 na5 ca5,Zs B5 nb5 cb5,.bool ba] (g:=w1.heap.size) rfl);have HW1:=aW (show Below w1.heap.size w1 WA by rw [← hWA];exact (Below.refl _ w1).alloc (Nat.le_refl _) _);have HVA:=aW (λ (W:World) (h:Below w1.heap.size w1 W)=>IsP.val (w:=w) (by simp) hva h);have HQA:=aW (And.intro hca (And.intro hoa (And.intro hga hza)));have hs1:w.heap.size+2<=w1.heap.size:=by have:=hb1.size;simpa using this
 have hn1:w1.heap.size≠w.heap.size+1:=by omega
 have hn2:w1.heap.size≠w.heap.size:=by omega
 clear hWA hva hca hoa hga hza hb1 c0 f0 l0 z0 z1 z2 z3 z4 z5 z6 z7 HKA;go_upto_region 24 with fail;rw [HWA.out];clear HWA;obtain ⟨c0,f0,l0⟩:=HH1.out.b2.rules;obtain ⟨c1,f1,l1⟩:=HH1.out.b1.rules;obtain ⟨c2,f2,l2⟩:=HH1.out.b0.rules;cases ba with
 |false =>
  have HX:=aW (show op=none by rw [← HOP.out,HQA.out.2.1];rfl);go_upto_region 25 with fail
  try simp only []
  go_step;go_step;go_step;go_step;refine bS rfl 40 4 98 rfl (w.heap.size+1) 0 #[Zi Zq 0,Zi Zq 0,Zt ⟨#[]⟩,Zs none 0 0,Zs none 0 0,.bool false] rfl rfl HH1.out.b1.there ?_;have HBR:=aW (HH1.out.b1.set6C (Zi Zq 0) (Zi Zq 0) (Zt ⟨#[]⟩) (Zs none 0 0) (Zs none 0 0) (.bool false));have HPT:=aW (show IsP op F w (.returned (.agg #[Zi Zq 0,Zi Zq 0,Zt ⟨#[]⟩,Zs none 0 0,Zs none 0 0,.bool false])) (WA.setCells (w.heap.size+1) 0 [Zi Zq 0,Zi Zq 0,Zt ⟨#[]⟩,Zs none 0 0,Zs none 0 0,.bool false]) from IsP.nilC HX.out HH1.out.1);obtain ⟨WG,hWG⟩:∃ W',WA.setCells (w.heap.size+1) 0 [Zi Zq 0,Zi Zq 0,Zt ⟨#[]⟩,Zs none 0 0,Zs none 0 0,.bool false]=W':=⟨_,rfl⟩
  rw [hWG] at HBR HPT
  try simp only []
  rw [hWG];clear hWG;obtain ⟨cR,fR,lR⟩:=HBR.out.rules;go_wp2_with ((with_reducible refine bodyPost_ret (v:=.agg #[Zi Zq 0,Zi Zq 0,Zt ⟨#[]⟩,Zs none 0 0,Zs none 0 0,.bool false]) ?_ rfl ?_);(simp only [results,Tryz.results17];go_simp);exact HPT.out)
 | true =>
 have HOA:=aW (show oa=some va from HQA.out.2.1);have HGA:=aW (HQA.out.2.2.1 rfl);have HCA:=aW HQA.out.1;clear HQA;go_wp2_with fail;refine (cU _ _ _ _ _ _ _ _ _ _ _).mono ?_;rintro e w2 ⟨rfl,hb2⟩;have HH2:=aW (HH1.out.keep hb2);have HW2:=aW (HW1.out.trans (hb2.mono HW1.out.size));clear hb2 c0 f0 l0 c1 f1 l1 c2 f2 l2;obtain ⟨c0,f0,l0⟩:=HH2.out.b2.rules;obtain ⟨c1,f1,l1⟩:=HH2.out.b1.rules;obtain ⟨c2,f2,l2⟩:=HH2.out.b0.rules;have HKN:=aW (br (HVA.out _ (Below.refl _ _)));have hkk:=jF HGA.out;rw [HKN.out.1] at hkk;obtain ⟨j,rfl⟩:∃ j:Nat,(j:Int)=k5:=⟨k5.toNat,by omega⟩
 obtain ⟨nb,hnb⟩:∃ q:ByteArray,(⟨(gD (j:Int)).toArray⟩:ByteArray)=q:=⟨_,rfl⟩
 have HNJ:=aW (show tX[j]? = some (Zt nb) by
  rw [← hnb];have:j=1∨j=2∨j=3∨j=4∨j=5∨j=6:=by omega
  rcases this with rfl | rfl | rfl | rfl | rfl | rfl<;>rfl)
 have HX:=aW (show op=some (bQ (gD (j:Int))) by rw [← HOP.out,HOA.out,← HKN.out.1];rfl);have HGT:=aW (lf (j:Int));have HNL:=aW (show (gD (j:Int)).length<=4194304 by
  have:j=1∨j=2∨j=3∨j=4∨j=5∨j=6:=by omega
  rcases this with rfl | rfl | rfl | rfl | rfl | rfl<;>decide)
 have HNB:=aW hnb;have hj7:j<7:=by omega
 have hj7i:(j:Int)<7:=by omega
 have hj7n:¬ 7<=(j:Int):=by omega
 clear hkk hnb;go_upto_region 45 with fail;clear c0 f0 l0 c1 f1 l1 c2 f2 l2;refine wp_region_held_drew (S:=λ W'=>Blk W' w1.heap.size 40 #[Zi Zq (j:Int),Zi Zq n5,Zt s5,Zs A5 na5 ca5,Zs B5 nb5 cb5,.bool true]) (by kernel_rfl) (by exact HH2.out.b0.drew) (λ hHeld=>?_);refine az (λ Y0 hY=>?_);have HY0:=aW (show aj [(w1.heap.size,40,#[Zi Zq (j:Int),Zi Zq n5,Zt s5,Zs A5 na5 ca5,Zs B5 nb5 cb5,.bool true]),(w.heap.size+1,40,#[Zi Zq 0,Zi Zq 0,Zt ⟨#[]⟩,Zs none 0 0,Zs none 0 0,.bool false]),(w.heap.size,28,#[Zi Zq 7,Zi Zq k1,Zi Zq n1,Zt s1,Zs A1 na1 ca1,Zs B1 nb1 cb1,Zt ⟨s.toArray⟩,Zs (some ⟨b,o,none⟩) nr ca])] w Y0 by rw [hY];exact HH2.out.drew);clear hY hHeld;have hHeld:=HY0.out.b0;refine tA 1 162 (Zp (some ⟨w1.heap.size,0,none⟩)) rfl ?_;refine tA 2 163 (Zp (some ⟨w1.heap.size,0,none⟩)) rfl ?_;refine aY 3 164 (Zi Zq (j:Int)) rfl ?_ ?_
 ·intro W hSw;obtain ⟨c8,f8,l8⟩:=hSw.rules;go_simp
 refine aV 0 161 rfl (λ K hK=>?_);go_simp;refine (vE _).mono ?_;rintro e Y1 ⟨g,rfl,hbn,hb⟩;have HY1:=aW (HY0.out.keep hb);have HNA:=aW hbn;have hcn:Y1.cell? ⟨g,j,none⟩=some (Zt nb):=by rw [hbn.cell,List.getElem?_toArray];exact HNJ.out
 clear hbn;refine hK.out _ _ (by exact HY1.out.b0) (λ hHeld2=>?_);clear hK K hHeld hb;have hHeld:=hHeld2;clear hHeld2
 try simp only [pU]
 refine tA 4 165 (Zp (some ⟨g,j,none⟩)) rfl ?_;refine aV 5 166 rfl (λ K hK=>?_);go_simp;refine hK.out _ _ (by exact HY1.out.b0) (λ hHeld2=>?_);clear hK K hHeld hcn;have hHeld:=hHeld2;clear hHeld2
 try simp only [pU]
 refine tA 6 167 (.agg #[Zi Zq 4,Zi Zq 0,Zt nb,Zs none 0 0,Zs none 0 0]) rfl ?_;refine aV 7 168 rfl (λ K hK=>?_);go_simp;refine (d9 _ _ _ _ _ _ _ _ _ _).mono ?_;rintro e Y2 ⟨rfl,hb⟩;have HY2:=aW (HY1.out.keep hb);refine hK.out _ _ (by exact HY2.out.b0) (λ hHeld2=>?_);clear hK K hHeld hb;have hHeld:=hHeld2;clear hHeld2
 try simp only [pU]
 refine aU 8 rfl (λ K hK=>?_);rw [if_pos (by kernel_rfl)];refine wp_store_mid 40 (.tmp 4) (.tmp 168) rfl (w.heap.size+1) 0 #[Zi Zq 4,Zi Zq 0,Zt nb,Zs none 0 0,Zs none 0 0,.bool true] rfl rfl HY2.out.b1.there (by kernel_rfl) (by first | kernel_rfl | simp [Value.oneCell']) ?_;have HBR:=aW (HY2.out.b1.set6C (Zi Zq 4) (Zi Zq 0) (Zt nb) (Zs none 0 0) (Zs none 0 0) (.bool true));have HPT:=aW (show IsP op F w (.returned (.agg #[Zi Zq 4,Zi Zq 0,Zt nb,Zs none 0 0,Zs none 0 0,.bool true])) (Y2.setCells (w.heap.size+1) 0 [Zi Zq 4,Zi Zq 0,Zt nb,Zs none 0 0,Zs none 0 0,.bool true]) by rw [← HNB.out];exact aM HX.out HGT.out (aw (by unfold iw;omega) (by unfold iw;omega) HNL.out) HFF.out HY2.out.1);refine hK.out _ _ (by exact Blk.farC hn1 _ 0 HY2.out.b0) (λ hHeld2=>?_);clear hK K hHeld;have hHeld:=hHeld2;clear hHeld2
 try simp only [pU]
 refine az (λ Y3 hY=>?_);rw [← hY] at HBR HPT;clear hY;refine aX ?_;obtain ⟨cR,fR,lR⟩:=HBR.out.rules;go_wp2_with ((with_reducible refine bodyPost_ret (v:=.agg #[Zi Zq 4,Zi Zq 0,Zt nb,Zs none 0 0,Zs none 0 0,.bool true]) ?_ rfl ?_);(simp only [results,Tryz.results17];go_simp);exact HPT.out)
end
section
open Go.RowKit
theorem tH {l:List EJ} (h:l.length=1):∃ a,l=[a]:=by
 match l,h with
 | [a],_=>exact ⟨a,rfl⟩
theorem yw {l:List EJ} (h:l.length=2):∃ a b,l=[a,b]:=by
 match l,h with
 | [a,b],_=>exact ⟨a,b,rfl⟩
theorem mS {k:Int} {v:JV} {s:List UInt8} {nk:Nat} (h:okX k v s nk=true) (hk:k=1∨k=2):nk=0:=by
 rcases hk with rfl | rfl
 ·unfold okX at h;rw [if_pos rfl,Bool.and_eq_true,decide_eq_true_eq] at h;exact h.2.2
 ·unfold okX at h;rw [if_neg (by decide)] at h;split at h
  ·cases h
  ·rw [if_pos rfl,Bool.and_eq_true,decide_eq_true_eq] at h;exact h.2
theorem t5:∀ (r:Nat) (x:EJ) (cs:List Value) (EA:Option Addr) (n ec:Nat) (ecs:List (List Value)) (F:Nat->Prop) (env:List (List UInt8 × JV)) (w:World),bx r x≠0->bh x->eq x->(∀ b,F b->b<w.heap.size)->ER w F cs x ->
  dL w F ecs env->RdF w F EA ecs.flatten->env.length=n->n<=4194304->(∀ b ∈ env,au b.2/\good b.2=true)->Calls Tryz.prog 17 #[.agg cs.toArray,Zs EA n ec] w (IsP (evE env x) F w):=by
 intro r
 induction r with
 | zero=>intro x cs EA n ec ecs F env w h;exact absurd (by cases x;rfl) h
 |succ r ih =>
  rintro ⟨k,v,s,kids⟩ cs EA n ec ecs F env w hd hcx hsx hF hx hE hR hn hl hce;obtain ⟨_,hok,hkd⟩:=eF hd;have hcx0:=hcx;unfold bh at hcx0;obtain ⟨_,_,_,_,hkc⟩:=hcx0;have hsx0:=hsx;unfold eq at hsx0;have KID:∀ y ∈ kids,dA EA n ec F env w y:=λ y hy W cs hb hc =>
   ih y cs EA n ec ecs F env W (hkd y hy) (cz.1 hkc y hy) (eL.1 hsx0.2 y hy) (λ b hb'=>Nat.lt_of_lt_of_le (hF b hb') hb.size) hc (RR.imp hE λ c z hz=>hz.keep (af.of_below hb)) (hR.keep (af.of_below hb)) hn hl hce
  have hev:evE env (.mk k v s kids)=bg env k v s (kids.map (evE env)):=by rw [evE,mI]
  rw [hev];obtain ⟨k1,k15,hlit,h1,h2⟩:=jI hok;have hk:k=1∨k=2∨k=3∨k=4∨k=5∨k=6∨k=7∨k=8∨k=9∨k=10∨k=11∨k=12∨k=13∨k=14∨k=15:=by omega
  have kz:dA EA n ec F env w ff->True:=λ _=>trivial
  rcases hk with rfl | rfl | rfl | rfl | rfl | rfl | rfl | rfl | rfl | rfl | rfl | rfl | rfl | rfl | rfl
  ·have h0:=mS hok (.inl rfl);obtain rfl:kids=[]:=List.length_eq_zero_iff.1 h0;have hg:good v=true:=by have:=hlit rfl;unfold ef at this;rw [Bool.and_eq_true] at this;exact this.1
   exact yd (ya:=ff) (yb:=ff) hF hx hcx hg _ rfl
  ·have h0:=mS hok (.inr rfl);obtain rfl:kids=[]:=List.length_eq_zero_iff.1 h0;exact xY (ya:=ff) (yb:=ff) hF hx hcx hE hR hn hl hce _ rfl
  ·obtain ⟨a,rfl⟩:=tH (h1 (by omega));exact yc (ya:=a) (yb:=a) hF hx hcx (KID a (by simp)) (KID a (by simp)) _ _ rfl rfl _ rfl
  ·exact yl hF hx KID hsx0.1 _ rfl
  ·obtain ⟨a,rfl⟩:=tH (h1 (by omega));exact yq (ya:=a) (yb:=a) hF hx hcx (KID a (by simp)) (KID a (by simp)) _ _ rfl rfl _ rfl
  ·obtain ⟨a,rfl⟩:=tH (h1 (by omega));exact xN (ya:=a) (yb:=a) hF hx hcx (KID a (by simp)) (KID a (by simp)) _ _ rfl rfl _ rfl
  ·obtain ⟨a,rfl⟩:=tH (h1 (by omega));exact yy (ya:=a) (yb:=a) hF hx hcx (KID a (by simp)) (KID a (by simp)) _ _ rfl rfl _ rfl
  all_goals
   obtain ⟨a,b,rfl⟩:=yw (h2 (by omega))
  ·exact yh hF hx hcx (KID a (by simp)) (KID b (by simp)) _ _ rfl rfl _ rfl
  ·exact yB hF hx hcx (KID a (by simp)) (KID b (by simp)) _ _ rfl rfl _ rfl
  ·exact wW hF hx hcx (KID a (by simp)) (KID b (by simp)) _ _ rfl rfl _ rfl
  ·exact wV hF hx hcx (KID a (by simp)) (KID b (by simp)) _ _ rfl rfl _ rfl
  ·exact wl hF hx hcx (KID a (by simp)) (KID b (by simp)) _ _ rfl rfl _ rfl
  ·exact xJ hF hx hcx (KID a (by simp)) (KID b (by simp)) _ _ rfl rfl _ rfl
  ·exact xK hF hx hcx (KID a (by simp)) (KID b (by simp)) _ _ rfl rfl _ rfl
  ·exact v8 hF hx hcx (KID a (by simp)) (KID b (by simp)) _ _ rfl rfl _ rfl
end
end Go.Proofs.YtgolomgmnanbpaaGreatDoor
