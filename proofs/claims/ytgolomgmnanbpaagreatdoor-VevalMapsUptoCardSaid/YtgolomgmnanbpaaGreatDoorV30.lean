import Derived.Test.YtgolomgmnanbpaaGreatDoorV27
open Go.Value renaming int → Zi, slice → Zs, string → Zt, pointer → Zp
open Go.IntKind renaming i64 → Zq
set_option maxRecDepth 100000
set_option maxHeartbeats 16000000
set_option linter.unusedVariables false
set_option linter.unusedSimpArgs false
namespace Go.Proofs.YtgolomgmnanbpaaGreatDoor
section
open Go.RowKit
attribute [local go_sem] aa ac ae ab
theorem wl {env:List (List UInt8 × JV)} {v:JV} {s:List UInt8} {ya yb:EJ} {cs:List Value} {EA:Option Addr} {n ec:Nat} {F:Nat->Prop} {w:World} (hF:∀ b,F b->b<w.heap.size) (hx:ER w F cs (.mk 12 v s [ya,yb])) (hcx:bh (.mk 12 v s [ya,yb]))
  (ka:dA EA n ec F env w ya) (kb:dA EA n ec F env w yb) (oa ob:Option JV) (hoa:evE env ya=oa) (hob:evE env yb=ob) (op:Option JV) (hop:bg env 12 v s [oa,ob]=op) :
  Calls Tryz.prog 17 #[.agg cs.toArray,Zs EA n ec] w (IsP op F w):=by
 obtain ⟨k1,n1,s1,A1,na1,ca1,B1,nb1,cb1,A,ca,css0,rfl,hv,h1,h2,h3,h4⟩:=hx.out;obtain ⟨b,o,kx,px,nx,sx,Ax,nax,cax,Bx,nbx,cbx,zx,Cx,ncx,ccx,rfl,hb,hER,hz⟩:=aq h1 h4 (i:=0) (x:=ya) rfl;have HKA:=aW (λ (W:World) (h:Below w.heap.size w W)=>ka W _ h (hER.bel h));obtain ⟨b',o',ky,py,ny,sy,Ay,nay,cay,By,nby,cby,zy,Cy,ncy,ccy,hbb,hb2,hER2,hz2⟩:=aq h1 h4 (i:=1) (x:=yb) rfl;injection hbb with hbb;injection hbb with hb1 hb3
 subst hb1 hb3;have HKB:=aW (λ (W:World) (h:Below w.heap.size w W)=>kb W _ h (hER2.bel h));have HZ2:=aW hz2;rw [hoa] at HKA;rw [hob] at HKB;obtain ⟨nr,hnr⟩:∃ q:Nat,2=q:=⟨_,rfl⟩
 have hnr1:0<nr:=by omega
 have hnr2:1<nr:=by omega
 have HFF:=aW hF;have HOP:=aW hop;have HVS:=aW hv;have HH0:=aW (((aj.nil w).push 28 #[Zi Zq 12,Zi Zq k1,Zi Zq n1,Zt s1,Zs A1 na1 ca1,Zs B1 nb1 cb1,Zt ⟨s.toArray⟩,Zs (some ⟨b,o,none⟩) nr ca] (g:=w.heap.size) rfl).push 40 #[Zi Zq 0,Zi Zq 0,Zt ⟨#[]⟩,Zs none 0 0,Zs none 0 0,.bool false] (g:=w.heap.size+1) (by simp));obtain ⟨z0,z1,z2,z3,z4,z5,z6,z7⟩:=hz _ HH0.out.1;rw [dP] at z0 z1 z2 z3 z4 z5 z6 z7;have hlb:b<w.heap.size:=hb;have hlb2:b≠w.heap.size+1:=by omega
 rw [show ([ya,yb]:List EJ).length=nr from hnr];obtain ⟨c0,f0,l0⟩:=HH0.out.b1.rules;clear hF hx hcx hv h1 h2 h3 h4 hER hz hb hoa hob hop hnr ka kb hER2 hz2 hb2;go_enter Tryz.func17,Tryz.ntmps17;go_wp2_with fail;refine (HKA.out _ HH0.out.1).mono ?_;rintro e w1 ⟨k5,n5,s5,A5,na5,ca5,B5,nb5,cb5,va,ba,rfl,hva,hca,hoa,hga,hza,hb1⟩;obtain ⟨WA,hWA⟩:∃ W,w1.alloc (.cells #[Zi Zq k5,Zi Zq n5,Zt s5,Zs A5 na5 ca5,Zs B5 nb5 cb5,.bool ba] 40)=W:=⟨_,rfl⟩
 have HWA:=aW hWA;have HH1:=aW (show aj [(w1.heap.size,40,#[Zi Zq k5,Zi Zq n5,Zt s5,Zs A5 na5 ca5,Zs B5 nb5 cb5,.bool ba]),(w.heap.size+1,40,#[Zi Zq 0,Zi Zq 0,Zt ⟨#[]⟩,Zs none 0 0,Zs none 0 0,.bool false]),(w.heap.size,28,#[Zi Zq 12,Zi Zq k1,Zi Zq n1,Zt s1,Zs A1 na1 ca1,Zs B1 nb1 cb1,Zt ⟨s.toArray⟩,Zs (some ⟨b,o,none⟩) nr ca])] w WA by rw [← hWA];exact (HH0.out.keep hb1).push 40 #[Zi Zq k5,Zi Zq n5,Zt s5,Zs A5 na5 ca5,Zs B5 nb5 cb5,.bool ba] (g:=w1.heap.size) rfl);have HW1:=aW (show Below w1.heap.size w1 WA by rw [← hWA];exact (Below.refl _ w1).alloc (Nat.le_refl _) _);have HVA:=aW (λ (W:World) (h:Below w1.heap.size w1 W)=>IsP.val (w:=w) (by simp) hva h);have HQA:=aW (And.intro hca (And.intro hoa (And.intro hga hza)));have hs1:w.heap.size+2<=w1.heap.size:=by have:=hb1.size;simpa using this
 have hn1:w1.heap.size≠w.heap.size+1:=by omega
 have hn2:w1.heap.size≠w.heap.size:=by omega
 clear hWA hva hca hoa hga hza hb1 c0 f0 l0 z0 z1 z2 z3 z4 z5 z6 z7 HKA;go_upto_region 24 with fail;rw [HWA.out];clear HWA;obtain ⟨c0,f0,l0⟩:=HH1.out.b2.rules;obtain ⟨c1,f1,l1⟩:=HH1.out.b1.rules;obtain ⟨c2,f2,l2⟩:=HH1.out.b0.rules;cases ba with
 |false =>
  have HX:=aW (show op=none by rw [← HOP.out,HQA.out.2.1];rfl);go_upto_region 25 with fail
  try simp only []
  go_step;go_step;go_step;go_step;refine bS rfl 40 4 98 rfl (w.heap.size+1) 0 #[Zi Zq 0,Zi Zq 0,Zt ⟨#[]⟩,Zs none 0 0,Zs none 0 0,.bool false] rfl rfl HH1.out.b1.there ?_;have HBR:=aW (HH1.out.b1.set6C (Zi Zq 0) (Zi Zq 0) (Zt ⟨#[]⟩) (Zs none 0 0) (Zs none 0 0) (.bool false));have HPT:=aW (show IsP op F w (.returned (.agg #[Zi Zq 0,Zi Zq 0,Zt ⟨#[]⟩,Zs none 0 0,Zs none 0 0,.bool false])) (WA.setCells (w.heap.size+1) 0 [Zi Zq 0,Zi Zq 0,Zt ⟨#[]⟩,Zs none 0 0,Zs none 0 0,.bool false]) from IsP.nilC HX.out HH1.out.1);obtain ⟨WG,hWG⟩:∃ W',WA.setCells (w.heap.size+1) 0 [Zi Zq 0,Zi Zq 0,Zt ⟨#[]⟩,Zs none 0 0,Zs none 0 0,.bool false]=W':=⟨_,rfl⟩
  rw [hWG] at HBR HPT
  try simp only []
  rw [hWG];clear hWG;obtain ⟨cR,fR,lR⟩:=HBR.out.rules;go_wp2_with ((with_reducible refine bodyPost_ret (v:=.agg #[Zi Zq 0,Zi Zq 0,Zt ⟨#[]⟩,Zs none 0 0,Zs none 0 0,.bool false]) ?_ rfl ?_);(simp only [results,Tryz.results17];go_simp);exact HPT.out)
 | true =>
 have HOA:=aW (show oa=some va from HQA.out.2.1);have HGA:=aW (HQA.out.2.2.1 rfl);have HCA:=aW HQA.out.1;clear HQA;go_wp2_with fail;refine (cU _ _ _ _ _ _ _ _ _ _ _).mono ?_;rintro e w2 ⟨rfl,hb2⟩;have HH2:=aW (HH1.out.keep hb2);have HW2:=aW (HW1.out.trans (hb2.mono HW1.out.size));clear hb2 c0 f0 l0 c1 f1 l1 c2 f2 l2;obtain ⟨c0,f0,l0⟩:=HH2.out.b2.rules;obtain ⟨c1,f1,l1⟩:=HH2.out.b1.rules;obtain ⟨c2,f2,l2⟩:=HH2.out.b0.rules;obtain ⟨y0,y1,y2,y3,y4,y5,y6,y7⟩:=HZ2.out _ HH2.out.1;rw [Nat.one_mul] at y0 y1 y2 y3 y4 y5 y6 y7;have hlb9:b<w2.heap.size:=Nat.lt_of_lt_of_le hlb HH2.out.1.size;have hs2:w.heap.size+2<=w2.heap.size:=Nat.le_trans hs1 HW2.out.size;go_upto_region 56 with fail;go_wp2_with fail;refine (HKB.out _ HH2.out.1).mono ?_;rintro e w3 ⟨k6,n6,s6,A6,na6,ca6,B6,nb6,cb6,vb,bb,rfl,hvb,hcb,hob,hgb,hzb,hb3⟩;obtain ⟨WB,hWB⟩:∃ W,w3.alloc (.cells #[Zi Zq k6,Zi Zq n6,Zt s6,Zs A6 na6 ca6,Zs B6 nb6 cb6,.bool bb] 40)=W:=⟨_,rfl⟩
 have HWB:=aW hWB;have HH3:=aW (show aj [(w3.heap.size,40,#[Zi Zq k6,Zi Zq n6,Zt s6,Zs A6 na6 ca6,Zs B6 nb6 cb6,.bool bb]),(w1.heap.size,40,#[Zi Zq k5,Zi Zq n5,Zt s5,Zs A5 na5 ca5,Zs B5 nb5 cb5,.bool true]),(w.heap.size+1,40,#[Zi Zq 0,Zi Zq 0,Zt ⟨#[]⟩,Zs none 0 0,Zs none 0 0,.bool false]),(w.heap.size,28,#[Zi Zq 12,Zi Zq k1,Zi Zq n1,Zt s1,Zs A1 na1 ca1,Zs B1 nb1 cb1,Zt ⟨s.toArray⟩,Zs (some ⟨b,o,none⟩) nr ca])] w WB by rw [← hWB];exact (HH2.out.keep hb3).push 40 #[Zi Zq k6,Zi Zq n6,Zt s6,Zs A6 na6 ca6,Zs B6 nb6 cb6,.bool bb] (g:=w3.heap.size) rfl);have HW3:=aW (show Below w3.heap.size w3 WB by rw [← hWB];exact (Below.refl _ w3).alloc (Nat.le_refl _) _);have HW13:=aW (HW2.out.trans (hb3.mono HW2.out.size));have HW14:=aW (HW13.out.trans (HW3.out.mono HW13.out.size));have HVB:=aW (λ (W:World) (h:Below w3.heap.size w3 W)=>IsP.val (w:=w) hs2 hvb h);have HQB:=aW (And.intro hcb (And.intro hob (And.intro hgb hzb)));have hn3:w3.heap.size≠w.heap.size+1:=by have:=hb3.size;omega
 have hn4:w3.heap.size≠w.heap.size:=by have:=hb3.size;omega
 have hn5:w3.heap.size≠w1.heap.size:=by have:=hb3.size;have:=HH2.out.b0.lt;omega
 clear hWB hvb hcb hob hgb hzb hb3 c0 f0 l0 c1 f1 l1 c2 f2 l2 y0 y1 y2 y3 y4 y5 y6 y7 HKB HZ2;go_upto_region 57 with fail;rw [HWB.out];clear HWB;obtain ⟨c0,f0,l0⟩:=HH3.out.b3.rules;obtain ⟨c1,f1,l1⟩:=HH3.out.b2.rules;obtain ⟨c2,f2,l2⟩:=HH3.out.b1.rules;obtain ⟨c3,f3,l3⟩:=HH3.out.b0.rules;cases bb with
 |false =>
  have HX:=aW (show op=none by rw [← HOP.out,HOA.out,HQB.out.2.1];exact fP (by omega));go_upto_region 58 with fail
  try simp only []
  go_step;go_step;go_step;go_step;refine bS rfl 40 4 206 rfl (w.heap.size+1) 0 #[Zi Zq 0,Zi Zq 0,Zt ⟨#[]⟩,Zs none 0 0,Zs none 0 0,.bool false] rfl rfl HH3.out.b2.there ?_;have HBR:=aW (HH3.out.b2.set6C (Zi Zq 0) (Zi Zq 0) (Zt ⟨#[]⟩) (Zs none 0 0) (Zs none 0 0) (.bool false));have HPT:=aW (show IsP op F w (.returned (.agg #[Zi Zq 0,Zi Zq 0,Zt ⟨#[]⟩,Zs none 0 0,Zs none 0 0,.bool false])) (WB.setCells (w.heap.size+1) 0 [Zi Zq 0,Zi Zq 0,Zt ⟨#[]⟩,Zs none 0 0,Zs none 0 0,.bool false]) from IsP.nilC HX.out HH3.out.1);obtain ⟨WG,hWG⟩:∃ W',WB.setCells (w.heap.size+1) 0 [Zi Zq 0,Zi Zq 0,Zt ⟨#[]⟩,Zs none 0 0,Zs none 0 0,.bool false]=W':=⟨_,rfl⟩
  rw [hWG] at HBR HPT
  try simp only []
  rw [hWG];clear hWG;obtain ⟨cR,fR,lR⟩:=HBR.out.rules;go_wp2_with ((with_reducible refine bodyPost_ret (v:=.agg #[Zi Zq 0,Zi Zq 0,Zt ⟨#[]⟩,Zs none 0 0,Zs none 0 0,.bool false]) ?_ rfl ?_);(simp only [results,Tryz.results17];go_simp);exact HPT.out)
 | true =>
 have HOB:=aW (show ob=some vb from HQB.out.2.1);have HGB:=aW (HQB.out.2.2.1 rfl);have HCB:=aW HQB.out.1;clear HQB;have HKN:=aW (And.intro (br (HVA.out _ (Below.refl _ _))) (br (HVB.out _ (Below.refl _ _))));have HCP:=aW (λ (W:World) (h1:Below w1.heap.size w1 W) (h2:Below w3.heap.size w3 W)=>js va vb [Zi Zq k5,Zi Zq n5,Zt s5,Zs A5 na5 ca5,Zs B5 nb5 cb5] [Zi Zq k6,Zi Zq n6,Zt s6,Zs A6 na6 ca6,Zs B6 nb6 cb6] _ _ W (HVA.out W h1) (HVB.out W h2) HGA.out HGB.out HCA.out HCB.out);have HO:=aW (show op=some (qZ 12 (bp va vb)) by rw [← HOP.out,HOA.out,HOB.out];exact lW (by omega));obtain ⟨r,hr⟩:∃ r,bp va vb=r:=⟨_,rfl⟩
 have hr3:=iu va vb;rw [hr] at HCP HO hr3;clear hr;go_upto_region 60 with fail;go_wp2_with fail;refine (HCP.out _ HW14.out HW3.out).mono ?_;rintro e w4 ⟨rfl,hb4⟩;have HH4:=aW (HH3.out.keep hb4);clear hb4 c0 f0 l0 c1 f1 l1 c2 f2 l2 c3 f3 l3 HCP;obtain ⟨c0,f0,l0⟩:=HH4.out.b3.rules;go_upto_region 61 with fail;rcases hr3 with rfl | rfl | rfl
 ·obtain ⟨t,ht⟩:∃ t:Bool,t=true:=⟨_,rfl⟩
  have HX:=aW (show op=some (aG t) by rw [HO.out,ht];rfl);have HTR:=aW (λ W=>bZ true W);go_wp2_with fail;refine (HTR.out _).mono ?_;rintro e w5 ⟨rfl,hb5⟩;have HH5:=aW (HH4.out.keep hb5);clear hb5 c0 f0 l0
  try simp only []
  go_step;refine bS rfl 40 4 231 rfl (w.heap.size+1) 0 #[Zi Zq 2,Zi Zq 1,Zt ⟨#[]⟩,Zs none 0 0,Zs none 0 0,.bool true] rfl rfl HH5.out.b2.there ?_;have HBR:=aW (HH5.out.b2.set6C (Zi Zq 2) (Zi Zq 1) (Zt ⟨#[]⟩) (Zs none 0 0) (Zs none 0 0) (.bool true));have HPT:=aW (show IsP op F w (.returned (.agg #[Zi Zq 2,Zi Zq 1,Zt ⟨#[]⟩,Zs none 0 0,Zs none 0 0,.bool true])) (w5.setCells (w.heap.size+1) 0 [Zi Zq 2,Zi Zq 1,Zt ⟨#[]⟩,Zs none 0 0,Zs none 0 0,.bool true]) from aM (s:=[]) (by rw [HX.out,ht];rfl) (by rfl) (aw (by unfold iw;omega) (by unfold iw;omega) (by simp)) HFF.out HH5.out.1);obtain ⟨WG,hWG⟩:∃ W',w5.setCells (w.heap.size+1) 0 [Zi Zq 2,Zi Zq 1,Zt ⟨#[]⟩,Zs none 0 0,Zs none 0 0,.bool true]=W':=⟨_,rfl⟩
  rw [hWG] at HBR HPT
  try simp only []
  rw [hWG];clear hWG;obtain ⟨cR,fR,lR⟩:=HBR.out.rules;go_wp2_with ((with_reducible refine bodyPost_ret (v:=.agg #[Zi Zq 2,Zi Zq 1,Zt ⟨#[]⟩,Zs none 0 0,Zs none 0 0,.bool true]) ?_ rfl ?_);(simp only [results,Tryz.results17];go_simp);exact HPT.out)
 ·obtain ⟨t,ht⟩:∃ t:Bool,t=false:=⟨_,rfl⟩
  have HX:=aW (show op=some (aG t) by rw [HO.out,ht];rfl);have HTR:=aW (λ W=>bZ false W);go_wp2_with fail;refine (HTR.out _).mono ?_;rintro e w5 ⟨rfl,hb5⟩;have HH5:=aW (HH4.out.keep hb5);clear hb5 c0 f0 l0
  try simp only []
  go_step;refine bS rfl 40 4 231 rfl (w.heap.size+1) 0 #[Zi Zq 2,Zi Zq 0,Zt ⟨#[]⟩,Zs none 0 0,Zs none 0 0,.bool true] rfl rfl HH5.out.b2.there ?_;have HBR:=aW (HH5.out.b2.set6C (Zi Zq 2) (Zi Zq 0) (Zt ⟨#[]⟩) (Zs none 0 0) (Zs none 0 0) (.bool true));have HPT:=aW (show IsP op F w (.returned (.agg #[Zi Zq 2,Zi Zq 0,Zt ⟨#[]⟩,Zs none 0 0,Zs none 0 0,.bool true])) (w5.setCells (w.heap.size+1) 0 [Zi Zq 2,Zi Zq 0,Zt ⟨#[]⟩,Zs none 0 0,Zs none 0 0,.bool true]) from aM (s:=[]) (by rw [HX.out,ht];rfl) (by rfl) (aw (by unfold iw;omega) (by unfold iw;omega) (by simp)) HFF.out HH5.out.1);obtain ⟨WG,hWG⟩:∃ W',w5.setCells (w.heap.size+1) 0 [Zi Zq 2,Zi Zq 0,Zt ⟨#[]⟩,Zs none 0 0,Zs none 0 0,.bool true]=W':=⟨_,rfl⟩
  rw [hWG] at HBR HPT
  try simp only []
  rw [hWG];clear hWG;obtain ⟨cR,fR,lR⟩:=HBR.out.rules;go_wp2_with ((with_reducible refine bodyPost_ret (v:=.agg #[Zi Zq 2,Zi Zq 0,Zt ⟨#[]⟩,Zs none 0 0,Zs none 0 0,.bool true]) ?_ rfl ?_);(simp only [results,Tryz.results17];go_simp);exact HPT.out)
 ·obtain ⟨t,ht⟩:∃ t:Bool,t=false:=⟨_,rfl⟩
  have HX:=aW (show op=some (aG t) by rw [HO.out,ht];rfl);have HTR:=aW (λ W=>bZ false W);go_wp2_with fail;refine (HTR.out _).mono ?_;rintro e w5 ⟨rfl,hb5⟩;have HH5:=aW (HH4.out.keep hb5);clear hb5 c0 f0 l0
  try simp only []
  go_step;refine bS rfl 40 4 231 rfl (w.heap.size+1) 0 #[Zi Zq 2,Zi Zq 0,Zt ⟨#[]⟩,Zs none 0 0,Zs none 0 0,.bool true] rfl rfl HH5.out.b2.there ?_;have HBR:=aW (HH5.out.b2.set6C (Zi Zq 2) (Zi Zq 0) (Zt ⟨#[]⟩) (Zs none 0 0) (Zs none 0 0) (.bool true));have HPT:=aW (show IsP op F w (.returned (.agg #[Zi Zq 2,Zi Zq 0,Zt ⟨#[]⟩,Zs none 0 0,Zs none 0 0,.bool true])) (w5.setCells (w.heap.size+1) 0 [Zi Zq 2,Zi Zq 0,Zt ⟨#[]⟩,Zs none 0 0,Zs none 0 0,.bool true]) from aM (s:=[]) (by rw [HX.out,ht];rfl) (by rfl) (aw (by unfold iw;omega) (by unfold iw;omega) (by simp)) HFF.out HH5.out.1);obtain ⟨WG,hWG⟩:∃ W',w5.setCells (w.heap.size+1) 0 [Zi Zq 2,Zi Zq 0,Zt ⟨#[]⟩,Zs none 0 0,Zs none 0 0,.bool true]=W':=⟨_,rfl⟩
  rw [hWG] at HBR HPT
  try simp only []
  rw [hWG];clear hWG;obtain ⟨cR,fR,lR⟩:=HBR.out.rules;go_wp2_with ((with_reducible refine bodyPost_ret (v:=.agg #[Zi Zq 2,Zi Zq 0,Zt ⟨#[]⟩,Zs none 0 0,Zs none 0 0,.bool true]) ?_ rfl ?_);(simp only [results,Tryz.results17];go_simp);exact HPT.out)
theorem xJ {env:List (List UInt8 × JV)} {v:JV} {s:List UInt8} {ya yb:EJ} {cs:List Value} {EA:Option Addr} {n ec:Nat} {F:Nat->Prop} {w:World} (hF:∀ b,F b->b<w.heap.size) (hx:ER w F cs (.mk 13 v s [ya,yb])) (hcx:bh (.mk 13 v s [ya,yb]))
  (ka:dA EA n ec F env w ya) (kb:dA EA n ec F env w yb) (oa ob:Option JV) (hoa:evE env ya=oa) (hob:evE env yb=ob) (op:Option JV) (hop:bg env 13 v s [oa,ob]=op) :
  Calls Tryz.prog 17 #[.agg cs.toArray,Zs EA n ec] w (IsP op F w):=by
 obtain ⟨k1,n1,s1,A1,na1,ca1,B1,nb1,cb1,A,ca,css0,rfl,hv,h1,h2,h3,h4⟩:=hx.out;obtain ⟨b,o,kx,px,nx,sx,Ax,nax,cax,Bx,nbx,cbx,zx,Cx,ncx,ccx,rfl,hb,hER,hz⟩:=aq h1 h4 (i:=0) (x:=ya) rfl;have HKA:=aW (λ (W:World) (h:Below w.heap.size w W)=>ka W _ h (hER.bel h));obtain ⟨b',o',ky,py,ny,sy,Ay,nay,cay,By,nby,cby,zy,Cy,ncy,ccy,hbb,hb2,hER2,hz2⟩:=aq h1 h4 (i:=1) (x:=yb) rfl;injection hbb with hbb;injection hbb with hb1 hb3
 subst hb1 hb3;have HKB:=aW (λ (W:World) (h:Below w.heap.size w W)=>kb W _ h (hER2.bel h));have HZ2:=aW hz2;rw [hoa] at HKA;rw [hob] at HKB;obtain ⟨nr,hnr⟩:∃ q:Nat,2=q:=⟨_,rfl⟩
 have hnr1:0<nr:=by omega
 have hnr2:1<nr:=by omega
 have HFF:=aW hF;have HOP:=aW hop;have HVS:=aW hv;have HH0:=aW (((aj.nil w).push 28 #[Zi Zq 13,Zi Zq k1,Zi Zq n1,Zt s1,Zs A1 na1 ca1,Zs B1 nb1 cb1,Zt ⟨s.toArray⟩,Zs (some ⟨b,o,none⟩) nr ca] (g:=w.heap.size) rfl).push 40 #[Zi Zq 0,Zi Zq 0,Zt ⟨#[]⟩,Zs none 0 0,Zs none 0 0,.bool false] (g:=w.heap.size+1) (by simp));obtain ⟨z0,z1,z2,z3,z4,z5,z6,z7⟩:=hz _ HH0.out.1;rw [dP] at z0 z1 z2 z3 z4 z5 z6 z7;have hlb:b<w.heap.size:=hb;have hlb2:b≠w.heap.size+1:=by omega
 rw [show ([ya,yb]:List EJ).length=nr from hnr];obtain ⟨c0,f0,l0⟩:=HH0.out.b1.rules;clear hF hx hcx hv h1 h2 h3 h4 hER hz hb hoa hob hop hnr ka kb hER2 hz2 hb2;go_enter Tryz.func17,Tryz.ntmps17;go_wp2_with fail;refine (HKA.out _ HH0.out.1).mono ?_;rintro e w1 ⟨k5,n5,s5,A5,na5,ca5,B5,nb5,cb5,va,ba,rfl,hva,hca,hoa,hga,hza,hb1⟩;obtain ⟨WA,hWA⟩:∃ W,w1.alloc (.cells #[Zi Zq k5,Zi Zq n5,Zt s5,Zs A5 na5 ca5,Zs B5 nb5 cb5,.bool ba] 40)=W:=⟨_,rfl⟩
 have HWA:=aW hWA;have HH1:=aW (show aj [(w1.heap.size,40,#[Zi Zq k5,Zi Zq n5,Zt s5,Zs A5 na5 ca5,Zs B5 nb5 cb5,.bool ba]),(w.heap.size+1,40,#[Zi Zq 0,Zi Zq 0,Zt ⟨#[]⟩,Zs none 0 0,Zs none 0 0,.bool false]),(w.heap.size,28,#[Zi Zq 13,Zi Zq k1,Zi Zq n1,Zt s1,Zs A1 na1 ca1,Zs B1 nb1 cb1,Zt ⟨s.toArray⟩,Zs (some ⟨b,o,none⟩) nr ca])] w WA by rw [← hWA];exact (HH0.out.keep hb1).push 40 #[Zi Zq k5,Zi Zq n5,Zt s5,Zs A5 na5 ca5,Zs B5 nb5 cb5,.bool ba] (g:=w1.heap.size) rfl);have HW1:=aW (show Below w1.heap.size w1 WA by rw [← hWA];exact (Below.refl _ w1).alloc (Nat.le_refl _) _);have HVA:=aW (λ (W:World) (h:Below w1.heap.size w1 W)=>IsP.val (w:=w) (by simp) hva h);have HQA:=aW (And.intro hca (And.intro hoa (And.intro hga hza)));have hs1:w.heap.size+2<=w1.heap.size:=by have:=hb1.size;simpa using this
 have hn1:w1.heap.size≠w.heap.size+1:=by omega
 have hn2:w1.heap.size≠w.heap.size:=by omega
 clear hWA hva hca hoa hga hza hb1 c0 f0 l0 z0 z1 z2 z3 z4 z5 z6 z7 HKA;go_upto_region 24 with fail;rw [HWA.out];clear HWA;obtain ⟨c0,f0,l0⟩:=HH1.out.b2.rules;obtain ⟨c1,f1,l1⟩:=HH1.out.b1.rules;obtain ⟨c2,f2,l2⟩:=HH1.out.b0.rules;cases ba with
 |false =>
  have HX:=aW (show op=none by rw [← HOP.out,HQA.out.2.1];rfl);go_upto_region 25 with fail
  try simp only []
  go_step;go_step;go_step;go_step;refine bS rfl 40 4 98 rfl (w.heap.size+1) 0 #[Zi Zq 0,Zi Zq 0,Zt ⟨#[]⟩,Zs none 0 0,Zs none 0 0,.bool false] rfl rfl HH1.out.b1.there ?_;have HBR:=aW (HH1.out.b1.set6C (Zi Zq 0) (Zi Zq 0) (Zt ⟨#[]⟩) (Zs none 0 0) (Zs none 0 0) (.bool false));have HPT:=aW (show IsP op F w (.returned (.agg #[Zi Zq 0,Zi Zq 0,Zt ⟨#[]⟩,Zs none 0 0,Zs none 0 0,.bool false])) (WA.setCells (w.heap.size+1) 0 [Zi Zq 0,Zi Zq 0,Zt ⟨#[]⟩,Zs none 0 0,Zs none 0 0,.bool false]) from IsP.nilC HX.out HH1.out.1);obtain ⟨WG,hWG⟩:∃ W',WA.setCells (w.heap.size+1) 0 [Zi Zq 0,Zi Zq 0,Zt ⟨#[]⟩,Zs none 0 0,Zs none 0 0,.bool false]=W':=⟨_,rfl⟩
  rw [hWG] at HBR HPT
  try simp only []
  rw [hWG];clear hWG;obtain ⟨cR,fR,lR⟩:=HBR.out.rules;go_wp2_with ((with_reducible refine bodyPost_ret (v:=.agg #[Zi Zq 0,Zi Zq 0,Zt ⟨#[]⟩,Zs none 0 0,Zs none 0 0,.bool false]) ?_ rfl ?_);(simp only [results,Tryz.results17];go_simp);exact HPT.out)
 | true =>
 have HOA:=aW (show oa=some va from HQA.out.2.1);have HGA:=aW (HQA.out.2.2.1 rfl);have HCA:=aW HQA.out.1;clear HQA;go_wp2_with fail;refine (cU _ _ _ _ _ _ _ _ _ _ _).mono ?_;rintro e w2 ⟨rfl,hb2⟩;have HH2:=aW (HH1.out.keep hb2);have HW2:=aW (HW1.out.trans (hb2.mono HW1.out.size));clear hb2 c0 f0 l0 c1 f1 l1 c2 f2 l2;obtain ⟨c0,f0,l0⟩:=HH2.out.b2.rules;obtain ⟨c1,f1,l1⟩:=HH2.out.b1.rules;obtain ⟨c2,f2,l2⟩:=HH2.out.b0.rules;obtain ⟨y0,y1,y2,y3,y4,y5,y6,y7⟩:=HZ2.out _ HH2.out.1;rw [Nat.one_mul] at y0 y1 y2 y3 y4 y5 y6 y7;have hlb9:b<w2.heap.size:=Nat.lt_of_lt_of_le hlb HH2.out.1.size;have hs2:w.heap.size+2<=w2.heap.size:=Nat.le_trans hs1 HW2.out.size;go_upto_region 56 with fail;go_wp2_with fail;refine (HKB.out _ HH2.out.1).mono ?_;rintro e w3 ⟨k6,n6,s6,A6,na6,ca6,B6,nb6,cb6,vb,bb,rfl,hvb,hcb,hob,hgb,hzb,hb3⟩;obtain ⟨WB,hWB⟩:∃ W,w3.alloc (.cells #[Zi Zq k6,Zi Zq n6,Zt s6,Zs A6 na6 ca6,Zs B6 nb6 cb6,.bool bb] 40)=W:=⟨_,rfl⟩
 have HWB:=aW hWB;have HH3:=aW (show aj [(w3.heap.size,40,#[Zi Zq k6,Zi Zq n6,Zt s6,Zs A6 na6 ca6,Zs B6 nb6 cb6,.bool bb]),(w1.heap.size,40,#[Zi Zq k5,Zi Zq n5,Zt s5,Zs A5 na5 ca5,Zs B5 nb5 cb5,.bool true]),(w.heap.size+1,40,#[Zi Zq 0,Zi Zq 0,Zt ⟨#[]⟩,Zs none 0 0,Zs none 0 0,.bool false]),(w.heap.size,28,#[Zi Zq 13,Zi Zq k1,Zi Zq n1,Zt s1,Zs A1 na1 ca1,Zs B1 nb1 cb1,Zt ⟨s.toArray⟩,Zs (some ⟨b,o,none⟩) nr ca])] w WB by rw [← hWB];exact (HH2.out.keep hb3).push 40 #[Zi Zq k6,Zi Zq n6,Zt s6,Zs A6 na6 ca6,Zs B6 nb6 cb6,.bool bb] (g:=w3.heap.size) rfl);have HW3:=aW (show Below w3.heap.size w3 WB by rw [← hWB];exact (Below.refl _ w3).alloc (Nat.le_refl _) _);have HW13:=aW (HW2.out.trans (hb3.mono HW2.out.size));have HW14:=aW (HW13.out.trans (HW3.out.mono HW13.out.size));have HVB:=aW (λ (W:World) (h:Below w3.heap.size w3 W)=>IsP.val (w:=w) hs2 hvb h);have HQB:=aW (And.intro hcb (And.intro hob (And.intro hgb hzb)));have hn3:w3.heap.size≠w.heap.size+1:=by have:=hb3.size;omega
 have hn4:w3.heap.size≠w.heap.size:=by have:=hb3.size;omega
 have hn5:w3.heap.size≠w1.heap.size:=by have:=hb3.size;have:=HH2.out.b0.lt;omega
 clear hWB hvb hcb hob hgb hzb hb3 c0 f0 l0 c1 f1 l1 c2 f2 l2 y0 y1 y2 y3 y4 y5 y6 y7 HKB HZ2;go_upto_region 57 with fail;rw [HWB.out];clear HWB;obtain ⟨c0,f0,l0⟩:=HH3.out.b3.rules;obtain ⟨c1,f1,l1⟩:=HH3.out.b2.rules;obtain ⟨c2,f2,l2⟩:=HH3.out.b1.rules;obtain ⟨c3,f3,l3⟩:=HH3.out.b0.rules;cases bb with
 |false =>
  have HX:=aW (show op=none by rw [← HOP.out,HOA.out,HQB.out.2.1];exact fP (by omega));go_upto_region 58 with fail
  try simp only []
  go_step;go_step;go_step;go_step;refine bS rfl 40 4 206 rfl (w.heap.size+1) 0 #[Zi Zq 0,Zi Zq 0,Zt ⟨#[]⟩,Zs none 0 0,Zs none 0 0,.bool false] rfl rfl HH3.out.b2.there ?_;have HBR:=aW (HH3.out.b2.set6C (Zi Zq 0) (Zi Zq 0) (Zt ⟨#[]⟩) (Zs none 0 0) (Zs none 0 0) (.bool false));have HPT:=aW (show IsP op F w (.returned (.agg #[Zi Zq 0,Zi Zq 0,Zt ⟨#[]⟩,Zs none 0 0,Zs none 0 0,.bool false])) (WB.setCells (w.heap.size+1) 0 [Zi Zq 0,Zi Zq 0,Zt ⟨#[]⟩,Zs none 0 0,Zs none 0 0,.bool false]) from IsP.nilC HX.out HH3.out.1);obtain ⟨WG,hWG⟩:∃ W',WB.setCells (w.heap.size+1) 0 [Zi Zq 0,Zi Zq 0,Zt ⟨#[]⟩,Zs none 0 0,Zs none 0 0,.bool false]=W':=⟨_,rfl⟩
  rw [hWG] at HBR HPT
  try simp only []
  rw [hWG];clear hWG;obtain ⟨cR,fR,lR⟩:=HBR.out.rules;go_wp2_with ((with_reducible refine bodyPost_ret (v:=.agg #[Zi Zq 0,Zi Zq 0,Zt ⟨#[]⟩,Zs none 0 0,Zs none 0 0,.bool false]) ?_ rfl ?_);(simp only [results,Tryz.results17];go_simp);exact HPT.out)
 | true =>
 have HOB:=aW (show ob=some vb from HQB.out.2.1);have HGB:=aW (HQB.out.2.2.1 rfl);have HCB:=aW HQB.out.1;clear HQB;have HKN:=aW (And.intro (br (HVA.out _ (Below.refl _ _))) (br (HVB.out _ (Below.refl _ _))));have HCP:=aW (λ (W:World) (h1:Below w1.heap.size w1 W) (h2:Below w3.heap.size w3 W)=>js va vb [Zi Zq k5,Zi Zq n5,Zt s5,Zs A5 na5 ca5,Zs B5 nb5 cb5] [Zi Zq k6,Zi Zq n6,Zt s6,Zs A6 na6 ca6,Zs B6 nb6 cb6] _ _ W (HVA.out W h1) (HVB.out W h2) HGA.out HGB.out HCA.out HCB.out);have HO:=aW (show op=some (qZ 13 (bp va vb)) by rw [← HOP.out,HOA.out,HOB.out];exact lW (by omega));obtain ⟨r,hr⟩:∃ r,bp va vb=r:=⟨_,rfl⟩
 have hr3:=iu va vb;rw [hr] at HCP HO hr3;clear hr;go_upto_region 60 with fail;go_wp2_with fail;refine (HCP.out _ HW14.out HW3.out).mono ?_;rintro e w4 ⟨rfl,hb4⟩;have HH4:=aW (HH3.out.keep hb4);clear hb4 c0 f0 l0 c1 f1 l1 c2 f2 l2 c3 f3 l3 HCP;obtain ⟨c0,f0,l0⟩:=HH4.out.b3.rules;go_upto_region 61 with fail;rcases hr3 with rfl | rfl | rfl
 ·obtain ⟨t,ht⟩:∃ t:Bool,t=true:=⟨_,rfl⟩
  have HX:=aW (show op=some (aG t) by rw [HO.out,ht];rfl);have HTR:=aW (λ W=>bZ true W);go_wp2_with fail;refine (HTR.out _).mono ?_;rintro e w5 ⟨rfl,hb5⟩;have HH5:=aW (HH4.out.keep hb5);clear hb5 c0 f0 l0
  try simp only []
  go_step;refine bS rfl 40 4 231 rfl (w.heap.size+1) 0 #[Zi Zq 2,Zi Zq 1,Zt ⟨#[]⟩,Zs none 0 0,Zs none 0 0,.bool true] rfl rfl HH5.out.b2.there ?_;have HBR:=aW (HH5.out.b2.set6C (Zi Zq 2) (Zi Zq 1) (Zt ⟨#[]⟩) (Zs none 0 0) (Zs none 0 0) (.bool true));have HPT:=aW (show IsP op F w (.returned (.agg #[Zi Zq 2,Zi Zq 1,Zt ⟨#[]⟩,Zs none 0 0,Zs none 0 0,.bool true])) (w5.setCells (w.heap.size+1) 0 [Zi Zq 2,Zi Zq 1,Zt ⟨#[]⟩,Zs none 0 0,Zs none 0 0,.bool true]) from aM (s:=[]) (by rw [HX.out,ht];rfl) (by rfl) (aw (by unfold iw;omega) (by unfold iw;omega) (by simp)) HFF.out HH5.out.1);obtain ⟨WG,hWG⟩:∃ W',w5.setCells (w.heap.size+1) 0 [Zi Zq 2,Zi Zq 1,Zt ⟨#[]⟩,Zs none 0 0,Zs none 0 0,.bool true]=W':=⟨_,rfl⟩
  rw [hWG] at HBR HPT
  try simp only []
  rw [hWG];clear hWG;obtain ⟨cR,fR,lR⟩:=HBR.out.rules;go_wp2_with ((with_reducible refine bodyPost_ret (v:=.agg #[Zi Zq 2,Zi Zq 1,Zt ⟨#[]⟩,Zs none 0 0,Zs none 0 0,.bool true]) ?_ rfl ?_);(simp only [results,Tryz.results17];go_simp);exact HPT.out)
 ·obtain ⟨t,ht⟩:∃ t:Bool,t=true:=⟨_,rfl⟩
  have HX:=aW (show op=some (aG t) by rw [HO.out,ht];rfl);have HTR:=aW (λ W=>bZ true W);go_wp2_with fail;refine (HTR.out _).mono ?_;rintro e w5 ⟨rfl,hb5⟩;have HH5:=aW (HH4.out.keep hb5);clear hb5 c0 f0 l0
  try simp only []
  go_step;refine bS rfl 40 4 231 rfl (w.heap.size+1) 0 #[Zi Zq 2,Zi Zq 1,Zt ⟨#[]⟩,Zs none 0 0,Zs none 0 0,.bool true] rfl rfl HH5.out.b2.there ?_;have HBR:=aW (HH5.out.b2.set6C (Zi Zq 2) (Zi Zq 1) (Zt ⟨#[]⟩) (Zs none 0 0) (Zs none 0 0) (.bool true));have HPT:=aW (show IsP op F w (.returned (.agg #[Zi Zq 2,Zi Zq 1,Zt ⟨#[]⟩,Zs none 0 0,Zs none 0 0,.bool true])) (w5.setCells (w.heap.size+1) 0 [Zi Zq 2,Zi Zq 1,Zt ⟨#[]⟩,Zs none 0 0,Zs none 0 0,.bool true]) from aM (s:=[]) (by rw [HX.out,ht];rfl) (by rfl) (aw (by unfold iw;omega) (by unfold iw;omega) (by simp)) HFF.out HH5.out.1);obtain ⟨WG,hWG⟩:∃ W',w5.setCells (w.heap.size+1) 0 [Zi Zq 2,Zi Zq 1,Zt ⟨#[]⟩,Zs none 0 0,Zs none 0 0,.bool true]=W':=⟨_,rfl⟩
  rw [hWG] at HBR HPT
  try simp only []
  rw [hWG];clear hWG;obtain ⟨cR,fR,lR⟩:=HBR.out.rules;go_wp2_with ((with_reducible refine bodyPost_ret (v:=.agg #[Zi Zq 2,Zi Zq 1,Zt ⟨#[]⟩,Zs none 0 0,Zs none 0 0,.bool true]) ?_ rfl ?_);(simp only [results,Tryz.results17];go_simp);exact HPT.out)
 ·obtain ⟨t,ht⟩:∃ t:Bool,t=false:=⟨_,rfl⟩
  have HX:=aW (show op=some (aG t) by rw [HO.out,ht];rfl);have HTR:=aW (λ W=>bZ false W);go_wp2_with fail;refine (HTR.out _).mono ?_;rintro e w5 ⟨rfl,hb5⟩;have HH5:=aW (HH4.out.keep hb5);clear hb5 c0 f0 l0
  try simp only []
  go_step;refine bS rfl 40 4 231 rfl (w.heap.size+1) 0 #[Zi Zq 2,Zi Zq 0,Zt ⟨#[]⟩,Zs none 0 0,Zs none 0 0,.bool true] rfl rfl HH5.out.b2.there ?_;have HBR:=aW (HH5.out.b2.set6C (Zi Zq 2) (Zi Zq 0) (Zt ⟨#[]⟩) (Zs none 0 0) (Zs none 0 0) (.bool true));have HPT:=aW (show IsP op F w (.returned (.agg #[Zi Zq 2,Zi Zq 0,Zt ⟨#[]⟩,Zs none 0 0,Zs none 0 0,.bool true])) (w5.setCells (w.heap.size+1) 0 [Zi Zq 2,Zi Zq 0,Zt ⟨#[]⟩,Zs none 0 0,Zs none 0 0,.bool true]) from aM (s:=[]) (by rw [HX.out,ht];rfl) (by rfl) (aw (by unfold iw;omega) (by unfold iw;omega) (by simp)) HFF.out HH5.out.1);obtain ⟨WG,hWG⟩:∃ W',w5.setCells (w.heap.size+1) 0 [Zi Zq 2,Zi Zq 0,Zt ⟨#[]⟩,Zs none 0 0,Zs none 0 0,.bool true]=W':=⟨_,rfl⟩
  rw [hWG] at HBR HPT
  try simp only []
  rw [hWG];clear hWG;obtain ⟨cR,fR,lR⟩:=HBR.out.rules;go_wp2_with ((with_reducible refine bodyPost_ret (v:=.agg #[Zi Zq 2,Zi Zq 0,Zt ⟨#[]⟩,Zs none 0 0,Zs none 0 0,.bool true]) ?_ rfl ?_);(simp only [results,Tryz.results17];go_simp);exact HPT.out)
theorem xK {env:List (List UInt8 × JV)} {v:JV} {s:List UInt8} {ya yb:EJ} {cs:List Value} {EA:Option Addr} {n ec:Nat} {F:Nat->Prop} {w:World} (hF:∀ b,F b->b<w.heap.size) (hx:ER w F cs (.mk 14 v s [ya,yb])) (hcx:bh (.mk 14 v s [ya,yb]))
  (ka:dA EA n ec F env w ya) (kb:dA EA n ec F env w yb) (oa ob:Option JV) (hoa:evE env ya=oa) (hob:evE env yb=ob) (op:Option JV) (hop:bg env 14 v s [oa,ob]=op) :
  Calls Tryz.prog 17 #[.agg cs.toArray,Zs EA n ec] w (IsP op F w):=by
 obtain ⟨k1,n1,s1,A1,na1,ca1,B1,nb1,cb1,A,ca,css0,rfl,hv,h1,h2,h3,h4⟩:=hx.out;obtain ⟨b,o,kx,px,nx,sx,Ax,nax,cax,Bx,nbx,cbx,zx,Cx,ncx,ccx,rfl,hb,hER,hz⟩:=aq h1 h4 (i:=0) (x:=ya) rfl;have HKA:=aW (λ (W:World) (h:Below w.heap.size w W)=>ka W _ h (hER.bel h));obtain ⟨b',o',ky,py,ny,sy,Ay,nay,cay,By,nby,cby,zy,Cy,ncy,ccy,hbb,hb2,hER2,hz2⟩:=aq h1 h4 (i:=1) (x:=yb) rfl;injection hbb with hbb;injection hbb with hb1 hb3
 subst hb1 hb3;have HKB:=aW (λ (W:World) (h:Below w.heap.size w W)=>kb W _ h (hER2.bel h));have HZ2:=aW hz2;rw [hoa] at HKA;rw [hob] at HKB;obtain ⟨nr,hnr⟩:∃ q:Nat,2=q:=⟨_,rfl⟩
 have hnr1:0<nr:=by omega
 have hnr2:1<nr:=by omega
 have HFF:=aW hF;have HOP:=aW hop;have HVS:=aW hv;have HH0:=aW (((aj.nil w).push 28 #[Zi Zq 14,Zi Zq k1,Zi Zq n1,Zt s1,Zs A1 na1 ca1,Zs B1 nb1 cb1,Zt ⟨s.toArray⟩,Zs (some ⟨b,o,none⟩) nr ca] (g:=w.heap.size) rfl).push 40 #[Zi Zq 0,Zi Zq 0,Zt ⟨#[]⟩,Zs none 0 0,Zs none 0 0,.bool false] (g:=w.heap.size+1) (by simp));obtain ⟨z0,z1,z2,z3,z4,z5,z6,z7⟩:=hz _ HH0.out.1;rw [dP] at z0 z1 z2 z3 z4 z5 z6 z7;have hlb:b<w.heap.size:=hb;have hlb2:b≠w.heap.size+1:=by omega
 rw [show ([ya,yb]:List EJ).length=nr from hnr];obtain ⟨c0,f0,l0⟩:=HH0.out.b1.rules;clear hF hx hcx hv h1 h2 h3 h4 hER hz hb hoa hob hop hnr ka kb hER2 hz2 hb2;go_enter Tryz.func17,Tryz.ntmps17;go_wp2_with fail;refine (HKA.out _ HH0.out.1).mono ?_;rintro e w1 ⟨k5,n5,s5,A5,na5,ca5,B5,nb5,cb5,va,ba,rfl,hva,hca,hoa,hga,hza,hb1⟩;obtain ⟨WA,hWA⟩:∃ W,w1.alloc (.cells #[Zi Zq k5,Zi Zq n5,Zt s5,Zs A5 na5 ca5,Zs B5 nb5 cb5,.bool ba] 40)=W:=⟨_,rfl⟩
 have HWA:=aW hWA;have HH1:=aW (show aj [(w1.heap.size,40,#[Zi Zq k5,Zi Zq n5,Zt s5,Zs A5 na5 ca5,Zs B5 nb5 cb5,.bool ba]),(w.heap.size+1,40,#[Zi Zq 0,Zi Zq 0,Zt ⟨#[]⟩,Zs none 0 0,Zs none 0 0,.bool false]),(w.heap.size,28,#[Zi Zq 14,Zi Zq k1,Zi Zq n1,Zt s1,Zs A1 na1 ca1,Zs B1 nb1 cb1,Zt ⟨s.toArray⟩,Zs (some ⟨b,o,none⟩) nr ca])] w WA by rw [← hWA];exact (HH0.out.keep hb1).push 40 #[Zi Zq k5,Zi Zq n5,Zt s5,Zs A5 na5 ca5,Zs B5 nb5 cb5,.bool ba] (g:=w1.heap.size) rfl);have HW1:=aW (show Below w1.heap.size w1 WA by rw [← hWA];exact (Below.refl _ w1).alloc (Nat.le_refl _) _);have HVA:=aW (λ (W:World) (h:Below w1.heap.size w1 W)=>IsP.val (w:=w) (by simp) hva h);have HQA:=aW (And.intro hca (And.intro hoa (And.intro hga hza)));have hs1:w.heap.size+2<=w1.heap.size:=by have:=hb1.size;simpa using this
 have hn1:w1.heap.size≠w.heap.size+1:=by omega
 have hn2:w1.heap.size≠w.heap.size:=by omega
 clear hWA hva hca hoa hga hza hb1 c0 f0 l0 z0 z1 z2 z3 z4 z5 z6 z7 HKA;go_upto_region 24 with fail;rw [HWA.out];clear HWA;obtain ⟨c0,f0,l0⟩:=HH1.out.b2.rules;obtain ⟨c1,f1,l1⟩:=HH1.out.b1.rules;obtain ⟨c2,f2,l2⟩:=HH1.out.b0.rules;cases ba with
 |false =>
  have HX:=aW (show op=none by rw [← HOP.out,HQA.out.2.1];rfl);go_upto_region 25 with fail
  try simp only []
  go_step;go_step;go_step;go_step;refine bS rfl 40 4 98 rfl (w.heap.size+1) 0 #[Zi Zq 0,Zi Zq 0,Zt ⟨#[]⟩,Zs none 0 0,Zs none 0 0,.bool false] rfl rfl HH1.out.b1.there ?_;have HBR:=aW (HH1.out.b1.set6C (Zi Zq 0) (Zi Zq 0) (Zt ⟨#[]⟩) (Zs none 0 0) (Zs none 0 0) (.bool false));have HPT:=aW (show IsP op F w (.returned (.agg #[Zi Zq 0,Zi Zq 0,Zt ⟨#[]⟩,Zs none 0 0,Zs none 0 0,.bool false])) (WA.setCells (w.heap.size+1) 0 [Zi Zq 0,Zi Zq 0,Zt ⟨#[]⟩,Zs none 0 0,Zs none 0 0,.bool false]) from IsP.nilC HX.out HH1.out.1);obtain ⟨WG,hWG⟩:∃ W',WA.setCells (w.heap.size+1) 0 [Zi Zq 0,Zi Zq 0,Zt ⟨#[]⟩,Zs none 0 0,Zs none 0 0,.bool false]=W':=⟨_,rfl⟩
  rw [hWG] at HBR HPT
  try simp only []
  rw [hWG];clear hWG;obtain ⟨cR,fR,lR⟩:=HBR.out.rules;go_wp2_with ((with_reducible refine bodyPost_ret (v:=.agg #[Zi Zq 0,Zi Zq 0,Zt ⟨#[]⟩,Zs none 0 0,Zs none 0 0,.bool false]) ?_ rfl ?_);(simp only [results,Tryz.results17];go_simp);exact HPT.out)
 | true =>
 have HOA:=aW (show oa=some va from HQA.out.2.1);have HGA:=aW (HQA.out.2.2.1 rfl);have HCA:=aW HQA.out.1;clear HQA;go_wp2_with fail;refine (cU _ _ _ _ _ _ _ _ _ _ _).mono ?_;rintro e w2 ⟨rfl,hb2⟩;have HH2:=aW (HH1.out.keep hb2);have HW2:=aW (HW1.out.trans (hb2.mono HW1.out.size));clear hb2 c0 f0 l0 c1 f1 l1 c2 f2 l2;obtain ⟨c0,f0,l0⟩:=HH2.out.b2.rules;obtain ⟨c1,f1,l1⟩:=HH2.out.b1.rules;obtain ⟨c2,f2,l2⟩:=HH2.out.b0.rules;have HKN:=aW (br (HVA.out _ (Below.refl _ _)));have HBO:=aW (show op=(if k5=2 then (if decide (n5=1)=false then some (aG (decide (n5=1))) else (isB ob).map aG) else none) by
  rw [← HOP.out,HOA.out];show (match isB (some va) with | none=>none | some t=>if t=decide ((14:Int)=15) then some (aG t) else (isB ob).map aG)=_
  rw [kg,HKN.out.1,HKN.out.2.1];by_cases h:k5=2
  ·rw [if_pos h,if_pos h];rfl
  ·rw [if_neg h,if_neg h])
 by_cases hk2:k5=2;rotate_left
 ·have e2:(k5 == 2)=false:=by simp [hk2]
  have HX:=aW (show op=none by rw [HBO.out,if_neg hk2]);clear hk2 HBO;go_upto_region 49 with fail
  try simp only []
  go_step;go_step;go_step;go_step;refine bS rfl 40 4 174 rfl (w.heap.size+1) 0 #[Zi Zq 0,Zi Zq 0,Zt ⟨#[]⟩,Zs none 0 0,Zs none 0 0,.bool false] rfl rfl HH2.out.b1.there ?_;have HBR:=aW (HH2.out.b1.set6C (Zi Zq 0) (Zi Zq 0) (Zt ⟨#[]⟩) (Zs none 0 0) (Zs none 0 0) (.bool false));have HPT:=aW (show IsP op F w (.returned (.agg #[Zi Zq 0,Zi Zq 0,Zt ⟨#[]⟩,Zs none 0 0,Zs none 0 0,.bool false])) (w2.setCells (w.heap.size+1) 0 [Zi Zq 0,Zi Zq 0,Zt ⟨#[]⟩,Zs none 0 0,Zs none 0 0,.bool false]) from IsP.nilC HX.out HH2.out.1);obtain ⟨WG,hWG⟩:∃ W',w2.setCells (w.heap.size+1) 0 [Zi Zq 0,Zi Zq 0,Zt ⟨#[]⟩,Zs none 0 0,Zs none 0 0,.bool false]=W':=⟨_,rfl⟩
  rw [hWG] at HBR HPT
  try simp only []
  rw [hWG];clear hWG;obtain ⟨cR,fR,lR⟩:=HBR.out.rules;go_wp2_with ((with_reducible refine bodyPost_ret (v:=.agg #[Zi Zq 0,Zi Zq 0,Zt ⟨#[]⟩,Zs none 0 0,Zs none 0 0,.bool false]) ?_ rfl ?_);(simp only [results,Tryz.results17];go_simp);exact HPT.out)
 have e2:(k5 == 2)=true:=by simp [hk2]
 have HBP:=aW (show op=(if decide (n5=1)=false then some (aG (decide (n5=1))) else (isB ob).map aG) by rw [HBO.out,if_pos hk2]);clear hk2 HBO;by_cases hd:decide (n5=1)=false
 ·have HX:=aW (show op=some (aG false) by rw [HBP.out,if_pos hd,hd]);have e3:(n5 == 1)=false:=by rw [← hd];rfl
  have HTR:=aW (λ W=>bZ false W);clear hd HBP;go_upto_region 51 with fail;go_wp2_with fail;refine (HTR.out _).mono ?_;rintro e w3 ⟨rfl,hb3⟩;have HH3:=aW (HH2.out.keep hb3);clear hb3 c0 f0 l0 c1 f1 l1 c2 f2 l2
  try simp only []
  go_step;refine bS rfl 40 4 181 rfl (w.heap.size+1) 0 #[Zi Zq 2,Zi Zq 0,Zt ⟨#[]⟩,Zs none 0 0,Zs none 0 0,.bool true] rfl rfl HH3.out.b1.there ?_;have HBR:=aW (HH3.out.b1.set6C (Zi Zq 2) (Zi Zq 0) (Zt ⟨#[]⟩) (Zs none 0 0) (Zs none 0 0) (.bool true));have HPT:=aW (show IsP op F w (.returned (.agg #[Zi Zq 2,Zi Zq 0,Zt ⟨#[]⟩,Zs none 0 0,Zs none 0 0,.bool true])) (w3.setCells (w.heap.size+1) 0 [Zi Zq 2,Zi Zq 0,Zt ⟨#[]⟩,Zs none 0 0,Zs none 0 0,.bool true]) from aM (s:=[]) (by rw [HX.out];rfl) (by rfl) (aw (by unfold iw;omega) (by unfold iw;omega) (by simp)) HFF.out HH3.out.1);obtain ⟨WG,hWG⟩:∃ W',w3.setCells (w.heap.size+1) 0 [Zi Zq 2,Zi Zq 0,Zt ⟨#[]⟩,Zs none 0 0,Zs none 0 0,.bool true]=W':=⟨_,rfl⟩
  rw [hWG] at HBR HPT
  try simp only []
  rw [hWG];clear hWG;obtain ⟨cR,fR,lR⟩:=HBR.out.rules;go_wp2_with ((with_reducible refine bodyPost_ret (v:=.agg #[Zi Zq 2,Zi Zq 0,Zt ⟨#[]⟩,Zs none 0 0,Zs none 0 0,.bool true]) ?_ rfl ?_);(simp only [results,Tryz.results17];go_simp);exact HPT.out)
 have e3:(n5 == 1)=true:=by
  have:decide (n5=1)=true:=by revert hd;cases decide (n5=1)<;>simp
  rw [← this];rfl
 have HBQ:=aW (show op=(isB ob).map aG by rw [HBP.out,if_neg hd]);clear hd HBP;obtain ⟨y0,y1,y2,y3,y4,y5,y6,y7⟩:=HZ2.out _ HH2.out.1;rw [Nat.one_mul] at y0 y1 y2 y3 y4 y5 y6 y7;have hlb9:b<w2.heap.size:=Nat.lt_of_lt_of_le hlb HH2.out.1.size;have hs2:w.heap.size+2<=w2.heap.size:=Nat.le_trans hs1 HW2.out.size;go_upto_region 52 with fail;go_wp2_with fail;refine (HKB.out _ HH2.out.1).mono ?_;rintro e w3 ⟨k6,n6,s6,A6,na6,ca6,B6,nb6,cb6,vb,bb,rfl,hvb,hcb,hob,hgb,hzb,hb3⟩;have HVB:=aW (br (IsP.val (w:=w) hs2 hvb (Below.refl _ _)));have HQB:=aW (And.intro hob hzb);have HH3:=aW (HH2.out.keep hb3);have HOX:=aW (show op=(if (bb && (k6 == 2))=true then some (aG (n6 == 1)) else none) by
  rw [HBQ.out,HQB.out.1];cases bb with
  | false=>rfl
  |true =>
   rw [if_pos rfl,kg,HVB.out.1,HVB.out.2.1];by_cases h:k6=2
   ·have h9:(k6 == 2)=true:=by simp [h]
    rw [if_pos h,h9];rfl
   ·have h9:(k6 == 2)=false:=by simp [h]
    rw [if_neg h,h9];rfl)
 clear hvb hcb hob hgb hzb hb3 c0 f0 l0 c1 f1 l1 c2 f2 l2 y0 y1 y2 y3 y4 y5 y6 y7;obtain ⟨bq,hbq⟩:∃ q,(bb && (k6 == 2))=q:=⟨_,rfl⟩
 obtain ⟨tq,htq⟩:∃ q,(n6 == 1)=q:=⟨_,rfl⟩
 have HBV:=aW (show Calls Tryz.prog 47 #[.agg #[Zi Zq k6,Zi Zq n6,Zt s6,Zs A6 na6 ca6,Zs B6 nb6 cb6,.bool bb]] w3 λ e w'=>e=.returned (.tuple #[.bool tq,.bool bq])/\Below w3.heap.size w3 w' by rw [← hbq,← htq];exact cU _ _ _ _ _ _ _ _ _ bb w3);rw [hbq,htq] at HOX;clear hbq htq;go_wp2_with fail;refine HBV.out.mono ?_;rintro e w4 ⟨rfl,hb4⟩;have HH4:=aW (HH3.out.keep hb4);clear hb4;cases bq with
 |false =>
  have HX:=aW (show op=none by rw [HOX.out];rfl);go_upto_region 54 with fail
  try simp only []
  go_step;go_step;go_step;go_step;refine bS rfl 40 4 194 rfl (w.heap.size+1) 0 #[Zi Zq 0,Zi Zq 0,Zt ⟨#[]⟩,Zs none 0 0,Zs none 0 0,.bool false] rfl rfl HH4.out.b1.there ?_;have HBR:=aW (HH4.out.b1.set6C (Zi Zq 0) (Zi Zq 0) (Zt ⟨#[]⟩) (Zs none 0 0) (Zs none 0 0) (.bool false));have HPT:=aW (show IsP op F w (.returned (.agg #[Zi Zq 0,Zi Zq 0,Zt ⟨#[]⟩,Zs none 0 0,Zs none 0 0,.bool false])) (w4.setCells (w.heap.size+1) 0 [Zi Zq 0,Zi Zq 0,Zt ⟨#[]⟩,Zs none 0 0,Zs none 0 0,.bool false]) from IsP.nilC HX.out HH4.out.1);obtain ⟨WG,hWG⟩:∃ W',w4.setCells (w.heap.size+1) 0 [Zi Zq 0,Zi Zq 0,Zt ⟨#[]⟩,Zs none 0 0,Zs none 0 0,.bool false]=W':=⟨_,rfl⟩
  rw [hWG] at HBR HPT
  try simp only []
  rw [hWG];clear hWG;obtain ⟨cR,fR,lR⟩:=HBR.out.rules;go_wp2_with ((with_reducible refine bodyPost_ret (v:=.agg #[Zi Zq 0,Zi Zq 0,Zt ⟨#[]⟩,Zs none 0 0,Zs none 0 0,.bool false]) ?_ rfl ?_);(simp only [results,Tryz.results17];go_simp);exact HPT.out)
 | true =>
 have HX:=aW (show op=some (aG tq) by rw [HOX.out];rfl);have HTR:=aW (λ W=>bZ tq W);go_upto_region 55 with fail;go_wp2_with fail;refine (HTR.out _).mono ?_;rintro e w5 ⟨rfl,hb5⟩;have HH5:=aW (HH4.out.keep hb5);clear hb5
 try simp only []
 go_step;refine bS rfl 40 4 196 rfl (w.heap.size+1) 0 #[Zi Zq 2,Zi Zq (if tq=true then 1 else 0),Zt ⟨#[]⟩,Zs none 0 0,Zs none 0 0,.bool true] rfl rfl HH5.out.b1.there ?_;have HBR:=aW (HH5.out.b1.set6C (Zi Zq 2) (Zi Zq (if tq=true then 1 else 0)) (Zt ⟨#[]⟩) (Zs none 0 0) (Zs none 0 0) (.bool true));have HPT:=aW (show IsP op F w (.returned (.agg #[Zi Zq 2,Zi Zq (if tq=true then 1 else 0),Zt ⟨#[]⟩,Zs none 0 0,Zs none 0 0,.bool true])) (w5.setCells (w.heap.size+1) 0 [Zi Zq 2,Zi Zq (if tq=true then 1 else 0),Zt ⟨#[]⟩,Zs none 0 0,Zs none 0 0,.bool true]) from aM (s:=[]) HX.out (df tq) (aw (by unfold iw;omega) (by unfold iw;split<;>omega) (by simp)) HFF.out HH5.out.1);obtain ⟨WG,hWG⟩:∃ W',w5.setCells (w.heap.size+1) 0 [Zi Zq 2,Zi Zq (if tq=true then 1 else 0),Zt ⟨#[]⟩,Zs none 0 0,Zs none 0 0,.bool true]=W':=⟨_,rfl⟩
 rw [hWG] at HBR HPT
 try simp only []
 rw [hWG];clear hWG;obtain ⟨cR,fR,lR⟩:=HBR.out.rules;go_wp2_with ((with_reducible refine bodyPost_ret (v:=.agg #[Zi Zq 2,Zi Zq (if tq=true then 1 else 0),Zt ⟨#[]⟩,Zs none 0 0,Zs none 0 0,.bool true]) ?_ rfl ?_);(simp only [results,Tryz.results17];go_simp);exact HPT.out)
theorem v8 {env:List (List UInt8 × JV)} {v:JV} {s:List UInt8} {ya yb:EJ} {cs:List Value} {EA:Option Addr} {n ec:Nat} {F:Nat->Prop} {w:World} (hF:∀ b,F b->b<w.heap.size) (hx:ER w F cs (.mk 15 v s [ya,yb])) (hcx:bh (.mk 15 v s [ya,yb]))
  (ka:dA EA n ec F env w ya) (kb:dA EA n ec F env w yb) (oa ob:Option JV) (hoa:evE env ya=oa) (hob:evE env yb=ob) (op:Option JV) (hop:bg env 15 v s [oa,ob]=op) :
  Calls Tryz.prog 17 #[.agg cs.toArray,Zs EA n ec] w (IsP op F w):=by
 obtain ⟨k1,n1,s1,A1,na1,ca1,B1,nb1,cb1,A,ca,css0,rfl,hv,h1,h2,h3,h4⟩:=hx.out;obtain ⟨b,o,kx,px,nx,sx,Ax,nax,cax,Bx,nbx,cbx,zx,Cx,ncx,ccx,rfl,hb,hER,hz⟩:=aq h1 h4 (i:=0) (x:=ya) rfl;have HKA:=aW (λ (W:World) (h:Below w.heap.size w W)=>ka W _ h (hER.bel h));obtain ⟨b',o',ky,py,ny,sy,Ay,nay,cay,By,nby,cby,zy,Cy,ncy,ccy,hbb,hb2,hER2,hz2⟩:=aq h1 h4 (i:=1) (x:=yb) rfl;injection hbb with hbb;injection hbb with hb1 hb3
 subst hb1 hb3;have HKB:=aW (λ (W:World) (h:Below w.heap.size w W)=>kb W _ h (hER2.bel h));have HZ2:=aW hz2;rw [hoa] at HKA;rw [hob] at HKB;obtain ⟨nr,hnr⟩:∃ q:Nat,2=q:=⟨_,rfl⟩
 have hnr1:0<nr:=by omega
 have hnr2:1<nr:=by omega
 have HFF:=aW hF;have HOP:=aW hop;have HVS:=aW hv;have HH0:=aW (((aj.nil w).push 28 #[Zi Zq 15,Zi Zq k1,Zi Zq n1,Zt s1,Zs A1 na1 ca1,Zs B1 nb1 cb1,Zt ⟨s.toArray⟩,Zs (some ⟨b,o,none⟩) nr ca] (g:=w.heap.size) rfl).push 40 #[Zi Zq 0,Zi Zq 0,Zt ⟨#[]⟩,Zs none 0 0,Zs none 0 0,.bool false] (g:=w.heap.size+1) (by simp));obtain ⟨z0,z1,z2,z3,z4,z5,z6,z7⟩:=hz _ HH0.out.1;rw [dP] at z0 z1 z2 z3 z4 z5 z6 z7;have hlb:b<w.heap.size:=hb;have hlb2:b≠w.heap.size+1:=by omega
 rw [show ([ya,yb]:List EJ).length=nr from hnr];obtain ⟨c0,f0,l0⟩:=HH0.out.b1.rules;clear hF hx hcx hv h1 h2 h3 h4 hER hz hb hoa hob hop hnr ka kb hER2 hz2 hb2;go_enter Tryz.func17,Tryz.ntmps17;go_wp2_with fail;refine (HKA.out _ HH0.out.1).mono ?_;rintro e w1 ⟨k5,n5,s5,A5,na5,ca5,B5,nb5,cb5,va,ba,rfl,hva,hca,hoa,hga,hza,hb1⟩;obtain ⟨WA,hWA⟩:∃ W,w1.alloc (.cells #[Zi Zq k5,Zi Zq n5,Zt s5,Zs A5 na5 ca5,Zs B5 nb5 cb5,.bool ba] 40)=W:=⟨_,rfl⟩
 have HWA:=aW hWA;have HH1:=aW (show aj [(w1.heap.size,40,#[Zi Zq k5,Zi Zq n5,Zt s5,Zs A5 na5 ca5,Zs B5 nb5 cb5,.bool ba]),(w.heap.size+1,40,#[Zi Zq 0,Zi Zq 0,Zt ⟨#[]⟩,Zs none 0 0,Zs none 0 0,.bool false]),(w.heap.size,28,#[Zi Zq 15,Zi Zq k1,Zi Zq n1,Zt s1,Zs A1 na1 ca1,Zs B1 nb1 cb1,Zt ⟨s.toArray⟩,Zs (some ⟨b,o,none⟩) nr ca])] w WA by rw [← hWA];exact (HH0.out.keep hb1).push 40 #[Zi Zq k5,Zi Zq n5,Zt s5,Zs A5 na5 ca5,Zs B5 nb5 cb5,.bool ba] (g:=w1.heap.size) rfl);have HW1:=aW (show Below w1.heap.size w1 WA by rw [← hWA];exact (Below.refl _ w1).alloc (Nat.le_refl _) _);have HVA:=aW (λ (W:World) (h:Below w1.heap.size w1 W)=>IsP.val (w:=w) (by simp) hva h);have HQA:=aW (And.intro hca (And.intro hoa (And.intro hga hza)));have hs1:w.heap.size+2<=w1.heap.size:=by have:=hb1.size;simpa using this
 have hn1:w1.heap.size≠w.heap.size+1:=by omega
 have hn2:w1.heap.size≠w.heap.size:=by omega
 clear hWA hva hca hoa hga hza hb1 c0 f0 l0 z0 z1 z2 z3 z4 z5 z6 z7 HKA;go_upto_region 24 with fail;rw [HWA.out];clear HWA;obtain ⟨c0,f0,l0⟩:=HH1.out.b2.rules;obtain ⟨c1,f1,l1⟩:=HH1.out.b1.rules;obtain ⟨c2,f2,l2⟩:=HH1.out.b0.rules;cases ba with
 |false =>
  have HX:=aW (show op=none by rw [← HOP.out,HQA.out.2.1];rfl);go_upto_region 25 with fail
  try simp only []
  go_step;go_step;go_step;go_step;refine bS rfl 40 4 98 rfl (w.heap.size+1) 0 #[Zi Zq 0,Zi Zq 0,Zt ⟨#[]⟩,Zs none 0 0,Zs none 0 0,.bool false] rfl rfl HH1.out.b1.there ?_;have HBR:=aW (HH1.out.b1.set6C (Zi Zq 0) (Zi Zq 0) (Zt ⟨#[]⟩) (Zs none 0 0) (Zs none 0 0) (.bool false));have HPT:=aW (show IsP op F w (.returned (.agg #[Zi Zq 0,Zi Zq 0,Zt ⟨#[]⟩,Zs none 0 0,Zs none 0 0,.bool false])) (WA.setCells (w.heap.size+1) 0 [Zi Zq 0,Zi Zq 0,Zt ⟨#[]⟩,Zs none 0 0,Zs none 0 0,.bool false]) from IsP.nilC HX.out HH1.out.1);obtain ⟨WG,hWG⟩:∃ W',WA.setCells (w.heap.size+1) 0 [Zi Zq 0,Zi Zq 0,Zt ⟨#[]⟩,Zs none 0 0,Zs none 0 0,.bool false]=W':=⟨_,rfl⟩
  rw [hWG] at HBR HPT
  try simp only []
  rw [hWG];clear hWG;obtain ⟨cR,fR,lR⟩:=HBR.out.rules;go_wp2_with ((with_reducible refine bodyPost_ret (v:=.agg #[Zi Zq 0,Zi Zq 0,Zt ⟨#[]⟩,Zs none 0 0,Zs none 0 0,.bool false]) ?_ rfl ?_);(simp only [results,Tryz.results17];go_simp);exact HPT.out)
 | true =>
 have HOA:=aW (show oa=some va from HQA.out.2.1);have HGA:=aW (HQA.out.2.2.1 rfl);have HCA:=aW HQA.out.1;clear HQA;go_wp2_with fail;refine (cU _ _ _ _ _ _ _ _ _ _ _).mono ?_;rintro e w2 ⟨rfl,hb2⟩;have HH2:=aW (HH1.out.keep hb2);have HW2:=aW (HW1.out.trans (hb2.mono HW1.out.size));clear hb2 c0 f0 l0 c1 f1 l1 c2 f2 l2;obtain ⟨c0,f0,l0⟩:=HH2.out.b2.rules;obtain ⟨c1,f1,l1⟩:=HH2.out.b1.rules;obtain ⟨c2,f2,l2⟩:=HH2.out.b0.rules;have HKN:=aW (br (HVA.out _ (Below.refl _ _)));have HBO:=aW (show op=(if k5=2 then (if decide (n5=1)=true then some (aG (decide (n5=1))) else (isB ob).map aG) else none) by
  rw [← HOP.out,HOA.out];show (match isB (some va) with | none=>none | some t=>if t=decide ((15:Int)=15) then some (aG t) else (isB ob).map aG)=_
  rw [kg,HKN.out.1,HKN.out.2.1];by_cases h:k5=2
  ·rw [if_pos h,if_pos h];rfl
  ·rw [if_neg h,if_neg h])
 by_cases hk2:k5=2;rotate_left
 ·have e2:(k5 == 2)=false:=by simp [hk2]
  have HX:=aW (show op=none by rw [HBO.out,if_neg hk2]);clear hk2 HBO;go_upto_region 49 with fail
  try simp only []
  go_step;go_step;go_step;go_step;refine bS rfl 40 4 174 rfl (w.heap.size+1) 0 #[Zi Zq 0,Zi Zq 0,Zt ⟨#[]⟩,Zs none 0 0,Zs none 0 0,.bool false] rfl rfl HH2.out.b1.there ?_;have HBR:=aW (HH2.out.b1.set6C (Zi Zq 0) (Zi Zq 0) (Zt ⟨#[]⟩) (Zs none 0 0) (Zs none 0 0) (.bool false));have HPT:=aW (show IsP op F w (.returned (.agg #[Zi Zq 0,Zi Zq 0,Zt ⟨#[]⟩,Zs none 0 0,Zs none 0 0,.bool false])) (w2.setCells (w.heap.size+1) 0 [Zi Zq 0,Zi Zq 0,Zt ⟨#[]⟩,Zs none 0 0,Zs none 0 0,.bool false]) from IsP.nilC HX.out HH2.out.1);obtain ⟨WG,hWG⟩:∃ W',w2.setCells (w.heap.size+1) 0 [Zi Zq 0,Zi Zq 0,Zt ⟨#[]⟩,Zs none 0 0,Zs none 0 0,.bool false]=W':=⟨_,rfl⟩
  rw [hWG] at HBR HPT
  try simp only []
  rw [hWG];clear hWG;obtain ⟨cR,fR,lR⟩:=HBR.out.rules;go_wp2_with ((with_reducible refine bodyPost_ret (v:=.agg #[Zi Zq 0,Zi Zq 0,Zt ⟨#[]⟩,Zs none 0 0,Zs none 0 0,.bool false]) ?_ rfl ?_);(simp only [results,Tryz.results17];go_simp);exact HPT.out)
 have e2:(k5 == 2)=true:=by simp [hk2]
 have HBP:=aW (show op=(if decide (n5=1)=true then some (aG (decide (n5=1))) else (isB ob).map aG) by rw [HBO.out,if_pos hk2]);clear hk2 HBO;by_cases hd:decide (n5=1)=true
 ·have HX:=aW (show op=some (aG true) by rw [HBP.out,if_pos hd,hd]);have e3:(n5 == 1)=true:=by rw [← hd];rfl
  have HTR:=aW (λ W=>bZ true W);clear hd HBP;go_upto_region 51 with fail;go_wp2_with fail;refine (HTR.out _).mono ?_;rintro e w3 ⟨rfl,hb3⟩;have HH3:=aW (HH2.out.keep hb3);clear hb3 c0 f0 l0 c1 f1 l1 c2 f2 l2
  try simp only []
  go_step;refine bS rfl 40 4 181 rfl (w.heap.size+1) 0 #[Zi Zq 2,Zi Zq 1,Zt ⟨#[]⟩,Zs none 0 0,Zs none 0 0,.bool true] rfl rfl HH3.out.b1.there ?_;have HBR:=aW (HH3.out.b1.set6C (Zi Zq 2) (Zi Zq 1) (Zt ⟨#[]⟩) (Zs none 0 0) (Zs none 0 0) (.bool true));have HPT:=aW (show IsP op F w (.returned (.agg #[Zi Zq 2,Zi Zq 1,Zt ⟨#[]⟩,Zs none 0 0,Zs none 0 0,.bool true])) (w3.setCells (w.heap.size+1) 0 [Zi Zq 2,Zi Zq 1,Zt ⟨#[]⟩,Zs none 0 0,Zs none 0 0,.bool true]) from aM (s:=[]) (by rw [HX.out];rfl) (by rfl) (aw (by unfold iw;omega) (by unfold iw;omega) (by simp)) HFF.out HH3.out.1);obtain ⟨WG,hWG⟩:∃ W',w3.setCells (w.heap.size+1) 0 [Zi Zq 2,Zi Zq 1,Zt ⟨#[]⟩,Zs none 0 0,Zs none 0 0,.bool true]=W':=⟨_,rfl⟩
  rw [hWG] at HBR HPT
  try simp only []
  rw [hWG];clear hWG;obtain ⟨cR,fR,lR⟩:=HBR.out.rules;go_wp2_with ((with_reducible refine bodyPost_ret (v:=.agg #[Zi Zq 2,Zi Zq 1,Zt ⟨#[]⟩,Zs none 0 0,Zs none 0 0,.bool true]) ?_ rfl ?_);(simp only [results,Tryz.results17];go_simp);exact HPT.out)
 have e3:(n5 == 1)=false:=by
  have:decide (n5=1)=false:=by revert hd;cases decide (n5=1)<;>simp
  rw [← this];rfl
 have HBQ:=aW (show op=(isB ob).map aG by rw [HBP.out,if_neg hd]);clear hd HBP;obtain ⟨y0,y1,y2,y3,y4,y5,y6,y7⟩:=HZ2.out _ HH2.out.1;rw [Nat.one_mul] at y0 y1 y2 y3 y4 y5 y6 y7;have hlb9:b<w2.heap.size:=Nat.lt_of_lt_of_le hlb HH2.out.1.size;have hs2:w.heap.size+2<=w2.heap.size:=Nat.le_trans hs1 HW2.out.size;go_upto_region 52 with fail;go_wp2_with fail;refine (HKB.out _ HH2.out.1).mono ?_;rintro e w3 ⟨k6,n6,s6,A6,na6,ca6,B6,nb6,cb6,vb,bb,rfl,hvb,hcb,hob,hgb,hzb,hb3⟩;have HVB:=aW (br (IsP.val (w:=w) hs2 hvb (Below.refl _ _)));have HQB:=aW (And.intro hob hzb);have HH3:=aW (HH2.out.keep hb3);have HOX:=aW (show op=(if (bb && (k6 == 2))=true then some (aG (n6 == 1)) else none) by
  rw [HBQ.out,HQB.out.1];cases bb with
  | false=>rfl
  |true =>
   rw [if_pos rfl,kg,HVB.out.1,HVB.out.2.1];by_cases h:k6=2
   ·have h9:(k6 == 2)=true:=by simp [h]
    rw [if_pos h,h9];rfl
   ·have h9:(k6 == 2)=false:=by simp [h]
    rw [if_neg h,h9];rfl)
 clear hvb hcb hob hgb hzb hb3 c0 f0 l0 c1 f1 l1 c2 f2 l2 y0 y1 y2 y3 y4 y5 y6 y7;obtain ⟨bq,hbq⟩:∃ q,(bb && (k6 == 2))=q:=⟨_,rfl⟩
 obtain ⟨tq,htq⟩:∃ q,(n6 == 1)=q:=⟨_,rfl⟩
 have HBV:=aW (show Calls Tryz.prog 47 #[.agg #[Zi Zq k6,Zi Zq n6,Zt s6,Zs A6 na6 ca6,Zs B6 nb6 cb6,.bool bb]] w3 λ e w'=>e=.returned (.tuple #[.bool tq,.bool bq])/\Below w3.heap.size w3 w' by rw [← hbq,← htq];exact cU _ _ _ _ _ _ _ _ _ bb w3);rw [hbq,htq] at HOX;clear hbq htq;go_wp2_with fail;refine HBV.out.mono ?_;rintro e w4 ⟨rfl,hb4⟩;have HH4:=aW (HH3.out.keep hb4);clear hb4;cases bq with
 |false =>
  have HX:=aW (show op=none by rw [HOX.out];rfl);go_upto_region 54 with fail
  try simp only []
  go_step;go_step;go_step;go_step;refine bS rfl 40 4 194 rfl (w.heap.size+1) 0 #[Zi Zq 0,Zi Zq 0,Zt ⟨#[]⟩,Zs none 0 0,Zs none 0 0,.bool false] rfl rfl HH4.out.b1.there ?_;have HBR:=aW (HH4.out.b1.set6C (Zi Zq 0) (Zi Zq 0) (Zt ⟨#[]⟩) (Zs none 0 0) (Zs none 0 0) (.bool false));have HPT:=aW (show IsP op F w (.returned (.agg #[Zi Zq 0,Zi Zq 0,Zt ⟨#[]⟩,Zs none 0 0,Zs none 0 0,.bool false])) (w4.setCells (w.heap.size+1) 0 [Zi Zq 0,Zi Zq 0,Zt ⟨#[]⟩,Zs none 0 0,Zs none 0 0,.bool false]) from IsP.nilC HX.out HH4.out.1);obtain ⟨WG,hWG⟩:∃ W',w4.setCells (w.heap.size+1) 0 [Zi Zq 0,Zi Zq 0,Zt ⟨#[]⟩,Zs none 0 0,Zs none 0 0,.bool false]=W':=⟨_,rfl⟩
  rw [hWG] at HBR HPT
  try simp only []
  rw [hWG];clear hWG;obtain ⟨cR,fR,lR⟩:=HBR.out.rules;go_wp2_with ((with_reducible refine bodyPost_ret (v:=.agg #[Zi Zq 0,Zi Zq 0,Zt ⟨#[]⟩,Zs none 0 0,Zs none 0 0,.bool false]) ?_ rfl ?_);(simp only [results,Tryz.results17];go_simp);exact HPT.out)
 | true =>
 have HX:=aW (show op=some (aG tq) by rw [HOX.out];rfl);have HTR:=aW (λ W=>bZ tq W);go_upto_region 55 with fail;go_wp2_with fail;refine (HTR.out _).mono ?_;rintro e w5 ⟨rfl,hb5⟩;have HH5:=aW (HH4.out.keep hb5);clear hb5
 try simp only []
 go_step;refine bS rfl 40 4 196 rfl (w.heap.size+1) 0 #[Zi Zq 2,Zi Zq (if tq=true then 1 else 0),Zt ⟨#[]⟩,Zs none 0 0,Zs none 0 0,.bool true] rfl rfl HH5.out.b1.there ?_;have HBR:=aW (HH5.out.b1.set6C (Zi Zq 2) (Zi Zq (if tq=true then 1 else 0)) (Zt ⟨#[]⟩) (Zs none 0 0) (Zs none 0 0) (.bool true));have HPT:=aW (show IsP op F w (.returned (.agg #[Zi Zq 2,Zi Zq (if tq=true then 1 else 0),Zt ⟨#[]⟩,Zs none 0 0,Zs none 0 0,.bool true])) (w5.setCells (w.heap.size+1) 0 [Zi Zq 2,Zi Zq (if tq=true then 1 else 0),Zt ⟨#[]⟩,Zs none 0 0,Zs none 0 0,.bool true]) from aM (s:=[]) HX.out (df tq) (aw (by unfold iw;omega) (by unfold iw;split<;>omega) (by simp)) HFF.out HH5.out.1);obtain ⟨WG,hWG⟩:∃ W',w5.setCells (w.heap.size+1) 0 [Zi Zq 2,Zi Zq (if tq=true then 1 else 0),Zt ⟨#[]⟩,Zs none 0 0,Zs none 0 0,.bool true]=W':=⟨_,rfl⟩
 rw [hWG] at HBR HPT
 try simp only []
 rw [hWG];clear hWG;obtain ⟨cR,fR,lR⟩:=HBR.out.rules;go_wp2_with ((with_reducible refine bodyPost_ret (v:=.agg #[Zi Zq 2,Zi Zq (if tq=true then 1 else 0),Zt ⟨#[]⟩,Zs none 0 0,Zs none 0 0,.bool true]) ?_ rfl ?_);(simp only [results,Tryz.results17];go_simp);exact HPT.out)
end
end Go.Proofs.YtgolomgmnanbpaaGreatDoor
