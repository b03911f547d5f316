import Derived.Test.YtgolomgmnanbpaaGreatDoorW36
import Derived.Test.YtgolomgmnanbpaaGreatDoorW01
import Derived.Test.YtgolomgmnanbpaaGreatDoorW38
set_option maxRecDepth 100000
set_option maxHeartbeats 16000000
namespace Go.Proofs.YtgolomgmnanbpaaGreatDoor
set_option linter.unusedVariables false
set_option linter.unusedSimpArgs false
open Go.RowKit
attribute [local go_sem] run_index_arr run_part_agg run_part_one run_field_agg
theorem rEv5 {env:List (List UInt8 × JV)} {v:JV} {s:List UInt8} {ya yb:EJ} {cs:List Value} {EA:Option Addr} {n ec:Nat} {F:Nat→Prop} {w:World} (hF:∀ b,F b→b<w.heap.size) (hx:ER w F cs (.mk 5 v s [ya])) (hcx:camE (.mk 5 v s [ya]))
  (ka:KidR EA n ec F env w ya) (kb:KidR EA n ec F env w yb) (oa ob:Option JV) (hoa:evE env ya=oa) (hob:evE env yb=ob) (op:Option JV) (hop:combJ env 5 v s [oa]=op) :
  Calls Tryz.prog 17 #[.agg cs.toArray,.slice EA n ec] w (IsP op F w):=by
 obtain ⟨k1,n1,s1,A1,na1,ca1,B1,nb1,cb1,A,ca,css0,rfl,hv,h1,h2,h3,h4⟩:=hx.out;obtain ⟨b,o,kx,px,nx,sx,Ax,nax,cax,Bx,nbx,cbx,zx,Cx,ncx,ccx,rfl,hb,hER,hz⟩:=kid_cellsE h1 h4 (i:=0) (x:=ya) rfl;have HKA:=aW (fun (W:World) (h:Below w.heap.size w W)=>ka W _ h (hER.bel h));rw [hoa] at HKA;obtain ⟨nr,hnr⟩:∃ q:Nat,1=q:=⟨_,rfl⟩
 have hnr1:0<nr:=by omega
 have HFF:=aW hF;have HOP:=aW hop;have HVS:=aW hv;have HH0:=aW (((Held.nil w).push 28 #[.int .i64 5,.int .i64 k1,.int .i64 n1,.string s1,.slice A1 na1 ca1,.slice B1 nb1 cb1,.string ⟨s.toArray⟩,.slice (some ⟨b,o,none⟩) nr ca] (g:=w.heap.size) rfl).push 40 #[.int .i64 0,.int .i64 0,.string ⟨#[]⟩,.slice none 0 0,.slice none 0 0,.bool false] (g:=w.heap.size+1) (by simp));obtain ⟨z0,z1,z2,z3,z4,z5,z6,z7⟩:=hz _ HH0.out.1;rw [zeroC0] at z0 z1 z2 z3 z4 z5 z6 z7;have hlb:b<w.heap.size:=hb;have hlb2:b≠w.heap.size+1:=by omega
 rw [show ([ya]:List EJ).length=nr from hnr];obtain ⟨c0,f0,l0⟩:=HH0.out.b1.rules;clear hF hx hcx hv h1 h2 h3 h4 hER hz hb hoa hob hop hnr ka kb;go_enter Tryz.func17,Tryz.ntmps17;go_wp2_with fail;refine (HKA.out _ HH0.out.1).mono ?_;rintro e w1 ⟨k5,n5,s5,A5,na5,ca5,B5,nb5,cb5,va,ba,rfl,hva,hca,hoa,hga,hza,hb1⟩;obtain ⟨WA,hWA⟩:∃ W,w1.alloc (.cells #[.int .i64 k5,.int .i64 n5,.string s5,.slice A5 na5 ca5,.slice B5 nb5 cb5,.bool ba] 40)=W:=⟨_,rfl⟩
 have HWA:=aW hWA;have HH1:=aW (show Held [(w1.heap.size,40,#[.int .i64 k5,.int .i64 n5,.string s5,.slice A5 na5 ca5,.slice B5 nb5 cb5,.bool ba]),(w.heap.size+1,40,#[.int .i64 0,.int .i64 0,.string ⟨#[]⟩,.slice none 0 0,.slice none 0 0,.bool false]),(w.heap.size,28,#[.int .i64 5,.int .i64 k1,.int .i64 n1,.string s1,.slice A1 na1 ca1,.slice B1 nb1 cb1,.string ⟨s.toArray⟩,.slice (some ⟨b,o,none⟩) nr ca])] w WA by rw [← hWA];exact (HH0.out.keep hb1).push 40 #[.int .i64 k5,.int .i64 n5,.string s5,.slice A5 na5 ca5,.slice B5 nb5 cb5,.bool ba] (g:=w1.heap.size) rfl);have HW1:=aW (show Below w1.heap.size w1 WA by rw [← hWA];exact (Below.refl _ w1).alloc (Nat.le_refl _) _);have HVA:=aW (fun (W:World) (h:Below w1.heap.size w1 W)=>IsP.val (w:=w) (by simp) hva h);have HQA:=aW (And.intro hca (And.intro hoa (And.intro hga hza)));have hs1:w.heap.size+2≤w1.heap.size:=by have:=hb1.size;simpa using this
 have hn1:w1.heap.size≠w.heap.size+1:=by omega
 have hn2:w1.heap.size≠w.heap.size:=by omega
 clear hWA hva hca hoa hga hza hb1 c0 f0 l0 z0 z1 z2 z3 z4 z5 z6 z7 HKA;go_upto_region 24 with fail;rw [HWA.out];clear HWA;obtain ⟨c0,f0,l0⟩:=HH1.out.b2.rules;obtain ⟨c1,f1,l1⟩:=HH1.out.b1.rules;obtain ⟨c2,f2,l2⟩:=HH1.out.b0.rules;cases ba with
 | false =>
  have HX:=aW (show op=none by rw [← HOP.out,HQA.out.2.1];rfl);go_upto_region 25 with fail
  try simp only []
  go_step;go_step;go_step;go_step;refine wpList_store_mid rfl 40 (.tmp 4) (.tmp 98) rfl (w.heap.size+1) 0 #[.int .i64 0,.int .i64 0,.string ⟨#[]⟩,.slice none 0 0,.slice none 0 0,.bool false] rfl rfl HH1.out.b1.there (by kernel_rfl) (by first | kernel_rfl | simp [Value.oneCell']) ?_;have HBR:=aW (HH1.out.b1.set6C (.int .i64 0) (.int .i64 0) (.string ⟨#[]⟩) (.slice none 0 0) (.slice none 0 0) (.bool false));have HPT:=aW (show IsP op F w (.returned (.agg #[.int .i64 0,.int .i64 0,.string ⟨#[]⟩,.slice none 0 0,.slice none 0 0,.bool false])) (WA.setCells (w.heap.size+1) 0 [.int .i64 0,.int .i64 0,.string ⟨#[]⟩,.slice none 0 0,.slice none 0 0,.bool false]) from IsP.nilC HX.out HH1.out.1);obtain ⟨WG,hWG⟩:∃ W',WA.setCells (w.heap.size+1) 0 [.int .i64 0,.int .i64 0,.string ⟨#[]⟩,.slice none 0 0,.slice none 0 0,.bool false]=W':=⟨_,rfl⟩
  rw [hWG] at HBR HPT
  try simp only []
  rw [hWG];clear hWG;obtain ⟨cR,fR,lR⟩:=HBR.out.rules;go_wp2_with ((with_reducible refine bodyPost_ret (v:=.agg #[.int .i64 0,.int .i64 0,.string ⟨#[]⟩,.slice none 0 0,.slice none 0 0,.bool false]) ?_ rfl ?_);(simp only [results,Tryz.results17];go_simp);exact HPT.out)
 | true =>
 have HOA:=aW (show oa=some va from HQA.out.2.1);have HGA:=aW (HQA.out.2.2.1 rfl);have HCA:=aW HQA.out.1;clear HQA;go_wp2_with fail;refine (rBoolV _ _ _ _ _ _ _ _ _ _ _).mono ?_;rintro e w2 ⟨rfl,hb2⟩;have HH2:=aW (HH1.out.keep hb2);have HW2:=aW (HW1.out.trans (hb2.mono HW1.out.size));clear hb2 c0 f0 l0 c1 f1 l1 c2 f2 l2;obtain ⟨c0,f0,l0⟩:=HH2.out.b2.rules;obtain ⟨c1,f1,l1⟩:=HH2.out.b1.rules;obtain ⟨c2,f2,l2⟩:=HH2.out.b0.rules;have HBO:=aW (show op=(if k5=2 then some (jBool (!decide (n5=1))) else none) by
  rw [← HOP.out,HOA.out];obtain ⟨vk,vn,vs,vks,vys⟩:=va;obtain ⟨_,_,_,_,_,e,_⟩:=(HVA.out _ (Below.refl _ _)).out;injection e with e1 e;injection e with e2 e
  injection e1 with _ e1;injection e2 with _ e2
  subst e1 e2;show (isB (some (.mk k5 n5 vs vks vys))).map (fun b=>jBool (!b))=_
  unfold isB;show Option.map (fun b=>jBool (!b)) (if k5=2 then some (decide (n5=1)) else none)=_
  split<;>rfl)
 by_cases hk2:k5=2;rotate_left
 ·have e2:(k5 == 2)=false:=by simp [hk2]
  have HX:=aW (show op=none by rw [HBO.out,if_neg hk2]);clear hk2 HBO;go_upto_region 35 with fail
  try simp only []
  go_step;go_step;go_step;go_step;refine wpList_store_mid rfl 40 (.tmp 4) (.tmp 125) rfl (w.heap.size+1) 0 #[.int .i64 0,.int .i64 0,.string ⟨#[]⟩,.slice none 0 0,.slice none 0 0,.bool false] rfl rfl HH2.out.b1.there (by kernel_rfl) (by first | kernel_rfl | simp [Value.oneCell']) ?_;have HBR:=aW (HH2.out.b1.set6C (.int .i64 0) (.int .i64 0) (.string ⟨#[]⟩) (.slice none 0 0) (.slice none 0 0) (.bool false));have HPT:=aW (show IsP op F w (.returned (.agg #[.int .i64 0,.int .i64 0,.string ⟨#[]⟩,.slice none 0 0,.slice none 0 0,.bool false])) (w2.setCells (w.heap.size+1) 0 [.int .i64 0,.int .i64 0,.string ⟨#[]⟩,.slice none 0 0,.slice none 0 0,.bool false]) from IsP.nilC HX.out HH2.out.1);obtain ⟨WG,hWG⟩:∃ W',w2.setCells (w.heap.size+1) 0 [.int .i64 0,.int .i64 0,.string ⟨#[]⟩,.slice none 0 0,.slice none 0 0,.bool false]=W':=⟨_,rfl⟩
  rw [hWG] at HBR HPT
  try simp only []
  rw [hWG];clear hWG;obtain ⟨cR,fR,lR⟩:=HBR.out.rules;go_wp2_with ((with_reducible refine bodyPost_ret (v:=.agg #[.int .i64 0,.int .i64 0,.string ⟨#[]⟩,.slice none 0 0,.slice none 0 0,.bool false]) ?_ rfl ?_);(simp only [results,Tryz.results17];go_simp);exact HPT.out)
 have e2:(k5 == 2)=true:=by simp [hk2]
 have HX:=aW (show op=some (jBool (!(n5 == 1))) by rw [HBO.out,if_pos hk2];rfl);clear hk2 HBO;obtain ⟨t,ht⟩:∃ t,(!(n5 == 1))=t:=⟨_,rfl⟩
 have HTR:=aW (fun W=>rTruthV t W);rw [ht] at HX;go_upto_region 36 with fail;go_wp2_with fail;refine (HTR.out _).mono ?_;rintro e w3 ⟨rfl,hb3⟩;have HH3:=aW (HH2.out.keep hb3);clear hb3 ht c0 f0 l0 c1 f1 l1 c2 f2 l2
 try simp only []
 go_step;refine wpList_store_mid rfl 40 (.tmp 4) (.tmp 128) rfl (w.heap.size+1) 0 #[.int .i64 2,.int .i64 (if t=true then 1 else 0),.string ⟨#[]⟩,.slice none 0 0,.slice none 0 0,.bool true] rfl rfl HH3.out.b1.there (by kernel_rfl) (by first | kernel_rfl | simp [Value.oneCell']) ?_;have HBR:=aW (HH3.out.b1.set6C (.int .i64 2) (.int .i64 (if t=true then 1 else 0)) (.string ⟨#[]⟩) (.slice none 0 0) (.slice none 0 0) (.bool true));have HPT:=aW (show IsP op F w (.returned (.agg #[.int .i64 2,.int .i64 (if t=true then 1 else 0),.string ⟨#[]⟩,.slice none 0 0,.slice none 0 0,.bool true])) (w3.setCells (w.heap.size+1) 0 [.int .i64 2,.int .i64 (if t=true then 1 else 0),.string ⟨#[]⟩,.slice none 0 0,.slice none 0 0,.bool true]) from atomJ_put (s:=[]) HX.out (good_bool t) (came_atom (by unfold iw;omega) (by unfold iw;split<;>omega) (by simp)) HFF.out HH3.out.1);obtain ⟨WG,hWG⟩:∃ W',w3.setCells (w.heap.size+1) 0 [.int .i64 2,.int .i64 (if t=true then 1 else 0),.string ⟨#[]⟩,.slice none 0 0,.slice none 0 0,.bool true]=W':=⟨_,rfl⟩
 rw [hWG] at HBR HPT
 try simp only []
 rw [hWG];clear hWG;obtain ⟨cR,fR,lR⟩:=HBR.out.rules;go_wp2_with ((with_reducible refine bodyPost_ret (v:=.agg #[.int .i64 2,.int .i64 (if t=true then 1 else 0),.string ⟨#[]⟩,.slice none 0 0,.slice none 0 0,.bool true]) ?_ rfl ?_);(simp only [results,Tryz.results17];go_simp);exact HPT.out)
set_option linter.unusedVariables false
set_option linter.unusedSimpArgs false
open Go.RowKit
attribute [local go_sem] run_index_arr run_part_agg run_part_one run_field_agg
theorem look_no:∀ {env:List (List UInt8 × JV)} {s:List UInt8},(∀ x ∈ env,x.1≠s)→lookJ env s=none
 | [],s,_=>rfl
 | (t,z)::r,s,h=>by
  unfold lookJ;rw [look_no fun x hx=>h x (List.mem_cons_of_mem _ hx)];have h9:¬ t=s:=h (t,z) List.mem_cons_self;simp [h9]
theorem look_at:∀ {env:List (List UInt8 × JV)} {i:Nat} {s:List UInt8} {u:JV},env[i]? = some (s,u)→(∀ (j:Nat) x,i<j→env[j]? = some x→x.1≠s)→lookJ env s=some u
 | (t,z)::r,0,s,u,h,hn=>by
  obtain ⟨rfl,rfl⟩:t=s∧z=u:=by simpa using h
  have:lookJ r t=none:=look_no fun x hx=>by
   obtain ⟨j,hj,rfl⟩:=List.getElem_of_mem hx;exact hn (j+1) _ (by omega) (by rw [List.getElem?_cons_succ];exact List.getElem?_eq_getElem hj)
  unfold lookJ;rw [this];simp
 | (t,z)::r,i+1,s,u,h,hn=>by
  have ih:=look_at (env:=r) (i:=i) (s:=s) (u:=u) (by simpa using h) (fun j x hj hx=>hn (j+1) x (by omega) (by simpa using hx));unfold lookJ;rw [ih]
theorem rEv2 {env:List (List UInt8 × JV)} {v:JV} {s:List UInt8} {ya yb:EJ} {cs:List Value} {EA:Option Addr} {n ec:Nat} {F:Nat→Prop} {w:World} (hF:∀ b,F b→b<w.heap.size) (hx:ER w F cs (.mk 2 v s [])) (hcx:camE (.mk 2 v s [])) {ecs:List (List Value)} (hE:BnRs w F ecs env) (hR:RdF w F EA ecs.flatten) (hn:env.length=n) (hl:n≤4194304) (hce:∀ b ∈ env,Came b.2∧good b.2=true) (op:Option JV) (hop:combJ env 2 v s []=op) :
  Calls Tryz.prog 17 #[.agg cs.toArray,.slice EA n ec] w (IsP op F w):=by
 obtain ⟨k1,n1,s1,A1,na1,ca1,B1,nb1,cb1,A,ca,css0,rfl,hv,h1,h2,h3,h4⟩:=hx.out;have HFF:=aW hF;have HOP:=aW hop;have HVS:=aW hv;have HH0:=aW (((Held.nil w).push 28 #[.int .i64 2,.int .i64 k1,.int .i64 n1,.string s1,.slice A1 na1 ca1,.slice B1 nb1 cb1,.string ⟨s.toArray⟩,.slice A 0 ca] (g:=w.heap.size) rfl).push 40 #[.int .i64 0,.int .i64 0,.string ⟨#[]⟩,.slice none 0 0,.slice none 0 0,.bool false] (g:=w.heap.size+1) (by simp));obtain ⟨W0,hW0⟩:∃ W,(w.alloc (.cells #[.int .i64 2,.int .i64 k1,.int .i64 n1,.string s1,.slice A1 na1 ca1,.slice B1 nb1 cb1,.string ⟨s.toArray⟩,.slice A 0 ca] 28)).alloc (.cells #[.int .i64 0,.int .i64 0,.string ⟨#[]⟩,.slice none 0 0,.slice none 0 0,.bool false] 40)=W:=⟨_,rfl⟩
 have HHW:=aW (show Held [(w.heap.size+1,40,#[.int .i64 0,.int .i64 0,.string ⟨#[]⟩,.slice none 0 0,.slice none 0 0,.bool false]),(w.heap.size,28,#[.int .i64 2,.int .i64 k1,.int .i64 n1,.string s1,.slice A1 na1 ca1,.slice B1 nb1 cb1,.string ⟨s.toArray⟩,.slice A 0 ca])] w W0 by rw [← hW0];exact HH0.out);have HW0:=aW hW0;clear hW0 HH0;obtain ⟨sb,hsb⟩:∃ b:ByteArray,(⟨s.toArray⟩:ByteArray)=b:=⟨_,rfl⟩
 rw [hsb] at HHW HW0 ⊢;have HSB:=aW hsb;clear hsb;have HE:=aW (And.intro hE hR);have HN:=aW (And.intro hn hce);have HX0:=aW (show op=lookJ env s by rw [← HOP.out];rfl);clear hF hx hcx hv h1 h2 h3 h4 hop hE hR hn hce;go_enter Tryz.func17,Tryz.ntmps17;go_upto_region 1 with fail;rw [HW0.out];obtain ⟨c0,f0,l0⟩:=HHW.out.b1.rules;go_upto_region 6 with fail;go_loopg [5] n (fun gk s5 wr => ∃ (i:Nat),i≤n∧gk=i∧s5=.int .i64 (i:Int)∧Hid (Held [(w.heap.size+1,40,#[.int .i64 0,.int .i64 0,.string ⟨#[]⟩,.slice none 0 0,.slice none 0 0,.bool false]),(w.heap.size,28,#[.int .i64 2,.int .i64 k1,.int .i64 n1,.string s1,.slice A1 na1 ca1,.slice B1 nb1 cb1,.string sb,.slice A 0 ca])] w wr)∧Hid (∀ (j:Nat) x,i≤j→env[j]? = some x→x.1≠s))
 case atStart=>exact ⟨n,Nat.le_refl _,rfl,rfl,HHW,aW (fun j x hj hx=>by have:=(List.getElem?_eq_some_iff.1 hx).1;rw [HN.out.1] at this;omega)⟩
 case round =>
  obtain ⟨i,hin,hgk,rfl,HH,HNO⟩:=hrel;have HGK:=aW hgk;clear c0 f0 l0 hgk;obtain ⟨c0,f0,l0⟩:=HH.out.b1.rules;cases i with
  | zero =>
   have HX:=aW (show op=none by
    rw [HX0.out,look_no];intro x hx;obtain ⟨j,hj,rfl⟩:=List.getElem_of_mem hx;exact HNO.out j _ (Nat.zero_le _) (List.getElem?_eq_getElem hj))
   go_upto_region 10 with fail
   try simp only []
   go_step;go_step;go_step;go_step;refine wpList_store_mid rfl 40 (.tmp 4) (.tmp 54) rfl (w.heap.size+1) 0 #[.int .i64 0,.int .i64 0,.string ⟨#[]⟩,.slice none 0 0,.slice none 0 0,.bool false] rfl rfl HH.out.b0.there (by kernel_rfl) (by first | kernel_rfl | simp [Value.oneCell']) ?_;have HBR:=aW (HH.out.b0.set6C (.int .i64 0) (.int .i64 0) (.string ⟨#[]⟩) (.slice none 0 0) (.slice none 0 0) (.bool false));have HPT:=aW (show IsP op F w (.returned (.agg #[.int .i64 0,.int .i64 0,.string ⟨#[]⟩,.slice none 0 0,.slice none 0 0,.bool false])) (wr.setCells (w.heap.size+1) 0 [.int .i64 0,.int .i64 0,.string ⟨#[]⟩,.slice none 0 0,.slice none 0 0,.bool false]) from IsP.nilC HX.out HH.out.1);obtain ⟨WG,hWG⟩:∃ W',wr.setCells (w.heap.size+1) 0 [.int .i64 0,.int .i64 0,.string ⟨#[]⟩,.slice none 0 0,.slice none 0 0,.bool false]=W':=⟨_,rfl⟩
   rw [hWG] at HBR HPT
   try simp only []
   rw [hWG];clear hWG;obtain ⟨cR,fR,lR⟩:=HBR.out.rules;go_wp2_with ((with_reducible refine bodyPost_ret (v:=.agg #[.int .i64 0,.int .i64 0,.string ⟨#[]⟩,.slice none 0 0,.slice none 0 0,.bool false]) ?_ rfl ?_);(simp only [results,Tryz.results17];go_simp);exact HPT.out)
  | succ i =>
   obtain ⟨⟨xs,xv⟩,hx⟩:∃ x,env[i]? = some x:=⟨_,List.getElem?_eq_getElem (by rw [HN.out.1];omega)⟩
   obtain ⟨bb,oo,k6,n6,s6,A6,na6,ca6,B6,nb6,cb6,rfl,hbb,hFb,hvb,hz⟩:=kid_cellsB HE.out.1 HE.out.2 hx;obtain ⟨z0,z1,z2,z3,z4,z5⟩:=hz wr (KeepF.of_below HH.out.1);have HZ:=aW hz;have HVB:=aW hvb;have HXM:=aW (HN.out.2 _ (List.mem_of_getElem? hx));have HXI:=aW hx;have hlb:bb<wr.heap.size:=Nat.lt_of_lt_of_le hbb HH.out.1.size;have hbn:bb≠w.heap.size+1:=by have:=HFF.out bb hFb;omega
   have hwi:IntKind.i64.wrap (((i+1:Nat):Int)-1)=(i:Int):=by rw [IntKind.wrap_i64];omega
   have hi0:(0:Int)<((i+1:Nat):Int):=by omega
   have hi1:(i:Int)<(n:Int):=by omega
   have hi2:(0:Int)≤(i:Int):=by omega
   obtain ⟨xb,hxb⟩:∃ b:ByteArray,(⟨xs.toArray⟩:ByteArray)=b:=⟨_,rfl⟩
   have hse:(xb.toList == sb.toList)=decide (xs=s):=by rw [← hxb,← HSB.out];exact str_two
   obtain ⟨i1,hi3⟩:∃ q:Int,((i+1:Nat):Int)=q:=⟨_,rfl⟩
   rw [hi3] at hwi hi0 ⊢;have HI3:=aW hi3;replace z0:wr.cell? ⟨bb,oo+i*6,none⟩=some (.string xb):=by rw [← hxb];exact z0
   clear hz hvb hx hbb hFb hxb hi3;go_upto_region 8 with fail;by_cases hxs:xs=s
   ·rw [decide_eq_true hxs] at hse;have HX:=aW (show op=some xv by
     rw [HX0.out];refine look_at (i:=i) (by rw [HXI.out,hxs]) fun j x hj hx=>HNO.out j x (by omega) hx)
    clear hxs;go_quiet (fail);clear c0 f0 l0;obtain ⟨c0,f0,l0⟩:=HH.out.b1.rules;go_upto_region 9 with fail;go_wp2_with fail;refine (rSomeV _ _ _ _ _ _ _ _ _ _).mono ?_;rintro e w5 ⟨rfl,hb5⟩;have HH5:=aW ((HH.out.drewN _).keep hb5);have HVV:=aW ((HVB.out.bel HH5.out.1).mono (F':=fun b=>F b∨w.heap.size+2≤b) fun b _ h=>.inl h);clear hb5 c0 f0 l0 z0 z1 z2 z3 z4 z5 hse
    try simp only []
    go_step;refine wpList_store_mid rfl 40 (.tmp 4) (.tmp 53) rfl (w.heap.size+1) 0 #[.int .i64 k6,.int .i64 n6,.string s6,.slice A6 na6 ca6,.slice B6 nb6 cb6,.bool true] rfl rfl HH5.out.b0.there (by kernel_rfl) (by first | kernel_rfl | simp [Value.oneCell']) ?_;have HBR:=aW (HH5.out.b0.set6C (.int .i64 k6) (.int .i64 n6) (.string s6) (.slice A6 na6 ca6) (.slice B6 nb6 cb6) (.bool true));have HPT:=aW (show IsP op F w (.returned (.agg #[.int .i64 k6,.int .i64 n6,.string s6,.slice A6 na6 ca6,.slice B6 nb6 cb6,.bool true])) (w5.setCells (w.heap.size+1) 0 [.int .i64 k6,.int .i64 n6,.string s6,.slice A6 na6 ca6,.slice B6 nb6 cb6,.bool true]) from IsP.put HX.out HXM.out.2 HXM.out.1 HFF.out HVV.out HH5.out.1);obtain ⟨WG,hWG⟩:∃ W',w5.setCells (w.heap.size+1) 0 [.int .i64 k6,.int .i64 n6,.string s6,.slice A6 na6 ca6,.slice B6 nb6 cb6,.bool true]=W':=⟨_,rfl⟩
    rw [hWG] at HBR HPT
    try simp only []
    rw [hWG];clear hWG;obtain ⟨cR,fR,lR⟩:=HBR.out.rules;go_wp2_with ((with_reducible refine bodyPost_ret (v:=.agg #[.int .i64 k6,.int .i64 n6,.string s6,.slice A6 na6 ca6,.slice B6 nb6 cb6,.bool true]) ?_ rfl ?_);(simp only [results,Tryz.results17];go_simp);exact HPT.out)
   ·rw [decide_eq_false hxs] at hse;have HN2:=aW (show ∀ (j:Nat) x,i≤j→env[j]? = some x→x.1≠s from fun j x hj hx=>by
     rcases Nat.lt_or_ge i j with h | h
     ·exact HNO.out j x (by omega) hx
     ·obtain rfl:j=i:=by omega
      rw [HXI.out] at hx;obtain rfl:=Option.some.inj hx;exact hxs)
    clear hxs;go_quiet (fail);go_wp2;go_roundg i
    case measure=>have:=HGK.out;omega
    case rel=>exact ⟨i,by omega,rfl,by first | rfl | go_num,aW (HH.out.drewN _),HN2⟩
set_option linter.unusedVariables false
set_option linter.unusedSimpArgs false
open Go.RowKit
attribute [local go_sem] run_index_arr run_part_agg run_part_one run_field_agg
theorem rEv4 {env:List (List UInt8 × JV)} {v:JV} {s:List UInt8} {kids:List EJ} {cs:List Value} {EA:Option Addr} {n ec:Nat} {F:Nat→Prop} {w:World} (hF:∀ b,F b→b<w.heap.size) (hx:ER w F cs (.mk 4 v s kids)) (hk:∀ y ∈ kids,KidR EA n ec F env w y) (hl:kids.length≤16000)
  (op:Option JV) (hop:combJ env 4 v s (kids.map (evE env))=op) :
  Calls Tryz.prog 17 #[.agg cs.toArray,.slice EA n ec] w (IsP op F w):=by
 obtain ⟨k1,n1,s1,A1,na1,ca1,B1,nb1,cb1,A,ca,css0,rfl,hv,h1,h2,h3,h4⟩:=hx.out;have HKD:=aW (And.intro h1 h4);have HKC:=aW hk;obtain ⟨nr,hnr⟩:∃ q,kids.length=q:=⟨_,rfl⟩
 have HNR:=aW hnr;rw [hnr] at h2 hl ⊢;have HFF:=aW hF;have HOP:=aW (show op=(match allS (kids.map (evE env)) with | some xs=>if good (jArr xs)=true then some (jArr xs) else none | none=>none) by rw [← hop];rfl);obtain ⟨i0,hi,hz0,hz1,hz2⟩:=info_parts infoVal9;have HI:=aW hi;have HH0:=aW ((((Held.nil w).push 28 #[.int .i64 4,.int .i64 k1,.int .i64 n1,.string s1,.slice A1 na1 ca1,.slice B1 nb1 cb1,.string ⟨s.toArray⟩,.slice A nr ca] (g:=w.heap.size) rfl).push 40 #[.int .i64 0,.int .i64 0,.string ⟨#[]⟩,.slice none 0 0,.slice none 0 0,.bool false] (g:=w.heap.size+1) (by simp)).push 25 #[.int .i64 5,.int .i64 0,.string ⟨#[]⟩,.slice none 0 0,.slice none 0 0] (g:=w.heap.size+2) (by simp));obtain ⟨W0,hW0⟩:∃ W,((w.alloc (.cells #[.int .i64 4,.int .i64 k1,.int .i64 n1,.string s1,.slice A1 na1 ca1,.slice B1 nb1 cb1,.string ⟨s.toArray⟩,.slice A nr ca] 28)).alloc (.cells #[.int .i64 0,.int .i64 0,.string ⟨#[]⟩,.slice none 0 0,.slice none 0 0,.bool false] 40)).alloc (.cells #[.int .i64 5,.int .i64 0,.string ⟨#[]⟩,.slice none 0 0,.slice none 0 0] 25)=W:=⟨_,rfl⟩
 have HHW:=aW (show Held [(w.heap.size+2,25,#[.int .i64 5,.int .i64 0,.string ⟨#[]⟩,.slice none 0 0,.slice none 0 0]),(w.heap.size+1,40,#[.int .i64 0,.int .i64 0,.string ⟨#[]⟩,.slice none 0 0,.slice none 0 0,.bool false]),(w.heap.size,28,#[.int .i64 4,.int .i64 k1,.int .i64 n1,.string s1,.slice A1 na1 ca1,.slice B1 nb1 cb1,.string ⟨s.toArray⟩,.slice A nr ca])] w W0 by rw [← hW0];exact HH0.out);have HW0:=aW hW0;obtain ⟨c0,f0,l0⟩:=(((Held.nil w).push 28 #[.int .i64 4,.int .i64 k1,.int .i64 n1,.string s1,.slice A1 na1 ca1,.slice B1 nb1 cb1,.string ⟨s.toArray⟩,.slice A nr ca] (g:=w.heap.size) rfl).push 40 #[.int .i64 0,.int .i64 0,.string ⟨#[]⟩,.slice none 0 0,.slice none 0 0,.bool false] (g:=w.heap.size+1) (by simp)).b1.rules;clear hW0 HH0 hF hx hk hv h1 h2 h3 h4 hnr hop hi;go_enter Tryz.func17,Tryz.ntmps17;go_upto_region 13 with fail;rw [HW0.out];clear c0 f0 l0 HW0;go_upto_region 14 with fail;go_loopg [7] nr (fun gk s7 wr => ∃ (i:Nat) (RA:Option Addr) (rc:Nat) (xs:List JV) (css:List (List Value)),s7=.int .i64 (i:Int)∧i≤nr∧gk=nr-i∧Hid (Held [(w.heap.size+2,25,#[.int .i64 5,.int .i64 0,.string ⟨#[]⟩,.slice RA i rc,.slice none 0 0]),(w.heap.size+1,40,#[.int .i64 0,.int .i64 0,.string ⟨#[]⟩,.slice none 0 0,.slice none 0 0,.bool false]),(w.heap.size,28,#[.int .i64 4,.int .i64 k1,.int .i64 n1,.string s1,.slice A1 na1 ca1,.slice B1 nb1 cb1,.string ⟨s.toArray⟩,.slice A nr ca])] w wr)∧Hid (wr.ownsRow (w.heap.size+3) 25 5 (.slice RA i rc) i css.flatten)∧Hid (VRs wr (FO (fun b=>F b∨w.heap.size+3≤b) (.slice RA i rc)) css xs)∧Hid (xs.length=i∧(kids.take i).map (evE env)=xs.map some∧∀ x ∈ xs,Came x∧good x=true))
 case atStart=>exact ⟨0,none,0,[],[],rfl,Nat.zero_le _,by go_num,HHW,aW (World.ownsRow_nil _ _ _ _),aW VRs.nil,aW ⟨rfl,rfl,fun x hx=>by cases hx⟩⟩
 case round =>
  obtain ⟨i,RA,rc,xs,css,rfl,hin,hgk,HH,HO,HV,HX⟩:=hrel;have HGK:=aW hgk;clear hgk HHW;by_cases hlt:i<nr
  ·obtain ⟨x,hx⟩:∃ x,kids[i]? = some x:=⟨_,List.getElem?_eq_getElem (by rw [HNR.out];exact hlt)⟩
   have hxm:=List.mem_of_getElem? hx;obtain ⟨b,o,kx,px,nx,sx,Ax,nax,cax,Bx,nbx,cbx,zx,Cx,ncx,ccx,rfl,hb,hER,hz⟩:=kid_cellsE HKD.out.1 HKD.out.2 hx;obtain ⟨z0,z1,z2,z3,z4,z5,z6,z7⟩:=hz wr HH.out.1;have HTK:=aW (show kids.take (i+1)=kids.take i++[x] by rw [List.take_add_one,hx];rfl);have HXN:=aW (show evE env x=none→op=none from fun h0=>by rw [HOP.out,allS_none (List.mem_map.2 ⟨x,hxm,h0⟩)]);have HE:=aW (fun (W:World) (h:Below w.heap.size w W)=>HKC.out x hxm W _ h (hER.bel h));have hlb:b<wr.heap.size:=Nat.lt_of_lt_of_le hb HH.out.1.size;have hwr2:w.heap.size+3≤wr.heap.size:=HH.out.b0.lt;obtain ⟨c0,f0,l0⟩:=HH.out.b2.rules;clear hz hER hx hxm hb;go_wp2_with fail;refine (HE.out _ HH.out.1).mono ?_;rintro e w4 ⟨k5,n5,s5,A5,na5,ca5,B5,nb5,cb5,va,ba,rfl,hva,hca,hoa,hga,hza,hb4⟩;obtain ⟨W5,hW5⟩:∃ W5,w4.alloc (.cells #[.int .i64 k5,.int .i64 n5,.string s5,.slice A5 na5 ca5,.slice B5 nb5 cb5,.bool ba] 40)=W5:=⟨_,rfl⟩
   have h45:Below w4.heap.size w4 W5:=by rw [← hW5];exact (Below.refl _ w4).alloc (Nat.le_refl _) _
   have HP5:=aW (show Held ((w4.heap.size,40,#[.int .i64 k5,.int .i64 n5,.string s5,.slice A5 na5 ca5,.slice B5 nb5 cb5,.bool ba])::[(w.heap.size+2,25,#[.int .i64 5,.int .i64 0,.string ⟨#[]⟩,.slice RA i rc,.slice none 0 0]),(w.heap.size+1,40,#[.int .i64 0,.int .i64 0,.string ⟨#[]⟩,.slice none 0 0,.slice none 0 0,.bool false]),(w.heap.size,28,#[.int .i64 4,.int .i64 k1,.int .i64 n1,.string s1,.slice A1 na1 ca1,.slice B1 nb1 cb1,.string ⟨s.toArray⟩,.slice (some ⟨b,o,none⟩) nr ca])]) w W5 by rw [← hW5];exact (HH.out.keep hb4).push 40 #[.int .i64 k5,.int .i64 n5,.string s5,.slice A5 na5 ca5,.slice B5 nb5 cb5,.bool ba] (g:=w4.heap.size) rfl);have HO5:=aW (ownBel (ownBel HO.out hb4) h45);have HV5:=aW ((HV.out.below hb4).below h45);have HVA:=aW ((hva.mono (F':=fun b=>F b∨wr.heap.size≤b) fun b _ h=>h).bel h45);have HQ4:=aW (And.intro hca (And.intro hoa hga));have HS5:=aW (show W5.heap.size=w4.heap.size+1 by rw [← hW5];simp);have HSZ:=aW hb4.size;have HW5:=aW hW5;have HRW:=aW (fun (j:Nat) (e:(Value.slice RA i rc).ownBlock=some j)=>HO.out.lt j e);clear hva hca hoa hga hza hb4 h45 hW5 c0 f0 l0 z0 z1 z2 z3 z4 z5 z6 z7;go_upto_region 17 with fail;rw [HW5.out];clear HW5;obtain ⟨c0,f0,l0⟩:=HP5.out.b0.rules;obtain ⟨c1,f1,l1⟩:=HP5.out.b1.rules;cases ba with
   | false =>
    have HX:=aW (HXN.out (by rw [HQ4.out.2.1];rfl));go_upto_region 18 with fail
    try simp only []
    go_step;go_step;go_step;go_step;refine wpList_store_mid rfl 40 (.tmp 4) (.tmp 75) rfl (w.heap.size+1) 0 #[.int .i64 0,.int .i64 0,.string ⟨#[]⟩,.slice none 0 0,.slice none 0 0,.bool false] rfl rfl HP5.out.b2.there (by kernel_rfl) (by first | kernel_rfl | simp [Value.oneCell']) ?_;have HBR:=aW (HP5.out.b2.set6C (.int .i64 0) (.int .i64 0) (.string ⟨#[]⟩) (.slice none 0 0) (.slice none 0 0) (.bool false));have HPT:=aW (show IsP op F w (.returned (.agg #[.int .i64 0,.int .i64 0,.string ⟨#[]⟩,.slice none 0 0,.slice none 0 0,.bool false])) (W5.setCells (w.heap.size+1) 0 [.int .i64 0,.int .i64 0,.string ⟨#[]⟩,.slice none 0 0,.slice none 0 0,.bool false]) from IsP.nilC HX.out HP5.out.1);obtain ⟨WG,hWG⟩:∃ W',W5.setCells (w.heap.size+1) 0 [.int .i64 0,.int .i64 0,.string ⟨#[]⟩,.slice none 0 0,.slice none 0 0,.bool false]=W':=⟨_,rfl⟩
    rw [hWG] at HBR HPT
    try simp only []
    rw [hWG];clear hWG;obtain ⟨cR,fR,lR⟩:=HBR.out.rules;go_wp2_with ((with_reducible refine bodyPost_ret (v:=.agg #[.int .i64 0,.int .i64 0,.string ⟨#[]⟩,.slice none 0 0,.slice none 0 0,.bool false]) ?_ rfl ?_);(simp only [results,Tryz.results17];go_simp);exact HPT.out)
   | true =>
    have HXG:=aW (And.intro HQ4.out.1 (HQ4.out.2.2 (by first | rfl | trivial)));have HOE:=aW (show evE env x=some va by rw [HQ4.out.2.1];rfl);have hO6:=aW (HO5.out.alloc (.cells #[.int .i64 k5,.int .i64 n5,.string s5,.slice A5 na5 ca5,.slice B5 nb5 cb5] 25));have hR6:=aW (Rd.of_blk (Blk.new W5 25 #[.int .i64 k5,.int .i64 n5,.string s5,.slice A5 na5 ca5,.slice B5 nb5 cb5]));have H1C:=aW (show ∀ u ∈ ([.int .i64 k5,.int .i64 n5,.string s5,.slice A5 na5 ca5,.slice B5 nb5 cb5]:List Value),u.oneCell'=true from HVA.out.one);have HBS:=aW (show w.heap.size+3≤(W5.alloc (.cells #[.int .i64 k5,.int .i64 n5,.string s5,.slice A5 na5 ca5,.slice B5 nb5 cb5] 25)).heap.size by rw [World.size_alloc,HS5.out];have:=HSZ.out;omega);have HGF:=aW (fun (w6:World) (hg:(W5.alloc (.cells #[.int .i64 k5,.int .i64 n5,.string s5,.slice A5 na5 ca5,.slice B5 nb5 cb5] 25)).grownBy w6 (Value.slice RA i rc).ownBlock)=>show Held [(w.heap.size+2,25,#[.int .i64 5,.int .i64 0,.string ⟨#[]⟩,.slice RA i rc,.slice none 0 0]),(w.heap.size+1,40,#[.int .i64 0,.int .i64 0,.string ⟨#[]⟩,.slice none 0 0,.slice none 0 0,.bool false]),(w.heap.size,28,#[.int .i64 4,.int .i64 k1,.int .i64 n1,.string s1,.slice A1 na1 ca1,.slice B1 nb1 cb1,.string ⟨s.toArray⟩,.slice (some ⟨b,o,none⟩) nr ca])] w w6 from by
     refine ((HP5.out.pop).alloc _).grown hg (fun j e=>by have:=HRW.out j e;omega) (fun y hy e=>?_);simp only [List.mem_cons,List.not_mem_nil,or_false] at hy;rcases hy with rfl | rfl | rfl
     ·have:=(HRW.out _ e.symm).1;omega
     ·have:=(HRW.out _ e.symm).1;omega
     ·have:=(HRW.out _ e.symm).1;omega)
    go_upto_region 19 with fail;go_wp2_with (at_builtin;refine wpList_append_rd _ rfl _ _ 22 rfl (w.heap.size+3) 25 i0 _ 5 80 Tryz.underlying22 HI.out hz0 hz1 hz2 rfl (by decide) (.slice RA i rc) i css.flatten rfl hO6.out (some ⟨W5.heap.size,0,none⟩) 1 1 (fun h=>by cases h) [.int .i64 k5,.int .i64 n5,.string s5,.slice A5 na5 ca5,.slice B5 nb5 cb5] rfl rfl hR6.out H1C.out (by unfold maxLen;omega) (by omega) HBS.out ?_;intro row2 w6 hown6 hgr6 hob6;have HH6:=aW (HGF.out w6 hgr6);have HOW:=aW hown6;have HGR:=aW hgr6;have HOB:=aW hob6;obtain ⟨RA2,rc2,rfl,_⟩:=own_parts hown6;clear hown6 hgr6 hob6 c0 f0 l0 c1 f1 l1;obtain ⟨c6,f6,l6⟩:=HH6.out.b0.rules);have H7:=aW (show Held [(w.heap.size+2,25,#[.int .i64 5,.int .i64 0,.string ⟨#[]⟩,.slice RA2 (i+1) rc2,.slice none 0 0]),(w.heap.size+1,40,#[.int .i64 0,.int .i64 0,.string ⟨#[]⟩,.slice none 0 0,.slice none 0 0,.bool false]),(w.heap.size,28,#[.int .i64 4,.int .i64 k1,.int .i64 n1,.string s1,.slice A1 na1 ca1,.slice B1 nb1 cb1,.string ⟨s.toArray⟩,.slice (some ⟨b,o,none⟩) nr ca])] w (w6.setCell ⟨w.heap.size+2,3,none⟩ (.slice RA2 (i+1) rc2)) from HH6.out.set_ 3 (.slice RA2 (i+1) rc2) (by omega) (fun y hy=>by
     simp only [List.mem_cons,List.not_mem_nil,or_false] at hy;rcases hy with rfl | rfl
     ·show w.heap.size+1≠w.heap.size+2;omega
     ·show w.heap.size≠w.heap.size+2;omega))
    have HO7:=aW (show (w6.setCell ⟨w.heap.size+2,3,none⟩ (.slice RA2 (i+1) rc2)).ownsRow (w.heap.size+3) 25 5 (.slice RA2 (i+1) rc2) (i+1) (css++[([.int .i64 k5,.int .i64 n5,.string s5,.slice A5 na5 ca5,.slice B5 nb5 cb5]:List Value)]).flatten by
     rw [List.flatten_append,show ([[.int .i64 k5,.int .i64 n5,.string s5,.slice A5 na5 ca5,.slice B5 nb5 cb5]]:List (List Value)).flatten=[.int .i64 k5,.int .i64 n5,.string s5,.slice A5 na5 ca5,.slice B5 nb5 cb5] from rfl];exact HOW.out.kept (gb_setCell (gb_refl w6 (some (w.heap.size+2))) 3 _) (.inr (fun e=>by have:=(HOW.out.lt _ e).1;omega)))
    have HV7:=aW (show VRs (w6.setCell ⟨w.heap.size+2,3,none⟩ (.slice RA2 (i+1) rc2)) (FO (fun b=>F b∨w.heap.size+3≤b) (.slice RA2 (i+1) rc2)) (css++[([.int .i64 k5,.int .i64 n5,.string s5,.slice A5 na5 ca5,.slice B5 nb5 cb5]:List Value)]) (xs++[va]) from by
     refine VRs.keep (W:=w6) ?_ (KeepF.set KeepF.refl (fun k hk=>?_) 3 _)
     ·refine vrs_growG ?_ HGR.out HOB.out;refine (HV5.out.below ((Below.refl _ _).alloc (Nat.le_refl _) _)).snoc ((HVA.out.bel ((Below.refl _ _).alloc (Nat.le_refl _) _)).mono fun b' _ hb'=>?_);rcases hb' with hb' | hb'
      ·exact ⟨.inl hb',fun e=>by have:=HRW.out _ e.symm;have:=HFF.out _ hb';omega⟩
      ·exact ⟨.inr (by omega),fun e=>by have:=HRW.out _ e.symm;omega⟩
     ·rcases hk.1 with hk | hk
      ·have:=HFF.out _ hk;omega
      ·omega)
    have HX7:=aW (show (xs++[va]).length=i+1∧(kids.take (i+1)).map (evE env)=(xs++[va]).map some∧∀ x ∈ xs++[va],Came x∧good x=true from by
     obtain ⟨a1,a2,a3⟩:=HX.out;refine ⟨by rw [List.length_append,a1];rfl,by rw [HTK.out,List.map_append,a2,List.map_append];simp [HOE.out],fun y hy=>?_⟩;rcases List.mem_append.1 hy with hy | hy
     ·exact a3 y hy
     ·obtain rfl:y=va:=by simpa using hy
      exact HXG.out)
    clear c6 f6 l6;go_roundg (nr-(i+1))
    case measure=>have:=HGK.out;omega
    case rel=>exact ⟨i+1,RA2,rc2,_,_,by first | rfl | go_num,by omega,rfl,H7,HO7,HV7,HX7⟩
  ·obtain rfl:i=nr:=by omega
   obtain ⟨RA',rc',he,hrc,hrn,hrr⟩:=own_parts HO.out;injection he with he1 _ he2
   subst he1 he2;obtain ⟨a1,a2,a3⟩:=HX.out;have hall:kids.map (evE env)=xs.map some:=by rw [← a2,List.take_of_length_le (Nat.le_of_eq HNR.out)]
   have HOQ:=aW (show op=if good (jArr xs)=true then some (jArr xs) else none by rw [HOP.out,hall,allS_some]);have hcl:Came (jArr xs):=came_good a3 (by omega);have HCL:=aW hcl;have hvl:VR wr (fun b=>F b∨w.heap.size+3≤b) [.int .i64 5,.int .i64 0,.string ⟨#[]⟩,.slice RA i rc,.slice none 0 0] (jArr xs):=VR.into 5 0 [] (kids:=xs) (keys:=[]) (HV.out.mono fun b _ h=>h.1) (by rw [a1];exact hrc) (Nat.le_refl _) hrn (fun _=>rfl) (hrr.mono fun b _ h=>.inr h) RdF.nil a1.symm rfl;have HVL:=aW (fun (W:World) (h:Below wr.heap.size wr W)=>hvl.bel h);have HRI:=aW (rRightG (jArr xs) _ _ wr hvl hcl);obtain ⟨gg,hgg⟩:∃ q,good (jArr xs)=q:=⟨_,rfl⟩
   have HGG:=aW hgg;rw [hgg] at HRI HOQ;clear a1 a2 a3 hall hcl hvl hrc hrn hrr hgg;obtain ⟨c0,f0,l0⟩:=HH.out.b2.rules;obtain ⟨c1,f1,l1⟩:=HH.out.b0.rules;go_upto_region 20 with fail;go_wp2_with fail;refine HRI.out.mono ?_;rintro e w4 ⟨rfl,hb4⟩;have HH4:=aW (HH.out.keep hb4);have HW4:=aW hb4;clear hb4 c0 f0 l0 c1 f1 l1;obtain ⟨c1,f1,l1⟩:=HH4.out.b0.rules;cases gg with
   | false =>
    have HX:=aW (show op=none by rw [HOQ.out];rfl);go_upto_region 21 with fail
    try simp only []
    go_step;go_step;go_step;go_step;refine wpList_store_mid rfl 40 (.tmp 4) (.tmp 86) rfl (w.heap.size+1) 0 #[.int .i64 0,.int .i64 0,.string ⟨#[]⟩,.slice none 0 0,.slice none 0 0,.bool false] rfl rfl HH4.out.b1.there (by kernel_rfl) (by first | kernel_rfl | simp [Value.oneCell']) ?_;have HBR:=aW (HH4.out.b1.set6C (.int .i64 0) (.int .i64 0) (.string ⟨#[]⟩) (.slice none 0 0) (.slice none 0 0) (.bool false));have HPT:=aW (show IsP op F w (.returned (.agg #[.int .i64 0,.int .i64 0,.string ⟨#[]⟩,.slice none 0 0,.slice none 0 0,.bool false])) (w4.setCells (w.heap.size+1) 0 [.int .i64 0,.int .i64 0,.string ⟨#[]⟩,.slice none 0 0,.slice none 0 0,.bool false]) from IsP.nilC HX.out HH4.out.1);obtain ⟨WG,hWG⟩:∃ W',w4.setCells (w.heap.size+1) 0 [.int .i64 0,.int .i64 0,.string ⟨#[]⟩,.slice none 0 0,.slice none 0 0,.bool false]=W':=⟨_,rfl⟩
    rw [hWG] at HBR HPT
    try simp only []
    rw [hWG];clear hWG;obtain ⟨cR,fR,lR⟩:=HBR.out.rules;go_wp2_with ((with_reducible refine bodyPost_ret (v:=.agg #[.int .i64 0,.int .i64 0,.string ⟨#[]⟩,.slice none 0 0,.slice none 0 0,.bool false]) ?_ rfl ?_);(simp only [results,Tryz.results17];go_simp);exact HPT.out)
   | true =>
    have HX:=aW (show op=some (jArr xs) by rw [HOQ.out];rfl);go_upto_region 22 with fail;go_wp2_with fail;refine (rSomeV _ _ _ _ _ _ _ _ _ _).mono ?_;rintro e w5 ⟨rfl,hb5⟩;have HH5:=aW (HH4.out.keep hb5);have HW5:=aW (HW4.out.trans (hb5.mono HW4.out.size));clear hb5 c1 f1 l1
    try simp only []
    go_step;refine wpList_store_mid rfl 40 (.tmp 4) (.tmp 88) rfl (w.heap.size+1) 0 #[.int .i64 5,.int .i64 0,.string ⟨#[]⟩,.slice RA i rc,.slice none 0 0,.bool true] rfl rfl HH5.out.b1.there (by kernel_rfl) (by first | kernel_rfl | simp [Value.oneCell']) ?_;have HBR:=aW (HH5.out.b1.set6C (.int .i64 5) (.int .i64 0) (.string ⟨#[]⟩) (.slice RA i rc) (.slice none 0 0) (.bool true));have HPT:=aW (show IsP op F w (.returned (.agg #[.int .i64 5,.int .i64 0,.string ⟨#[]⟩,.slice RA i rc,.slice none 0 0,.bool true])) (w5.setCells (w.heap.size+1) 0 [.int .i64 5,.int .i64 0,.string ⟨#[]⟩,.slice RA i rc,.slice none 0 0,.bool true]) from IsP.put HX.out HGG.out HCL.out HFF.out ((HVL.out _ HW5.out).mono fun b _ h=>h.imp id fun h=>by omega) HH5.out.1);obtain ⟨WG,hWG⟩:∃ W',w5.setCells (w.heap.size+1) 0 [.int .i64 5,.int .i64 0,.string ⟨#[]⟩,.slice RA i rc,.slice none 0 0,.bool true]=W':=⟨_,rfl⟩
    rw [hWG] at HBR HPT
    try simp only []
    rw [hWG];clear hWG;obtain ⟨cR,fR,lR⟩:=HBR.out.rules;go_wp2_with ((with_reducible refine bodyPost_ret (v:=.agg #[.int .i64 5,.int .i64 0,.string ⟨#[]⟩,.slice RA i rc,.slice none 0 0,.bool true]) ?_ rfl ?_);(simp only [results,Tryz.results17];go_simp);exact HPT.out)
end Go.Proofs.YtgolomgmnanbpaaGreatDoor
