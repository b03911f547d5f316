import Derived.Test.YtgolomgmnanbpaaGreatDoorW43
import Derived.Test.YtgolomgmnanbpaaGreatDoorW44
import Derived.Deep.RegionHeld3
import Derived.Test.YtgolomgmnanbpaaGreatDoorW36
import Derived.Test.YtgolomgmnanbpaaGreatDoorW22
import Derived.Test.YtgolomgmnanbpaaGreatDoorW01
import Derived.Test.YtgolomgmnanbpaaGreatDoorW19
import Derived.Test.YtgolomgmnanbpaaGreatDoorW26
import Derived.Test.YtgolomgmnanbpaaGreatDoorW37
import Derived.Test.YtgolomgmnanbpaaGreatDoorW40
import Derived.Test.YtgolomgmnanbpaaGreatDoorW41
import Derived.Test.YtgolomgmnanbpaaGreatDoorW42
import Derived.Test.YtgolomgmnanbpaaGreatDoorW39
import Derived.Test.YtgolomgmnanbpaaGreatDoorW13
set_option maxRecDepth 100000
set_option maxHeartbeats 16000000
namespace Go.Proofs.YtgolomgmnanbpaaGreatDoor
set_option linter.unusedVariables false
set_option linter.unusedSimpArgs false
open Go.RowKit
attribute [local go_sem] run_index_arr run_part_agg run_part_one run_field_agg
set_option linter.unusedVariables false
set_option linter.unusedSimpArgs false
open Go.RowKit
theorem cam_cutE:∀ (r:Nat) (x:EJ),camE x→camE (cutE r x)
 | 0,.mk k v s kids,h=>by
  unfold camE at h;unfold cutE camE;exact ⟨h.1,h.2.1,h.2.2.1,by simp,trivial⟩
 | r+1,.mk k v s kids,h=>by
  unfold camE at h;unfold cutE camE;refine ⟨h.1,h.2.1,h.2.2.1,by simp;omega,camEL_iff.2 fun x hx=>?_⟩;obtain ⟨y,hy,rfl⟩:=List.mem_map.1 hx;exact cam_cutE r y (camEL_iff.1 h.2.2.2.2 y (List.mem_of_mem_take hy))
theorem sml_cutE:∀ (r:Nat) (x:EJ),smlE (cutE r x)
 | 0,.mk k v s kids=>by
  unfold cutE smlE;exact ⟨by simp,trivial⟩
 | r+1,.mk k v s kids=>by
  unfold cutE smlE;refine ⟨by simp;omega,smlEL_iff.2 fun x hx=>?_⟩;obtain ⟨y,hy,rfl⟩:=List.mem_map.1 hx;exact sml_cutE r y
set_option linter.unusedVariables false
set_option linter.unusedSimpArgs false
open Go.RowKit
attribute [local go_sem] run_index_arr run_part_agg run_part_one run_field_agg
def BndP (l:List (List UInt8 × JV)) (F:Nat→Prop) (w:World) (e:Ending) (w':World):Prop:=∃ (A:Option Addr) (n ca:Nat) (css:List (List Value)),e=.returned (.slice A n ca)∧n=l.length∧n≤ca∧BnRs w' (FN F w) css l∧RdF w' (FN F w) A css.flatten∧Below w.heap.size w w'
theorem lBinds (F:Nat→Prop) (l:List (List UInt8 × JV)) (A:Option Addr) (n ca:Nat) (css:List (List Value)) (w:World) (hF:∀ b,F b→b<w.heap.size) (hS:BnRs w F css l) (hR:RdF w F A css.flatten) (hA:A=none→ca=0) (hln:l.length=n) (hnc:n≤ca) (hn:n≤4194304) :
  Calls Tryz.prog 12 #[.slice A n ca] w (BndP (l.take 20) F w):=by
 obtain ⟨m,hm⟩:∃ m,min n 20=m:=⟨_,rfl⟩
 have hmn:m≤n:=by omega
 have hm20:m≤20:=by omega
 have HMI:=aW (show min (n:Int) 20=(m:Int) by omega);have hif:(if (20:Int)<(n:Int) then (20:Int) else (n:Int))=(m:Int):=by split<;>omega
 have HA:=aW (fun (e:A=none)=>by have:=hA e;omega:A=none→m=0);have HTK:=aW (show l.take 20=l.take m∧(l.take m).length=m by
  constructor
  ·rw [← hm,← hln,Nat.min_comm,← List.take_take,List.take_length]
  ·rw [List.length_take,hln];omega)
 have hcs:=hS.lens fun c x hc=>hc.len
 have HFL:=aW (show (css.take m).flatten=css.flatten.take (m*6) from take_flat (m:=6) m hcs);have HS:=aW (hS.take m);have HLE:=aW (show (css.take m).flatten.length=m*6 by rw [(hS.take m).flat (m:=6) fun c x hc=>hc.len,HTK.out.2]);have H1C:=aW (show ∀ u ∈ (css.take m).flatten,u.oneCell'=true from fun u hu=>by
  obtain ⟨c,hc,hu⟩:=List.mem_flatten.1 hu;obtain ⟨x,_,hx⟩:=(hS.take m).mem hc;exact hx.one u hu)
 have HRD:=aW (show RdF w F A (css.take m).flatten by rw [HFL.out];exact hR.take _);have hO0:=aW (World.ownsRow_lit (base:=w.heap.size) (size:=6) (e:=37) w #[] 0 (Nat.le_refl _) (by unfold maxLen;omega) rfl);have HB0:=aW ((Below.refl _ w).alloc (Nat.le_refl _) (.cells #[] 37));have hbs:=aW (show w.heap.size≤(w.alloc (.cells #[] 37)).heap.size from HB0.out.size);obtain ⟨i0,hi,hz0,hz1,hz2⟩:=info_parts infoBind;have HI:=aW hi;have HFF:=aW hF;clear hF hS hR hA hln hcs hi hm;go_enter Tryz.func12,Tryz.ntmps12;go_wp2_with (at_builtin;(try rw [HMI.out]);(try rw [Int.toNat_natCast]);refine wpList_append_rd _ rfl _ _ 29 rfl w.heap.size 37 i0 _ 6 96 Tryz.underlying29 HI.out hz0 hz1 hz2 rfl (by decide) (.slice (some ⟨w.heap.size,0,none⟩) 0 0) 0 [] rfl hO0.out A m ca HA.out (css.take m).flatten rfl HLE.out (HRD.out.keep (KeepF.of_below HB0.out)).rd H1C.out (by unfold maxLen;omega) (by omega) hbs.out ?_;intro row2 w6 hown6 hgr6 hob6);have hk:KeepF (fun b=>F b∧b<w.heap.size) w w6:=(KeepF.of_below HB0.out).trans (KeepF.of_grown hgr6 fun b hb e=>by
  simp only [Value.ownBlock,Option.some.injEq] at e;omega)
 obtain ⟨RA,rc,rfl,hrc,hrn,hrr⟩:=own_parts hown6;have hbb:Below w.heap.size w w6:=HB0.out.grown hgr6 HB0.out.size (fun j e=>by
  simp only [Value.ownBlock,Option.some.injEq] at e;omega)
 have hS6:BnRs w6 (FN F w) (css.take m) (l.take m):=RR.imp HS.out fun c x hc=>((hc.mono (F':=fun b=>F b∧b<w.heap.size) fun b hb hF=>⟨hF,hb⟩).keep hk).mono fun b _ h=>.inl h.1
 have HX:=aW (show BndP (l.take 20) F w (.returned (.slice RA (0+m) rc)) w6 from ⟨RA,0+m,rc,css.take m,rfl,by rw [HTK.out.1,HTK.out.2];omega,hrc,by rw [HTK.out.1];exact hS6,by simpa using hrr.mono fun b _ h=>.inr h,hbb⟩);clear hk hrc hrn hrr hbb hS6 hown6 hgr6 hob6;go_wp2;go_ret;exact HX.out
set_option linter.unusedVariables false
set_option linter.unusedSimpArgs false
open Go.RowKit
attribute [local go_sem] run_index_arr run_part_agg run_part_one run_field_agg
theorem pts_cps:∀ (f:Nat) (l:List UInt8),l.length≤f→txtOk l=true→ptsJ l=(cpsOf l).length:=by
 intro f
 induction f with
 | zero =>
  intro l hl h;obtain rfl:l=[]:=by cases l with | nil=>rfl | cons c r=>simp at hl
  rfl
 | succ f ih =>
  intro l hl h;by_cases hn:l=[]
  ·subst hn;rfl
  ·rw [txtOk_step hn] at h;by_cases h0:(cpBegin l).2=0
   ·rw [if_pos h0] at h;cases h
   ·rw [if_neg h0] at h;rw [ptsJ_step hn h0,cpsOf_step hn,if_neg h0,List.length_cons,ih _ (by rw [List.length_drop];have:0<l.length:=List.length_pos_iff.2 hn;omega) h]
theorem rEv6 {env:List (List UInt8 × JV)} {v:JV} {s:List UInt8} {ya yb:EJ} {cs:List Value} {EA:Option Addr} {n ec:Nat} {F:Nat→Prop} {w:World} (hF:∀ b,F b→b<w.heap.size) (hx:ER w F cs (.mk 6 v s [ya])) (hcx:camE (.mk 6 v s [ya]))
  (ka:KidR EA n ec F env w ya) (kb:KidR EA n ec F env w yb) (oa ob:Option JV) (hoa:evE env ya=oa) (hob:evE env yb=ob) (op:Option JV) (hop:combJ env 6 v s [oa]=op) :
  Calls Tryz.prog 17 #[.agg cs.toArray,.slice EA n ec] w (IsP op F w):=by
 obtain ⟨k1,n1,s1,A1,na1,ca1,B1,nb1,cb1,A,ca,css0,rfl,hv,h1,h2,h3,h4⟩:=hx.out;obtain ⟨b,o,kx,px,nx,sx,Ax,nax,cax,Bx,nbx,cbx,zx,Cx,ncx,ccx,rfl,hb,hER,hz⟩:=kid_cellsE h1 h4 (i:=0) (x:=ya) rfl;have HKA:=aW (fun (W:World) (h:Below w.heap.size w W)=>ka W _ h (hER.bel h));rw [hoa] at HKA;obtain ⟨nr,hnr⟩:∃ q:Nat,1=q:=⟨_,rfl⟩
 have hnr1:0<nr:=by omega
 have HFF:=aW hF;have HOP:=aW hop;have HVS:=aW hv;have HH0:=aW (((Held.nil w).push 28 #[.int .i64 6,.int .i64 k1,.int .i64 n1,.string s1,.slice A1 na1 ca1,.slice B1 nb1 cb1,.string ⟨s.toArray⟩,.slice (some ⟨b,o,none⟩) nr ca] (g:=w.heap.size) rfl).push 40 #[.int .i64 0,.int .i64 0,.string ⟨#[]⟩,.slice none 0 0,.slice none 0 0,.bool false] (g:=w.heap.size+1) (by simp));obtain ⟨z0,z1,z2,z3,z4,z5,z6,z7⟩:=hz _ HH0.out.1;rw [zeroC0] at z0 z1 z2 z3 z4 z5 z6 z7;have hlb:b<w.heap.size:=hb;have hlb2:b≠w.heap.size+1:=by omega
 rw [show ([ya]:List EJ).length=nr from hnr];obtain ⟨c0,f0,l0⟩:=HH0.out.b1.rules;clear hF hx hcx hv h1 h2 h3 h4 hER hz hb hoa hob hop hnr ka kb;go_enter Tryz.func17,Tryz.ntmps17;go_wp2_with fail;refine (HKA.out _ HH0.out.1).mono ?_;rintro e w1 ⟨k5,n5,s5,A5,na5,ca5,B5,nb5,cb5,va,ba,rfl,hva,hca,hoa,hga,hza,hb1⟩;obtain ⟨WA,hWA⟩:∃ W,w1.alloc (.cells #[.int .i64 k5,.int .i64 n5,.string s5,.slice A5 na5 ca5,.slice B5 nb5 cb5,.bool ba] 40)=W:=⟨_,rfl⟩
 have HWA:=aW hWA;have HH1:=aW (show Held [(w1.heap.size,40,#[.int .i64 k5,.int .i64 n5,.string s5,.slice A5 na5 ca5,.slice B5 nb5 cb5,.bool ba]),(w.heap.size+1,40,#[.int .i64 0,.int .i64 0,.string ⟨#[]⟩,.slice none 0 0,.slice none 0 0,.bool false]),(w.heap.size,28,#[.int .i64 6,.int .i64 k1,.int .i64 n1,.string s1,.slice A1 na1 ca1,.slice B1 nb1 cb1,.string ⟨s.toArray⟩,.slice (some ⟨b,o,none⟩) nr ca])] w WA by rw [← hWA];exact (HH0.out.keep hb1).push 40 #[.int .i64 k5,.int .i64 n5,.string s5,.slice A5 na5 ca5,.slice B5 nb5 cb5,.bool ba] (g:=w1.heap.size) rfl);have HW1:=aW (show Below w1.heap.size w1 WA by rw [← hWA];exact (Below.refl _ w1).alloc (Nat.le_refl _) _);have HVA:=aW (fun (W:World) (h:Below w1.heap.size w1 W)=>IsP.val (w:=w) (by simp) hva h);have HQA:=aW (And.intro hca (And.intro hoa (And.intro hga hza)));have hs1:w.heap.size+2≤w1.heap.size:=by have:=hb1.size;simpa using this
 have hn1:w1.heap.size≠w.heap.size+1:=by omega
 have hn2:w1.heap.size≠w.heap.size:=by omega
 clear hWA hva hca hoa hga hza hb1 c0 f0 l0 z0 z1 z2 z3 z4 z5 z6 z7 HKA;go_upto_region 24 with fail;rw [HWA.out];clear HWA;obtain ⟨c0,f0,l0⟩:=HH1.out.b2.rules;obtain ⟨c1,f1,l1⟩:=HH1.out.b1.rules;obtain ⟨c2,f2,l2⟩:=HH1.out.b0.rules;cases ba with
 | false =>
  have HX:=aW (show op=none by rw [← HOP.out,HQA.out.2.1];rfl);go_upto_region 25 with fail
  try simp only []
  go_step;go_step;go_step;go_step;refine wpList_store_mid rfl 40 (.tmp 4) (.tmp 98) rfl (w.heap.size+1) 0 #[.int .i64 0,.int .i64 0,.string ⟨#[]⟩,.slice none 0 0,.slice none 0 0,.bool false] rfl rfl HH1.out.b1.there (by kernel_rfl) (by first | kernel_rfl | simp [Value.oneCell']) ?_;have HBR:=aW (HH1.out.b1.set6C (.int .i64 0) (.int .i64 0) (.string ⟨#[]⟩) (.slice none 0 0) (.slice none 0 0) (.bool false));have HPT:=aW (show IsP op F w (.returned (.agg #[.int .i64 0,.int .i64 0,.string ⟨#[]⟩,.slice none 0 0,.slice none 0 0,.bool false])) (WA.setCells (w.heap.size+1) 0 [.int .i64 0,.int .i64 0,.string ⟨#[]⟩,.slice none 0 0,.slice none 0 0,.bool false]) from IsP.nilC HX.out HH1.out.1);obtain ⟨WG,hWG⟩:∃ W',WA.setCells (w.heap.size+1) 0 [.int .i64 0,.int .i64 0,.string ⟨#[]⟩,.slice none 0 0,.slice none 0 0,.bool false]=W':=⟨_,rfl⟩
  rw [hWG] at HBR HPT
  try simp only []
  rw [hWG];clear hWG;obtain ⟨cR,fR,lR⟩:=HBR.out.rules;go_wp2_with ((with_reducible refine bodyPost_ret (v:=.agg #[.int .i64 0,.int .i64 0,.string ⟨#[]⟩,.slice none 0 0,.slice none 0 0,.bool false]) ?_ rfl ?_);(simp only [results,Tryz.results17];go_simp);exact HPT.out)
 | true =>
 have HOA:=aW (show oa=some va from HQA.out.2.1);have HGA:=aW (HQA.out.2.2.1 rfl);have HCA:=aW HQA.out.1;clear HQA;go_wp2_with fail;refine (rBoolV _ _ _ _ _ _ _ _ _ _ _).mono ?_;rintro e w2 ⟨rfl,hb2⟩;have HH2:=aW (HH1.out.keep hb2);have HW2:=aW (HW1.out.trans (hb2.mono HW1.out.size));clear hb2 c0 f0 l0 c1 f1 l1 c2 f2 l2;obtain ⟨c0,f0,l0⟩:=HH2.out.b2.rules;obtain ⟨c1,f1,l1⟩:=HH2.out.b1.rules;obtain ⟨c2,f2,l2⟩:=HH2.out.b0.rules;have HKN:=aW (vr_head (HVA.out _ (Below.refl _ _)));have HO:=aW (show op=sizeJ va by rw [← HOP.out,HOA.out];rfl);by_cases hk4:k5=4
 ·have e4:(k5 == 4)=true:=by simp [hk4]
  have htx:txtOk va.txt=true:=by
   have h1:=HKN.out.1;have h2:=HGA.out;obtain ⟨vk,vn,vs,vks,vys⟩:=va;have h3:vk=4:=h1.trans hk4;subst h3;exact good_txt h2
  have HCP:=aW (txtOk_cpsOf htx);have HPT:=aW (pts_cps _ _ (Nat.le_refl _) htx);have HLN:=aW (show va.txt.length≤4194304 from by have:=HCA.out;obtain ⟨vk,vn,vs,vks,vys⟩:=va;exact this.out.2.2.1);have HX:=aW (show op=some (jNum (ptsJ va.txt)) by rw [HO.out];unfold sizeJ;rw [if_pos (HKN.out.1.trans hk4)]);obtain ⟨cap,W3,hcv,hcap,hb3,hs3,hr3⟩:=conv_bytes (P:=Tryz.prog) w2 9 76 5 s5 Tryz.underlying9 Tryz.underlying76 Tryz.underlying5;have hss:sl s5=va.txt:=by rw [HKN.out.2.2.1,sl_mk]
  have HPP:=aW (rPts (.slice (some ⟨w2.heap.size,0,none⟩) s5.size cap) (cpsOf va.txt) W3 HCP.out.1 (by rw [← HCP.out.2,← hss];exact ⟨_,_,by rw [sl_len],by rw [sl_len];exact hcap,hr3⟩) (by rw [← HCP.out.2];exact HLN.out));have HH3:=aW (HH2.out.keep hb3);obtain ⟨pn,hpn⟩:∃ q,(cpsOf va.txt).length=q:=⟨_,rfl⟩
  have HXN:=aW (show op=some (jNum (pn:Nat)) by rw [HX.out,HPT.out,hpn]);have HPL:=aW (show pn≤4194304 by rw [← hpn,← HPT.out];exact Nat.le_trans (ptsJ_le _) HLN.out);unfold RptP at HPP;rw [hpn] at HPP;clear hk4 htx hb3 hs3 hr3 hcap hss hpn;go_upto_region 39 with fail;go_wp2_with fail;refine HPP.out.mono ?_;rintro e w4 ⟨⟨PA,pc,rfl,_,_⟩,hb4⟩;have HH4:=aW (HH3.out.keep hb4);clear hb4 c0 f0 l0 c1 f1 l1 c2 f2 l2 hcv;go_upto_region 40 with fail;go_wp2_with fail;refine (rSomeV _ _ _ _ _ _ _ _ _ _).mono ?_;rintro e w5 ⟨rfl,hb5⟩;have HH5:=aW (HH4.out.keep hb5);clear hb5
  try simp only []
  go_step;refine wpList_store_mid rfl 40 (.tmp 4) (.tmp 147) rfl (w.heap.size+1) 0 #[.int .i64 3,.int .i64 (pn:Int),.string ⟨#[]⟩,.slice none 0 0,.slice none 0 0,.bool true] rfl rfl HH5.out.b1.there (by kernel_rfl) (by first | kernel_rfl | simp [Value.oneCell']) ?_;have HBR:=aW (HH5.out.b1.set6C (.int .i64 3) (.int .i64 (pn:Int)) (.string ⟨#[]⟩) (.slice none 0 0) (.slice none 0 0) (.bool true));have HPT:=aW (show IsP op F w (.returned (.agg #[.int .i64 3,.int .i64 (pn:Int),.string ⟨#[]⟩,.slice none 0 0,.slice none 0 0,.bool true])) (w5.setCells (w.heap.size+1) 0 [.int .i64 3,.int .i64 (pn:Int),.string ⟨#[]⟩,.slice none 0 0,.slice none 0 0,.bool true]) from atomJ_put (s:=[]) HXN.out (good_int _) (came_num (by have:=HPL.out;unfold iw;omega)) HFF.out HH5.out.1);obtain ⟨WG,hWG⟩:∃ W',w5.setCells (w.heap.size+1) 0 [.int .i64 3,.int .i64 (pn:Int),.string ⟨#[]⟩,.slice none 0 0,.slice none 0 0,.bool true]=W':=⟨_,rfl⟩
  rw [hWG] at HBR HPT
  try simp only []
  rw [hWG];clear hWG;obtain ⟨cR,fR,lR⟩:=HBR.out.rules;go_wp2_with ((with_reducible refine bodyPost_ret (v:=.agg #[.int .i64 3,.int .i64 (pn:Int),.string ⟨#[]⟩,.slice none 0 0,.slice none 0 0,.bool true]) ?_ rfl ?_);(simp only [results,Tryz.results17];go_simp);exact HPT.out)
 have e4:(k5 == 4)=false:=by simp [hk4]
 by_cases hk5:k5<5
 ·have HX:=aW (show op=none by rw [HO.out];unfold sizeJ;rw [if_neg (by rw [HKN.out.1];exact hk4),if_neg (by rw [HKN.out.1];omega)]);clear hk4;go_upto_region 42 with fail
  try simp only []
  go_step;go_step;go_step;go_step;refine wpList_store_mid rfl 40 (.tmp 4) (.tmp 152) rfl (w.heap.size+1) 0 #[.int .i64 0,.int .i64 0,.string ⟨#[]⟩,.slice none 0 0,.slice none 0 0,.bool false] rfl rfl HH2.out.b1.there (by kernel_rfl) (by first | kernel_rfl | simp [Value.oneCell']) ?_;have HBR:=aW (HH2.out.b1.set6C (.int .i64 0) (.int .i64 0) (.string ⟨#[]⟩) (.slice none 0 0) (.slice none 0 0) (.bool false));have HPT:=aW (show IsP op F w (.returned (.agg #[.int .i64 0,.int .i64 0,.string ⟨#[]⟩,.slice none 0 0,.slice none 0 0,.bool false])) (w2.setCells (w.heap.size+1) 0 [.int .i64 0,.int .i64 0,.string ⟨#[]⟩,.slice none 0 0,.slice none 0 0,.bool false]) from IsP.nilC HX.out HH2.out.1);obtain ⟨WG,hWG⟩:∃ W',w2.setCells (w.heap.size+1) 0 [.int .i64 0,.int .i64 0,.string ⟨#[]⟩,.slice none 0 0,.slice none 0 0,.bool false]=W':=⟨_,rfl⟩
  rw [hWG] at HBR HPT
  try simp only []
  rw [hWG];clear hWG;obtain ⟨cR,fR,lR⟩:=HBR.out.rules;go_wp2_with ((with_reducible refine bodyPost_ret (v:=.agg #[.int .i64 0,.int .i64 0,.string ⟨#[]⟩,.slice none 0 0,.slice none 0 0,.bool false]) ?_ rfl ?_);(simp only [results,Tryz.results17];go_simp);exact HPT.out)
 have HX:=aW (show op=some (jNum (na5:Nat)) by rw [HO.out];unfold sizeJ;rw [if_neg (by rw [HKN.out.1];exact hk4),if_pos (by rw [HKN.out.1];omega),HKN.out.2.2.2]);have HPL:=aW (show na5≤4194304 by have:=HCA.out;have h2:=HKN.out.2.2.2;obtain ⟨vk,vn,vs,vks,vys⟩:=va;rw [h2];exact this.out.2.2.2.1);clear hk4;go_upto_region 43 with fail;go_wp2_with fail;refine (rSomeV _ _ _ _ _ _ _ _ _ _).mono ?_;rintro e w5 ⟨rfl,hb5⟩;have HH5:=aW (HH2.out.keep hb5);clear hb5 c0 f0 l0 c1 f1 l1 c2 f2 l2
 try simp only []
 go_step;refine wpList_store_mid rfl 40 (.tmp 4) (.tmp 158) rfl (w.heap.size+1) 0 #[.int .i64 3,.int .i64 (na5:Int),.string ⟨#[]⟩,.slice none 0 0,.slice none 0 0,.bool true] rfl rfl HH5.out.b1.there (by kernel_rfl) (by first | kernel_rfl | simp [Value.oneCell']) ?_;have HBR:=aW (HH5.out.b1.set6C (.int .i64 3) (.int .i64 (na5:Int)) (.string ⟨#[]⟩) (.slice none 0 0) (.slice none 0 0) (.bool true));have HPT:=aW (show IsP op F w (.returned (.agg #[.int .i64 3,.int .i64 (na5:Int),.string ⟨#[]⟩,.slice none 0 0,.slice none 0 0,.bool true])) (w5.setCells (w.heap.size+1) 0 [.int .i64 3,.int .i64 (na5:Int),.string ⟨#[]⟩,.slice none 0 0,.slice none 0 0,.bool true]) from atomJ_put (s:=[]) HX.out (good_int _) (came_num (by have:=HPL.out;unfold iw;omega)) HFF.out HH5.out.1);obtain ⟨WG,hWG⟩:∃ W',w5.setCells (w.heap.size+1) 0 [.int .i64 3,.int .i64 (na5:Int),.string ⟨#[]⟩,.slice none 0 0,.slice none 0 0,.bool true]=W':=⟨_,rfl⟩
 rw [hWG] at HBR HPT
 try simp only []
 rw [hWG];clear hWG;obtain ⟨cR,fR,lR⟩:=HBR.out.rules;go_wp2_with ((with_reducible refine bodyPost_ret (v:=.agg #[.int .i64 3,.int .i64 (na5:Int),.string ⟨#[]⟩,.slice none 0 0,.slice none 0 0,.bool true]) ?_ rfl ?_);(simp only [results,Tryz.results17];go_simp);exact HPT.out)
set_option linter.unusedVariables false
set_option linter.unusedSimpArgs false
open Go.RowKit
attribute [local go_sem] run_index_arr run_part_agg run_part_one run_field_agg
theorem rEv7 {env:List (List UInt8 × JV)} {v:JV} {s:List UInt8} {ya yb:EJ} {cs:List Value} {EA:Option Addr} {n ec:Nat} {F:Nat→Prop} {w:World} (hF:∀ b,F b→b<w.heap.size) (hx:ER w F cs (.mk 7 v s [ya])) (hcx:camE (.mk 7 v s [ya]))
  (ka:KidR EA n ec F env w ya) (kb:KidR EA n ec F env w yb) (oa ob:Option JV) (hoa:evE env ya=oa) (hob:evE env yb=ob) (op:Option JV) (hop:combJ env 7 v s [oa]=op) :
  Calls Tryz.prog 17 #[.agg cs.toArray,.slice EA n ec] w (IsP op F w):=by
 obtain ⟨k1,n1,s1,A1,na1,ca1,B1,nb1,cb1,A,ca,css0,rfl,hv,h1,h2,h3,h4⟩:=hx.out;obtain ⟨b,o,kx,px,nx,sx,Ax,nax,cax,Bx,nbx,cbx,zx,Cx,ncx,ccx,rfl,hb,hER,hz⟩:=kid_cellsE h1 h4 (i:=0) (x:=ya) rfl;have HKA:=aW (fun (W:World) (h:Below w.heap.size w W)=>ka W _ h (hER.bel h));rw [hoa] at HKA;obtain ⟨nr,hnr⟩:∃ q:Nat,1=q:=⟨_,rfl⟩
 have hnr1:0<nr:=by omega
 have HFF:=aW hF;have HOP:=aW hop;have HVS:=aW hv;have HH0:=aW (((Held.nil w).push 28 #[.int .i64 7,.int .i64 k1,.int .i64 n1,.string s1,.slice A1 na1 ca1,.slice B1 nb1 cb1,.string ⟨s.toArray⟩,.slice (some ⟨b,o,none⟩) nr ca] (g:=w.heap.size) rfl).push 40 #[.int .i64 0,.int .i64 0,.string ⟨#[]⟩,.slice none 0 0,.slice none 0 0,.bool false] (g:=w.heap.size+1) (by simp));obtain ⟨z0,z1,z2,z3,z4,z5,z6,z7⟩:=hz _ HH0.out.1;rw [zeroC0] at z0 z1 z2 z3 z4 z5 z6 z7;have hlb:b<w.heap.size:=hb;have hlb2:b≠w.heap.size+1:=by omega
 rw [show ([ya]:List EJ).length=nr from hnr];obtain ⟨c0,f0,l0⟩:=HH0.out.b1.rules;clear hF hx hcx hv h1 h2 h3 h4 hER hz hb hoa hob hop hnr ka kb;go_enter Tryz.func17,Tryz.ntmps17;go_wp2_with fail;refine (HKA.out _ HH0.out.1).mono ?_;rintro e w1 ⟨k5,n5,s5,A5,na5,ca5,B5,nb5,cb5,va,ba,rfl,hva,hca,hoa,hga,hza,hb1⟩;obtain ⟨WA,hWA⟩:∃ W,w1.alloc (.cells #[.int .i64 k5,.int .i64 n5,.string s5,.slice A5 na5 ca5,.slice B5 nb5 cb5,.bool ba] 40)=W:=⟨_,rfl⟩
 have HWA:=aW hWA;have HH1:=aW (show Held [(w1.heap.size,40,#[.int .i64 k5,.int .i64 n5,.string s5,.slice A5 na5 ca5,.slice B5 nb5 cb5,.bool ba]),(w.heap.size+1,40,#[.int .i64 0,.int .i64 0,.string ⟨#[]⟩,.slice none 0 0,.slice none 0 0,.bool false]),(w.heap.size,28,#[.int .i64 7,.int .i64 k1,.int .i64 n1,.string s1,.slice A1 na1 ca1,.slice B1 nb1 cb1,.string ⟨s.toArray⟩,.slice (some ⟨b,o,none⟩) nr ca])] w WA by rw [← hWA];exact (HH0.out.keep hb1).push 40 #[.int .i64 k5,.int .i64 n5,.string s5,.slice A5 na5 ca5,.slice B5 nb5 cb5,.bool ba] (g:=w1.heap.size) rfl);have HW1:=aW (show Below w1.heap.size w1 WA by rw [← hWA];exact (Below.refl _ w1).alloc (Nat.le_refl _) _);have HVA:=aW (fun (W:World) (h:Below w1.heap.size w1 W)=>IsP.val (w:=w) (by simp) hva h);have HQA:=aW (And.intro hca (And.intro hoa (And.intro hga hza)));have hs1:w.heap.size+2≤w1.heap.size:=by have:=hb1.size;simpa using this
 have hn1:w1.heap.size≠w.heap.size+1:=by omega
 have hn2:w1.heap.size≠w.heap.size:=by omega
 clear hWA hva hca hoa hga hza hb1 c0 f0 l0 z0 z1 z2 z3 z4 z5 z6 z7 HKA;go_upto_region 24 with fail;rw [HWA.out];clear HWA;obtain ⟨c0,f0,l0⟩:=HH1.out.b2.rules;obtain ⟨c1,f1,l1⟩:=HH1.out.b1.rules;obtain ⟨c2,f2,l2⟩:=HH1.out.b0.rules;cases ba with
 | false =>
  have HX:=aW (show op=none by rw [← HOP.out,HQA.out.2.1];rfl);go_upto_region 25 with fail
  try simp only []
  go_step;go_step;go_step;go_step;refine wpList_store_mid rfl 40 (.tmp 4) (.tmp 98) rfl (w.heap.size+1) 0 #[.int .i64 0,.int .i64 0,.string ⟨#[]⟩,.slice none 0 0,.slice none 0 0,.bool false] rfl rfl HH1.out.b1.there (by kernel_rfl) (by first | kernel_rfl | simp [Value.oneCell']) ?_;have HBR:=aW (HH1.out.b1.set6C (.int .i64 0) (.int .i64 0) (.string ⟨#[]⟩) (.slice none 0 0) (.slice none 0 0) (.bool false));have HPT:=aW (show IsP op F w (.returned (.agg #[.int .i64 0,.int .i64 0,.string ⟨#[]⟩,.slice none 0 0,.slice none 0 0,.bool false])) (WA.setCells (w.heap.size+1) 0 [.int .i64 0,.int .i64 0,.string ⟨#[]⟩,.slice none 0 0,.slice none 0 0,.bool false]) from IsP.nilC HX.out HH1.out.1);obtain ⟨WG,hWG⟩:∃ W',WA.setCells (w.heap.size+1) 0 [.int .i64 0,.int .i64 0,.string ⟨#[]⟩,.slice none 0 0,.slice none 0 0,.bool false]=W':=⟨_,rfl⟩
  rw [hWG] at HBR HPT
  try simp only []
  rw [hWG];clear hWG;obtain ⟨cR,fR,lR⟩:=HBR.out.rules;go_wp2_with ((with_reducible refine bodyPost_ret (v:=.agg #[.int .i64 0,.int .i64 0,.string ⟨#[]⟩,.slice none 0 0,.slice none 0 0,.bool false]) ?_ rfl ?_);(simp only [results,Tryz.results17];go_simp);exact HPT.out)
 | true =>
 have HOA:=aW (show oa=some va from HQA.out.2.1);have HGA:=aW (HQA.out.2.2.1 rfl);have HCA:=aW HQA.out.1;clear HQA;go_wp2_with fail;refine (rBoolV _ _ _ _ _ _ _ _ _ _ _).mono ?_;rintro e w2 ⟨rfl,hb2⟩;have HH2:=aW (HH1.out.keep hb2);have HW2:=aW (HW1.out.trans (hb2.mono HW1.out.size));clear hb2 c0 f0 l0 c1 f1 l1 c2 f2 l2;obtain ⟨c0,f0,l0⟩:=HH2.out.b2.rules;obtain ⟨c1,f1,l1⟩:=HH2.out.b1.rules;obtain ⟨c2,f2,l2⟩:=HH2.out.b0.rules;have HKN:=aW (vr_head (HVA.out _ (Below.refl _ _)));have hkk:=good_kinds HGA.out;rw [HKN.out.1] at hkk;obtain ⟨j,rfl⟩:∃ j:Nat,(j:Int)=k5:=⟨k5.toNat,by omega⟩
 obtain ⟨nb,hnb⟩:∃ q:ByteArray,(⟨(kindT (j:Int)).toArray⟩:ByteArray)=q:=⟨_,rfl⟩
 have HNJ:=aW (show nameV[j]? = some (.string nb) by
  rw [← hnb];have:j=1∨j=2∨j=3∨j=4∨j=5∨j=6:=by omega
  rcases this with rfl | rfl | rfl | rfl | rfl | rfl<;>rfl)
 have HX:=aW (show op=some (jText (kindT (j:Int))) by rw [← HOP.out,HOA.out,← HKN.out.1];rfl);have HGT:=aW (good_kind (j:Int));have HNL:=aW (show (kindT (j:Int)).length≤4194304 by
  have:j=1∨j=2∨j=3∨j=4∨j=5∨j=6:=by omega
  rcases this with rfl | rfl | rfl | rfl | rfl | rfl<;>decide)
 have HNB:=aW hnb;have hj7:j<7:=by omega
 have hj7i:(j:Int)<7:=by omega
 have hj7n:¬ 7≤(j:Int):=by omega
 clear hkk hnb;go_upto_region 45 with fail;clear c0 f0 l0 c1 f1 l1 c2 f2 l2;refine wp_region_held_drew (S:=fun W'=>Blk W' w1.heap.size 40 #[.int .i64 (j:Int),.int .i64 n5,.string s5,.slice A5 na5 ca5,.slice B5 nb5 cb5,.bool true]) (by kernel_rfl) (by exact HH2.out.b0.drew) (fun hHeld=>?_);refine wpAnyH_worldM (fun Y0 hY=>?_);have HY0:=aW (show Held [(w1.heap.size,40,#[.int .i64 (j:Int),.int .i64 n5,.string s5,.slice A5 na5 ca5,.slice B5 nb5 cb5,.bool true]),(w.heap.size+1,40,#[.int .i64 0,.int .i64 0,.string ⟨#[]⟩,.slice none 0 0,.slice none 0 0,.bool false]),(w.heap.size,28,#[.int .i64 7,.int .i64 k1,.int .i64 n1,.string s1,.slice A1 na1 ca1,.slice B1 nb1 cb1,.string ⟨s.toArray⟩,.slice (some ⟨b,o,none⟩) nr ca])] w Y0 by rw [hY];exact HH2.out.drew);clear hY hHeld;have hHeld:=HY0.out.b0;refine tA 1 162 (.pointer (some ⟨w1.heap.size,0,none⟩)) rfl ?_
 try simp only [pU]
 refine tA 2 163 (.pointer (some ⟨w1.heap.size,0,none⟩)) rfl ?_
 try simp only [pU]
 refine aY 3 164 (.int .i64 (j:Int)) rfl ?_ ?_
 ·intro W hSw;obtain ⟨c8,f8,l8⟩:=hSw.rules;go_simp
 try simp only [pU]
 refine aV 0 161 rfl (fun K hK=>?_);go_simp;refine (rNames _).mono ?_;rintro e Y1 ⟨g,rfl,hbn,hb⟩;have HY1:=aW (HY0.out.keep hb);have HNA:=aW hbn;have hcn:Y1.cell? ⟨g,j,none⟩=some (.string nb):=by rw [hbn.cell,List.getElem?_toArray];exact HNJ.out
 clear hbn;refine hK.out _ _ (by exact HY1.out.b0) (fun hHeld2=>?_);clear hK K hHeld hb;have hHeld:=hHeld2;clear hHeld2
 try simp only [pU]
 refine tA 4 165 (.pointer (some ⟨g,j,none⟩)) rfl ?_
 try simp only [pU]
 refine aV 5 166 rfl (fun K hK=>?_);go_simp;refine hK.out _ _ (by exact HY1.out.b0) (fun hHeld2=>?_);clear hK K hHeld hcn;have hHeld:=hHeld2;clear hHeld2
 try simp only [pU]
 refine tA 6 167 (.agg #[.int .i64 4,.int .i64 0,.string nb,.slice none 0 0,.slice none 0 0]) rfl ?_
 try simp only [pU]
 refine aV 7 168 rfl (fun K hK=>?_);go_simp;refine (rSomeV _ _ _ _ _ _ _ _ _ _).mono ?_;rintro e Y2 ⟨rfl,hb⟩;have HY2:=aW (HY1.out.keep hb);refine hK.out _ _ (by exact HY2.out.b0) (fun hHeld2=>?_);clear hK K hHeld hb;have hHeld:=hHeld2;clear hHeld2
 try simp only [pU]
 refine aU 8 rfl (fun K hK=>?_);rw [if_pos (by kernel_rfl)];refine wp_store_mid 40 (.tmp 4) (.tmp 168) rfl (w.heap.size+1) 0 #[.int .i64 4,.int .i64 0,.string nb,.slice none 0 0,.slice none 0 0,.bool true] rfl rfl HY2.out.b1.there (by kernel_rfl) (by first | kernel_rfl | simp [Value.oneCell']) ?_;have HBR:=aW (HY2.out.b1.set6C (.int .i64 4) (.int .i64 0) (.string nb) (.slice none 0 0) (.slice none 0 0) (.bool true));have HPT:=aW (show IsP op F w (.returned (.agg #[.int .i64 4,.int .i64 0,.string nb,.slice none 0 0,.slice none 0 0,.bool true])) (Y2.setCells (w.heap.size+1) 0 [.int .i64 4,.int .i64 0,.string nb,.slice none 0 0,.slice none 0 0,.bool true]) by rw [← HNB.out];exact atomJ_put HX.out HGT.out (came_atom (by unfold iw;omega) (by unfold iw;omega) HNL.out) HFF.out HY2.out.1);refine hK.out _ _ (by exact Blk.farC hn1 _ 0 HY2.out.b0) (fun hHeld2=>?_);clear hK K hHeld;have hHeld:=hHeld2;clear hHeld2
 try simp only [pU]
 refine wpAnyH_worldM (fun Y3 hY=>?_);rw [← hY] at HBR HPT;clear hY;refine aX ?_;obtain ⟨cR,fR,lR⟩:=HBR.out.rules;go_wp2_with ((with_reducible refine bodyPost_ret (v:=.agg #[.int .i64 4,.int .i64 0,.string nb,.slice none 0 0,.slice none 0 0,.bool true]) ?_ rfl ?_);(simp only [results,Tryz.results17];go_simp);exact HPT.out)
set_option linter.unusedVariables false
set_option linter.unusedSimpArgs false
open Go.RowKit
theorem len1 {l:List EJ} (h:l.length=1):∃ a,l=[a]:=by
 match l,h with
 | [a],_=>exact ⟨a,rfl⟩
theorem len2 {l:List EJ} (h:l.length=2):∃ a b,l=[a,b]:=by
 match l,h with
 | [a,b],_=>exact ⟨a,b,rfl⟩
theorem okX_zero {k:Int} {v:JV} {s:List UInt8} {nk:Nat} (h:okX k v s nk=true) (hk:k=1∨k=2):nk=0:=by
 rcases hk with rfl | rfl
 ·unfold okX at h;rw [if_pos rfl,Bool.and_eq_true,decide_eq_true_eq] at h;exact h.2.2
 ·unfold okX at h;rw [if_neg (by decide)] at h;split at h
  ·cases h
  ·rw [if_pos rfl,Bool.and_eq_true,decide_eq_true_eq] at h;exact h.2
theorem rEval:∀ (r:Nat) (x:EJ) (cs:List Value) (EA:Option Addr) (n ec:Nat) (ecs:List (List Value)) (F:Nat→Prop) (env:List (List UInt8 × JV)) (w:World),deepE r x≠0→camE x→smlE x→(∀ b,F b→b<w.heap.size)→ER w F cs x →
  BnRs w F ecs env→RdF w F EA ecs.flatten→env.length=n→n≤4194304→(∀ b ∈ env,Came b.2∧good b.2=true)→Calls Tryz.prog 17 #[.agg cs.toArray,.slice EA n ec] w (IsP (evE env x) F w):=by
 intro r
 induction r with
 | zero=>intro x cs EA n ec ecs F env w h;exact absurd (by cases x;rfl) h
 | succ r ih =>
  rintro ⟨k,v,s,kids⟩ cs EA n ec ecs F env w hd hcx hsx hF hx hE hR hn hl hce;obtain ⟨_,hok,hkd⟩:=deepE_out hd;have hcx0:=hcx;unfold camE at hcx0;obtain ⟨_,_,_,_,hkc⟩:=hcx0;have hsx0:=hsx;unfold smlE at hsx0;have KID:∀ y ∈ kids,KidR EA n ec F env w y:=fun y hy W cs hb hc =>
   ih y cs EA n ec ecs F env W (hkd y hy) (camEL_iff.1 hkc y hy) (smlEL_iff.1 hsx0.2 y hy) (fun b hb'=>Nat.lt_of_lt_of_le (hF b hb') hb.size) hc (RR.imp hE fun c z hz=>hz.keep (KeepF.of_below hb)) (hR.keep (KeepF.of_below hb)) hn hl hce
  have hev:evE env (.mk k v s kids)=combJ env k v s (kids.map (evE env)):=by rw [evE,evL_map]
  rw [hev];obtain ⟨k1,k15,hlit,h1,h2⟩:=okX_kind hok;have hk:k=1∨k=2∨k=3∨k=4∨k=5∨k=6∨k=7∨k=8∨k=9∨k=10∨k=11∨k=12∨k=13∨k=14∨k=15:=by omega
  have kz:KidR EA n ec F env w eZero→True:=fun _=>trivial
  rcases hk with rfl | rfl | rfl | rfl | rfl | rfl | rfl | rfl | rfl | rfl | rfl | rfl | rfl | rfl | rfl
  ·have h0:=okX_zero hok (.inl rfl);obtain rfl:kids=[]:=List.length_eq_zero_iff.1 h0;have hg:good v=true:=by have:=hlit rfl;unfold litOk at this;rw [Bool.and_eq_true] at this;exact this.1
   exact rEv1 (ya:=eZero) (yb:=eZero) hF hx hcx hg _ rfl
  ·have h0:=okX_zero hok (.inr rfl);obtain rfl:kids=[]:=List.length_eq_zero_iff.1 h0;exact rEv2 (ya:=eZero) (yb:=eZero) hF hx hcx hE hR hn hl hce _ rfl
  ·obtain ⟨a,rfl⟩:=len1 (h1 (by omega));exact rEv3 (ya:=a) (yb:=a) hF hx hcx (KID a (by simp)) (KID a (by simp)) _ _ rfl rfl _ rfl
  ·exact rEv4 hF hx KID hsx0.1 _ rfl
  ·obtain ⟨a,rfl⟩:=len1 (h1 (by omega));exact rEv5 (ya:=a) (yb:=a) hF hx hcx (KID a (by simp)) (KID a (by simp)) _ _ rfl rfl _ rfl
  ·obtain ⟨a,rfl⟩:=len1 (h1 (by omega));exact rEv6 (ya:=a) (yb:=a) hF hx hcx (KID a (by simp)) (KID a (by simp)) _ _ rfl rfl _ rfl
  ·obtain ⟨a,rfl⟩:=len1 (h1 (by omega));exact rEv7 (ya:=a) (yb:=a) hF hx hcx (KID a (by simp)) (KID a (by simp)) _ _ rfl rfl _ rfl
  all_goals
   obtain ⟨a,b,rfl⟩:=len2 (h2 (by omega))
  ·exact rEv8 hF hx hcx (KID a (by simp)) (KID b (by simp)) _ _ rfl rfl _ rfl
  ·exact rEv9 hF hx hcx (KID a (by simp)) (KID b (by simp)) _ _ rfl rfl _ rfl
  ·exact rEv10 hF hx hcx (KID a (by simp)) (KID b (by simp)) _ _ rfl rfl _ rfl
  ·exact rEv11 hF hx hcx (KID a (by simp)) (KID b (by simp)) _ _ rfl rfl _ rfl
  ·exact rEv12 hF hx hcx (KID a (by simp)) (KID b (by simp)) _ _ rfl rfl _ rfl
  ·exact rEv13 hF hx hcx (KID a (by simp)) (KID b (by simp)) _ _ rfl rfl _ rfl
  ·exact rEv14 hF hx hcx (KID a (by simp)) (KID b (by simp)) _ _ rfl rfl _ rfl
  ·exact rEv15 hF hx hcx (KID a (by simp)) (KID b (by simp)) _ _ rfl rfl _ rfl
set_option linter.unusedVariables false
set_option linter.unusedSimpArgs false
open Go.RowKit
attribute [local go_sem] run_index_arr run_part_agg run_part_one run_field_agg
end Go.Proofs.YtgolomgmnanbpaaGreatDoor
