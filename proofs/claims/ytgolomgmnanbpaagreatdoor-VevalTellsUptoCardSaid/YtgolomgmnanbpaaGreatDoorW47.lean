import Derived.Test.YtgolomgmnanbpaaGreatDoorW45
import Derived.Test.YtgolomgmnanbpaaGreatDoorW36
import Derived.Test.YtgolomgmnanbpaaGreatDoorW01
import Derived.Test.YtgolomgmnanbpaaGreatDoorW46
import Derived.Test.YtgolomgmnanbpaaGreatDoorW19
import Derived.Test.YtgolomgmnanbpaaGreatDoorW22
import Derived.Test.YtgolomgmnanbpaaGreatDoorW16
import Derived.Deep.RegionHeld3
import Derived.Test.YtgolomgmnanbpaaGreatDoorW30
set_option maxRecDepth 100000
set_option maxHeartbeats 16000000
namespace Go.Proofs.YtgolomgmnanbpaaGreatDoor
set_option linter.unusedVariables false
set_option linter.unusedSimpArgs false
def xName (s:List UInt8):EJ:=.mk 2 jZero s []
def xInt (n:Int):EJ:=.mk 1 (jNum n) [] []
def xOf (k:Int) (l:List EJ):EJ:=.mk k jZero [] l
def xFalse:EJ:=.mk 1 (.mk 2 0 [] [] []) [] []
def wx1:EJ:=xOf 9 [xName [110],xInt 1]
def wx2:EJ:=xOf 9 [xInt 9223372036854775807,xInt 1]
def wx3:EJ:=xOf 14 [xFalse,xInt 1]
def wpr:List SJ:=[.mk 3 [120] (xName docT) eZero [.mk 1 [] (xName [120]) (xName idT) [] []] []]
theorem wk1:evalJ wx1 [([110],jNum 3)]=some (jNum 4):=by
 unfold evalJ;rw [if_pos ⟨by decide,by decide⟩];rfl
theorem wk2:evalJ wx2 []=none:=by
 unfold evalJ;rw [if_pos ⟨by decide,by decide⟩];rfl
theorem wk3:evalJ wx3 []=some (jBool false):=by
 unfold evalJ;rw [if_pos ⟨by decide,by decide⟩];rfl
theorem wk4:mapJ wpr [97] (jArr [jNum 7])=([(jNum 7,jText [97])],0):=by
 unfold mapJ;rw [if_neg (by decide),if_neg (by decide),if_neg (by decide)];rfl
theorem wk5:mapJ wpr [65] (.mk 1 0 [] [] [])=([],290):=by
 unfold mapJ;rw [if_neg (by decide),if_pos (by decide)]
set_option linter.unusedVariables false
set_option linter.unusedSimpArgs false
open Go.RowKit
attribute [local go_sem] run_index_arr run_part_agg run_part_one run_field_agg
theorem lOf25 (k:Int) (A:Option Addr) (n c:Nat) (w:World):Calls Tryz.prog 28 #[.int .i64 k,.slice A n c] w (CelP #[.int .i64 k,.int .i64 0,.int .i64 0,.string ⟨#[]⟩,.slice none 0 0,.slice none 0 0,.string ⟨#[]⟩,.slice A n c] w):=by
 go_enter Tryz.func28,Tryz.ntmps28;go_wp2;refine bodyPost_ret (v:=.agg #[.int .i64 k,.int .i64 0,.int .i64 0,.string ⟨#[]⟩,.slice none 0 0,.slice none 0 0,.string ⟨#[]⟩,.slice A n c]) (by simp only [results,Tryz.results28];go_simp) rfl ?_;exact ⟨rfl,by go_grown⟩
theorem rdF_blk {w:World} {g:Nat} {t:TypeId} {l:List Value} (h:Blk w g t l.toArray):RdF w TT (some ⟨g,0,none⟩) l:=fun hne =>
 ⟨g,0,rfl,h.lt,trivial,fun i hi=>by rw [Nat.zero_add,h.cell];simp [hi]⟩
theorem er_two {w:World} {c1 c2:List Value} {x1 x2:EJ} {g:Nat} (k:Int) (h1:ER w TT c1 x1) (h2:ER w TT c2 x2) (hb:Blk w g 28 (c1++c2).toArray):ER w TT [.int .i64 k,.int .i64 0,.int .i64 0,.string ⟨#[]⟩,.slice none 0 0,.slice none 0 0,.string ⟨#[]⟩,.slice (some ⟨g,0,none⟩) 2 2] (xOf k [x1,x2]) :=
 ER.into (kids:=[x1,x2]) (css:=[c1,c2]) (s:=[]) VR.zero ((RR.nil.snoc h1).snoc h2) rfl (Nat.le_refl _) (fun e=>by cases e) (by simpa using rdF_blk hb)
theorem er_name {w:World} (s:List UInt8):ER w TT [.int .i64 2,.int .i64 0,.int .i64 0,.string ⟨#[]⟩,.slice none 0 0,.slice none 0 0,.string ⟨s.toArray⟩,.slice none 0 0] (xName s):=ER.leaf 2 s VR.zero
theorem er_int {w:World} (n:Int):ER w TT [.int .i64 1,.int .i64 3,.int .i64 n,.string ⟨#[]⟩,.slice none 0 0,.slice none 0 0,.string ⟨#[]⟩,.slice none 0 0] (xInt n):=ER.leaf 1 [] (VR.atom 3 n [])
theorem er_false {w:World}:ER w TT [.int .i64 1,.int .i64 2,.int .i64 0,.string ⟨#[]⟩,.slice none 0 0,.slice none 0 0,.string ⟨#[]⟩,.slice none 0 0] xFalse:=ER.leaf 1 [] (VR.atom 2 0 [])
theorem cam_leaf {k:Int} {v:JV} {s:List UInt8} (hk:iw k) (hv:Came v) (hs:s.length≤4194304):camE (.mk k v s []):=by unfold camE;exact ⟨hk,hv,hs,by simp,trivial⟩
theorem came_z:Came jZero:=came_atom (by unfold iw;omega) (by unfold iw;omega) (by simp)
theorem cam_name {s:List UInt8} (hs:s.length≤4194304):camE (xName s):=cam_leaf (by unfold iw;omega) came_z hs
theorem cam_int {n:Int} (h:iw n):camE (xInt n):=cam_leaf (by unfold iw;omega) (came_num h) (by simp)
theorem cam_of {k:Int} {l:List EJ} (hk:iw k) (hl:l.length≤4194304) (h:∀ x ∈ l,camE x):camE (xOf k l):=by unfold xOf camE;exact ⟨hk,came_z,by simp,hl,camEL_iff.2 h⟩
theorem sml_leaf {k:Int} {v:JV} {s:List UInt8}:smlE (.mk k v s []):=by unfold smlE;exact ⟨by simp,trivial⟩
theorem sml_of {k:Int} {l:List EJ} (hl:l.length≤16000) (h:∀ x ∈ l,smlE x):smlE (xOf k l):=by unfold xOf smlE;exact ⟨hl,smlEL_iff.2 h⟩
theorem cam_two {a b:EJ} (ha:camE a) (hb:camE b):∀ x ∈ [a,b],camE x:=fun x hx=>by
 rcases List.mem_cons.1 hx with rfl | hx
 ·exact ha
 ·obtain rfl:=List.mem_singleton.1 hx;exact hb
theorem sml_two {a b:EJ} (ha:smlE a) (hb:smlE b):∀ x ∈ [a,b],smlE x:=fun x hx=>by
 rcases List.mem_cons.1 hx with rfl | hx
 ·exact ha
 ·obtain rfl:=List.mem_singleton.1 hx;exact hb
theorem EvaP.some_ {v:JV} {w w':World} {e:Ending} (h:EvaP (some v) w e w'):∃ cs:List Value,e=.returned (.tuple #[.agg cs.toArray,.bool true])∧VR w' TT cs v∧Came v∧Below w.heap.size w w':=by
 obtain ⟨cs,u,b,rfl,h1,h2,h3,_,_,h4⟩:=h;cases b with
 | false=>cases h3
 | true =>
  rw [if_pos rfl] at h3;obtain rfl:=Option.some.inj h3;exact ⟨cs,rfl,h1,h2,h4⟩
theorem EvaP.none__ {w w':World} {e:Ending} (h:EvaP none w e w'):∃ cs:List Value,e=.returned (.tuple #[.agg cs.toArray,.bool false])∧VR w' TT cs jZero∧Below w.heap.size w w':=by
 obtain ⟨cs,u,b,rfl,h1,h2,h3,_,h5,h4⟩:=h;cases b with
 | true=>cases h3
 | false=>rw [h5 rfl] at h1;exact ⟨cs,rfl,h1,h4⟩
theorem VR.atom_cells {W:World} {F:Nat→Prop} {cs:List Value} {k n:Int} {s:List UInt8} (h:VR W F cs (.mk k n s [] [])):∃ (A B:Option Addr) (ca cb:Nat),cs=[.int .i64 k,.int .i64 n,.string ⟨s.toArray⟩,.slice A 0 ca,.slice B 0 cb]:=by
 obtain ⟨A,B,ca,cb,css,rfl,_⟩:=h.out;exact ⟨A,B,ca,cb,rfl⟩
theorem lWakes (w:World) (hG:GOE w):Calls Tryz.prog 10 #[] w fun e w'=>e=.returned (.bool true)∧Below w.heap.size w w':=by
 have HG:=aW hG;clear hG;go_enter Tryz.func10,Tryz.ntmps10;have HH0:=aW (Held.nil w);go_wp2_with fail;refine (lNamed ⟨#[110]⟩ _).mono ?_;rintro e w1 ⟨rfl,hb⟩;have HH1:=aW (HH0.out.keep hb);clear hb;go_wp2_with fail;refine (lIn25 1 _).mono ?_;rintro e w2 ⟨rfl,hb⟩;have HH2:=aW (HH1.out.keep hb);clear hb;have HP3:=aW (HH2.out.push 28 #[.int .i64 2,.int .i64 0,.int .i64 0,.string ⟨#[]⟩,.slice none 0 0,.slice none 0 0,.string ⟨#[110]⟩,.slice none 0 0,.int .i64 1,.int .i64 3,.int .i64 1,.string ⟨#[]⟩,.slice none 0 0,.slice none 0 0,.string ⟨#[]⟩,.slice none 0 0] (g:=w2.heap.size) rfl);go_wp2_with fail;refine (lOf25 9 _ 2 2 _).mono ?_;rintro e w3 ⟨rfl,hb⟩;have HH3:=aW (HP3.out.keep hb);clear hb;have HQ3:=aW (HH3.out.push 37 #[.string ⟨#[110]⟩,.int .i64 3,.int .i64 3,.string ⟨#[]⟩,.slice none 0 0,.slice none 0 0] (g:=w3.heap.size) rfl);have HEV:=aW (vEval wx1 [.int .i64 9,.int .i64 0,.int .i64 0,.string ⟨#[]⟩,.slice none 0 0,.slice none 0 0,.string ⟨#[]⟩,.slice (some ⟨w2.heap.size,0,none⟩) 2 2] [([110],jNum 3)] [[.string ⟨#[110]⟩,.int .i64 3,.int .i64 3,.string ⟨#[]⟩,.slice none 0 0,.slice none 0 0]] (some ⟨w3.heap.size,0,none⟩) 1 1 _ (HG.out.keep HQ3.out.1) (er_two 9 (er_name [110]) (er_int 1) HQ3.out.b1) (RR.nil.snoc ⟨_,rfl,VR.atom 3 3 []⟩) rfl (Nat.le_refl _) (by simpa using rdF_blk HQ3.out.b0) (by omega)
  (cam_of (by unfold iw;omega) (by simp) (cam_two (cam_name (by simp)) (cam_int (by unfold iw;omega)))) (sml_of (by simp) (sml_two sml_leaf sml_leaf)) (fun b hb=>by obtain rfl:=List.mem_singleton.1 hb;exact came_num (by unfold iw;omega)))
 rw [wk1] at HEV;go_wp2_with fail;refine HEV.out.mono ?_;intro e w4 h;obtain ⟨cs4,rfl,hv,_,hb⟩:=h.some_;obtain ⟨A4,B4,ca4,cb4,rfl⟩:=(show VR w4 TT cs4 (.mk 3 4 [] [] []) from hv).atom_cells;have HH4:=aW ((HQ3.out.keep hb).pop.pop.push 25 #[.int .i64 3,.int .i64 4,.string ⟨#[]⟩,.slice A4 0 ca4,.slice B4 0 cb4] (g:=w4.heap.size) rfl);clear h hv hb HEV;obtain ⟨W4,hW4⟩:∃ W,w4.alloc (.cells #[.int .i64 3,.int .i64 4,.string ⟨#[]⟩,.slice A4 0 ca4,.slice B4 0 cb4] 25)=W:=⟨_,rfl⟩
 rw [hW4] at HH4;have HW4:=aW hW4;clear hW4;go_upto_region 2 with fail;rw [HW4.out];go_wp2_with fail;refine (lIn25 9223372036854775807 _).mono ?_;rintro e w5 ⟨rfl,hb⟩;have HH5:=aW (HH4.out.keep hb);clear hb;go_wp2_with fail;refine (lIn25 1 _).mono ?_;rintro e w6 ⟨rfl,hb⟩;have HH6:=aW (HH5.out.keep hb);clear hb;have HP7:=aW (HH6.out.push 28 #[.int .i64 1,.int .i64 3,.int .i64 9223372036854775807,.string ⟨#[]⟩,.slice none 0 0,.slice none 0 0,.string ⟨#[]⟩,.slice none 0 0,.int .i64 1,.int .i64 3,.int .i64 1,.string ⟨#[]⟩,.slice none 0 0,.slice none 0 0,.string ⟨#[]⟩,.slice none 0 0] (g:=w6.heap.size) rfl);go_wp2_with fail;refine (lOf25 9 _ 2 2 _).mono ?_;rintro e w7 ⟨rfl,hb⟩;have HH7:=aW (HP7.out.keep hb);clear hb;have HEV:=aW (vEval wx2 [.int .i64 9,.int .i64 0,.int .i64 0,.string ⟨#[]⟩,.slice none 0 0,.slice none 0 0,.string ⟨#[]⟩,.slice (some ⟨w6.heap.size,0,none⟩) 2 2] [] [] none 0 0 _ (HG.out.keep HH7.out.1) (er_two 9 (er_int 9223372036854775807) (er_int 1) HH7.out.b0) RR.nil rfl (Nat.le_refl _) RdF.nil (by omega)
  (cam_of (by unfold iw;omega) (by simp) (cam_two (cam_int (by unfold iw;omega)) (cam_int (by unfold iw;omega)))) (sml_of (by simp) (sml_two sml_leaf sml_leaf)) (fun b hb=>by cases hb))
 rw [wk2] at HEV;go_wp2_with fail;refine HEV.out.mono ?_;intro e w8 h;obtain ⟨cs8,rfl,hv,hb⟩:=h.none__;obtain ⟨A8,B8,ca8,cb8,rfl⟩:=(show VR w8 TT cs8 (.mk 0 0 [] [] []) from hv).atom_cells;have HH8:=aW ((HH7.out.keep hb).pop.push 25 #[.int .i64 0,.int .i64 0,.string ⟨#[]⟩,.slice A8 0 ca8,.slice B8 0 cb8] (g:=w8.heap.size) rfl);clear h hv hb HEV;obtain ⟨W8,hW8⟩:∃ W,w8.alloc (.cells #[.int .i64 0,.int .i64 0,.string ⟨#[]⟩,.slice A8 0 ca8,.slice B8 0 cb8] 25)=W:=⟨_,rfl⟩
 rw [hW8] at HH8;have HW8:=aW hW8;clear hW8;go_upto_region 3 with fail;rw [HW8.out];go_wp2_with fail;refine (lIn25 1 _).mono ?_;rintro e w9 ⟨rfl,hb⟩;have HH9:=aW (HH8.out.keep hb);clear hb;have HP10:=aW (HH9.out.push 28 #[.int .i64 1,.int .i64 2,.int .i64 0,.string ⟨#[]⟩,.slice none 0 0,.slice none 0 0,.string ⟨#[]⟩,.slice none 0 0,.int .i64 1,.int .i64 3,.int .i64 1,.string ⟨#[]⟩,.slice none 0 0,.slice none 0 0,.string ⟨#[]⟩,.slice none 0 0] (g:=w9.heap.size) rfl);go_wp2_with fail;refine (lOf25 14 _ 2 2 _).mono ?_;rintro e w10 ⟨rfl,hb⟩;have HH10:=aW (HP10.out.keep hb);clear hb;have HEV:=aW (vEval wx3 [.int .i64 14,.int .i64 0,.int .i64 0,.string ⟨#[]⟩,.slice none 0 0,.slice none 0 0,.string ⟨#[]⟩,.slice (some ⟨w9.heap.size,0,none⟩) 2 2] [] [] none 0 0 _ (HG.out.keep HH10.out.1) (er_two 14 er_false (er_int 1) HH10.out.b0) RR.nil rfl (Nat.le_refl _) RdF.nil (by omega)
  (cam_of (by unfold iw;omega) (by simp) (cam_two (cam_leaf (by unfold iw;omega) (came_bool false) (by simp)) (cam_int (by unfold iw;omega)))) (sml_of (by simp) (sml_two sml_leaf sml_leaf)) (fun b hb=>by cases hb))
 rw [wk3] at HEV;go_wp2_with fail;refine HEV.out.mono ?_;intro e w11 h;obtain ⟨cs11,rfl,hv,_,hb⟩:=h.some_;obtain ⟨A11,B11,ca11,cb11,rfl⟩:=(show VR w11 TT cs11 (.mk 2 0 [] [] []) from hv).atom_cells;have HH11:=aW ((HH10.out.keep hb).pop.push 25 #[.int .i64 2,.int .i64 0,.string ⟨#[]⟩,.slice A11 0 ca11,.slice B11 0 cb11] (g:=w11.heap.size) rfl);clear h hv hb HEV;obtain ⟨W11,hW11⟩:∃ W,w11.alloc (.cells #[.int .i64 2,.int .i64 0,.string ⟨#[]⟩,.slice A11 0 ca11,.slice B11 0 cb11] 25)=W:=⟨_,rfl⟩
 rw [hW11] at HH11;have HW11:=aW hW11;clear hW11;go_upto_region 4 with fail;rw [HW11.out];go_wp2_with fail;refine (lNamed ⟨#[100,111,99]⟩ _).mono ?_;rintro e w12 ⟨rfl,hb⟩;have HH12:=aW (HH11.out.keep hb);clear hb;go_wp2_with fail;refine (lNamed ⟨#[120]⟩ _).mono ?_;rintro e w13 ⟨rfl,hb⟩;have HH13:=aW (HH12.out.keep hb);clear hb;go_wp2_with fail;refine (lNamed ⟨#[105,100]⟩ _).mono ?_;rintro e w14 ⟨rfl,hb⟩;have HH14:=aW (HH13.out.keep hb);clear hb;obtain ⟨WP,hWP⟩:∃ W,((w14.alloc (.cells #[.int .i64 1,.string ⟨#[]⟩,.int .i64 2,.int .i64 0,.int .i64 0,.string ⟨#[]⟩,.slice none 0 0,.slice none 0 0,.string ⟨#[120]⟩,.slice none 0 0,.int .i64 2,.int .i64 0,.int .i64 0,.string ⟨#[]⟩,.slice none 0 0,.slice none 0 0,.string ⟨#[105,100]⟩,.slice none 0 0,.slice none 0 0,.slice none 0 0] 69)).alloc (.cells #[.int .i64 3,.string ⟨#[120]⟩,.int .i64 2,.int .i64 0,.int .i64 0,.string ⟨#[]⟩,.slice none 0 0,.slice none 0 0,.string ⟨#[100,111,99]⟩,.slice none 0 0,.int .i64 0,.int .i64 0,.int .i64 0,.string ⟨#[]⟩,.slice none 0 0,.slice none 0 0,.string ⟨#[]⟩,.slice none 0 0,.slice (some ⟨w14.heap.size,0,none⟩) 1 1,.slice none 0 0] 69)).alloc (.cells #[.slice (some ⟨w14.heap.size+1,0,none⟩) 1 1] 46)=W:=⟨_,rfl⟩
 have HHP:=aW (show Held (((w14.heap.size+1+1),46,#[.slice (some ⟨w14.heap.size+1,0,none⟩) 1 1])::((w14.heap.size+1),69,#[.int .i64 3,.string ⟨#[120]⟩,.int .i64 2,.int .i64 0,.int .i64 0,.string ⟨#[]⟩,.slice none 0 0,.slice none 0 0,.string ⟨#[100,111,99]⟩,.slice none 0 0,.int .i64 0,.int .i64 0,.int .i64 0,.string ⟨#[]⟩,.slice none 0 0,.slice none 0 0,.string ⟨#[]⟩,.slice none 0 0,.slice (some ⟨w14.heap.size,0,none⟩) 1 1,.slice none 0 0])::(w14.heap.size,69,#[.int .i64 1,.string ⟨#[]⟩,.int .i64 2,.int .i64 0,.int .i64 0,.string ⟨#[]⟩,.slice none 0 0,.slice none 0 0,.string ⟨#[120]⟩,.slice none 0 0,.int .i64 2,.int .i64 0,.int .i64 0,.string ⟨#[]⟩,.slice none 0 0,.slice none 0 0,.string ⟨#[105,100]⟩,.slice none 0 0,.slice none 0 0,.slice none 0 0])::_) w WP by
  rw [← hWP];exact ((HH14.out.push 69 #[.int .i64 1,.string ⟨#[]⟩,.int .i64 2,.int .i64 0,.int .i64 0,.string ⟨#[]⟩,.slice none 0 0,.slice none 0 0,.string ⟨#[120]⟩,.slice none 0 0,.int .i64 2,.int .i64 0,.int .i64 0,.string ⟨#[]⟩,.slice none 0 0,.slice none 0 0,.string ⟨#[105,100]⟩,.slice none 0 0,.slice none 0 0,.slice none 0 0] (g:=w14.heap.size) rfl).push 69 #[.int .i64 3,.string ⟨#[120]⟩,.int .i64 2,.int .i64 0,.int .i64 0,.string ⟨#[]⟩,.slice none 0 0,.slice none 0 0,.string ⟨#[100,111,99]⟩,.slice none 0 0,.int .i64 0,.int .i64 0,.int .i64 0,.string ⟨#[]⟩,.slice none 0 0,.slice none 0 0,.string ⟨#[]⟩,.slice none 0 0,.slice (some ⟨w14.heap.size,0,none⟩) 1 1,.slice none 0 0] (g:=w14.heap.size+1) (by simp)).push 46 #[.slice (some ⟨w14.heap.size+1,0,none⟩) 1 1] (g:=w14.heap.size+1+1) (by simp))
 have HWP:=aW hWP;clear hWP;have HSR:=aW (show ∀ W,Below WP.heap.size WP W→SRs W TT [[.int .i64 3,.string ⟨#[120]⟩,.int .i64 2,.int .i64 0,.int .i64 0,.string ⟨#[]⟩,.slice none 0 0,.slice none 0 0,.string ⟨#[100,111,99]⟩,.slice none 0 0,.int .i64 0,.int .i64 0,.int .i64 0,.string ⟨#[]⟩,.slice none 0 0,.slice none 0 0,.string ⟨#[]⟩,.slice none 0 0,.slice (some ⟨w14.heap.size,0,none⟩) 1 1,.slice none 0 0]] wpr∧RdF W TT (some ⟨w14.heap.size+1,0,none⟩) ([[.int .i64 3,.string ⟨#[120]⟩,.int .i64 2,.int .i64 0,.int .i64 0,.string ⟨#[]⟩,.slice none 0 0,.slice none 0 0,.string ⟨#[100,111,99]⟩,.slice none 0 0,.int .i64 0,.int .i64 0,.int .i64 0,.string ⟨#[]⟩,.slice none 0 0,.slice none 0 0,.string ⟨#[]⟩,.slice none 0 0,.slice (some ⟨w14.heap.size,0,none⟩) 1 1,.slice none 0 0]]:List (List Value)).flatten from fun W hW=>by
  have hh:=HHP.out.keep hW;have h1:SR W TT [.int .i64 1,.string ⟨#[]⟩,.int .i64 2,.int .i64 0,.int .i64 0,.string ⟨#[]⟩,.slice none 0 0,.slice none 0 0,.string ⟨#[120]⟩,.slice none 0 0,.int .i64 2,.int .i64 0,.int .i64 0,.string ⟨#[]⟩,.slice none 0 0,.slice none 0 0,.string ⟨#[105,100]⟩,.slice none 0 0,.slice none 0 0,.slice none 0 0] (.mk 1 [] (xName [120]) (xName idT) [] []):=SR.into (er_name [120]) (er_name idT) (body:=[]) (els:=[]) (css:=[]) (dss:=[]) RR.nil rfl (Nat.le_refl _) (fun _=>rfl) RdF.nil RR.nil rfl (Nat.le_refl _) (fun _=>rfl) RdF.nil;have h2:SR W TT [.int .i64 3,.string ⟨#[120]⟩,.int .i64 2,.int .i64 0,.int .i64 0,.string ⟨#[]⟩,.slice none 0 0,.slice none 0 0,.string ⟨#[100,111,99]⟩,.slice none 0 0,.int .i64 0,.int .i64 0,.int .i64 0,.string ⟨#[]⟩,.slice none 0 0,.slice none 0 0,.string ⟨#[]⟩,.slice none 0 0,.slice (some ⟨w14.heap.size,0,none⟩) 1 1,.slice none 0 0] (.mk 3 [120] (xName docT) eZero [.mk 1 [] (xName [120]) (xName idT) [] []] []):=SR.into (er_name docT) ER.zero (css:=[[.int .i64 1,.string ⟨#[]⟩,.int .i64 2,.int .i64 0,.int .i64 0,.string ⟨#[]⟩,.slice none 0 0,.slice none 0 0,.string ⟨#[120]⟩,.slice none 0 0,.int .i64 2,.int .i64 0,.int .i64 0,.string ⟨#[]⟩,.slice none 0 0,.slice none 0 0,.string ⟨#[105,100]⟩,.slice none 0 0,.slice none 0 0,.slice none 0 0]]) (dss:=[]) (RR.nil.snoc h1) rfl (Nat.le_refl _) (fun e=>by cases e) (by simpa using rdF_blk hh.b2) RR.nil rfl (Nat.le_refl _) (fun _=>rfl) RdF.nil;exact ⟨RR.nil.snoc h2,by simpa using rdF_blk hh.b1⟩)
 have hcs:camSL wpr:=by
  have hz:camE eZero:=cam_leaf (by unfold iw;omega) came_z (by simp);unfold wpr camSL camS camSL camS;exact ⟨⟨by unfold iw;omega,by simp,cam_name (by decide),hz,by simp,by simp,⟨⟨by unfold iw;omega,by simp,cam_name (by decide),cam_name (by decide),by simp,by simp,trivial,trivial⟩,trivial⟩,trivial⟩,trivial⟩
 have hss:smlSL wpr:=by
  unfold wpr smlSL smlS smlSL smlS;exact ⟨⟨sml_leaf,sml_leaf,⟨⟨sml_leaf,sml_leaf,trivial,trivial⟩,trivial⟩,trivial⟩,trivial⟩
 have HCS:=aW (And.intro hcs hss);clear hcs hss;go_upto_region 5 with fail;rw [HWP.out];have HHV:=aW (HHP.out.push 25 #[.int .i64 3,.int .i64 7,.string ⟨#[]⟩,.slice none 0 0,.slice none 0 0] (g:=WP.heap.size) rfl);have HMA:=aW (mMap wpr [[.int .i64 3,.string ⟨#[120]⟩,.int .i64 2,.int .i64 0,.int .i64 0,.string ⟨#[]⟩,.slice none 0 0,.slice none 0 0,.string ⟨#[100,111,99]⟩,.slice none 0 0,.int .i64 0,.int .i64 0,.int .i64 0,.string ⟨#[]⟩,.slice none 0 0,.slice none 0 0,.string ⟨#[]⟩,.slice none 0 0,.slice (some ⟨w14.heap.size,0,none⟩) 1 1,.slice none 0 0]] (some ⟨w14.heap.size+1,0,none⟩) 1 1 [97] (jArr [jNum 7]) [.int .i64 5,.int .i64 0,.string ⟨#[]⟩,.slice (some ⟨WP.heap.size,0,none⟩) 1 1,.slice none 0 0] _ (HG.out.keep HHV.out.1) (HSR.out _ ((Below.refl _ WP).alloc (Nat.le_refl _) (.cells #[.int .i64 3,.int .i64 7,.string ⟨#[]⟩,.slice none 0 0,.slice none 0 0] 25))).1 rfl (Nat.le_refl _) (HSR.out _ ((Below.refl _ WP).alloc (Nat.le_refl _) (.cells #[.int .i64 3,.int .i64 7,.string ⟨#[]⟩,.slice none 0 0,.slice none 0 0] 25))).2 HCS.out.1 HCS.out.2 (by omega) (by simp)
  (VR.into 5 0 [] (kids:=[jNum 7]) (keys:=[]) (css:=[[.int .i64 3,.int .i64 7,.string ⟨#[]⟩,.slice none 0 0,.slice none 0 0]]) (VRs.nil.snoc (VR.atom 3 7 [])) (Nat.le_refl _) (Nat.le_refl _) (fun e=>by cases e) (fun _=>rfl) (by simpa using rdF_blk HHV.out.b0) RdF.nil rfl rfl)
  (came_good (xs:=[jNum 7]) (fun x hx=>by obtain rfl:=List.mem_singleton.1 hx;exact ⟨came_num (by unfold iw;omega),by decide⟩) (by simp)))
 rw [wk4] at HMA;obtain ⟨c0,f0,l0⟩:=HHP.out.b0.rules;go_wp2_with fail;refine HMA.out.mono ?_;rintro e wA ⟨MA,mn,mcap,ess,rfl,hmn,hmc,_,hem,hrd,_,hbA⟩;obtain rfl:1=mn:=hmn;have HHA:=aW (HHV.out.keep hbA);have hbPA:Below WP.heap.size WP wA:=((Below.refl _ WP).alloc (Nat.le_refl _) (.cells #[.int .i64 3,.int .i64 7,.string ⟨#[]⟩,.slice none 0 0,.slice none 0 0] 25)).trans (hbA.mono (by simp));have HSA:=aW (HSR.out _ hbPA);obtain ⟨ce,hce,hev⟩:=hem.get_ (i:=0) (x:=(jNum 7,jText [97])) rfl;obtain ⟨kcs,vcs,rfl,hk9,hv9⟩:=hev;obtain ⟨A8,B8,ca8,cb8,rfl⟩:=(show VR wA TT kcs (.mk 3 7 [] [] []) from hk9).atom_cells;obtain ⟨A9,B9,ca9,cb9,rfl⟩:=(show VR wA TT vcs (.mk 4 0 [97] [] []) from hv9).atom_cells;obtain ⟨eb,eo,ec,rfl,heb,_,hce2,_,hcell⟩:=hem.cell (fun c x h=>h.len) (by decide) hrd (i:=0) (x:=(jNum 7,jText [97])) rfl;rw [hce] at hce2;obtain rfl:=Option.some.inj hce2;have e1:=hcell 1 (.int .i64 7) (by decide) rfl;have e7:=hcell 7 (.string ⟨#[97]⟩) (by decide) rfl;rw [Nat.zero_mul,Nat.zero_add] at e1 e7;have HEC:=aW (And.intro heb (And.intro e1 e7));clear hmc hem hrd hbA hbPA hce hk9 hv9 heb hce2 hcell e1 e7 c0 f0 l0;have HMB:=aW (mMap wpr [[.int .i64 3,.string ⟨#[120]⟩,.int .i64 2,.int .i64 0,.int .i64 0,.string ⟨#[]⟩,.slice none 0 0,.slice none 0 0,.string ⟨#[100,111,99]⟩,.slice none 0 0,.int .i64 0,.int .i64 0,.int .i64 0,.string ⟨#[]⟩,.slice none 0 0,.slice none 0 0,.string ⟨#[]⟩,.slice none 0 0,.slice (some ⟨w14.heap.size,0,none⟩) 1 1,.slice none 0 0]] (some ⟨w14.heap.size+1,0,none⟩) 1 1 [65] (.mk 1 0 [] [] []) [.int .i64 1,.int .i64 0,.string ⟨#[]⟩,.slice none 0 0,.slice none 0 0] wA (HG.out.keep HHA.out.1) HSA.out.1 rfl (Nat.le_refl _) HSA.out.2 HCS.out.1 HCS.out.2 (by omega) (by simp) (VR.atom 1 0 []) (came_atom (by unfold iw;omega) (by unfold iw;omega) (by simp)));rw [wk5] at HMB;obtain ⟨c0,f0,l0⟩:=HHA.out.b1.rules;go_wp2_with fail;refine HMB.out.mono ?_;rintro e wB ⟨MB2,mn2,mcap2,ess2,rfl,hmn2,_,_,_,_,_,hbB⟩;have HHB:=aW (HHA.out.keep hbB);have heb:eb<wB.heap.size:=Nat.lt_of_lt_of_le HEC.out.1 hbB.size;have e1:=(hbB.cell (p:=⟨eb,eo+1,none⟩) HEC.out.1).trans HEC.out.2.1;have e7:=(hbB.cell (p:=⟨eb,eo+7,none⟩) HEC.out.1).trans HEC.out.2.2;clear hbB c0 f0 l0;obtain ⟨c1,f1,l1⟩:=HHB.out.b6.rules;obtain ⟨c5,f5,l5⟩:=HHB.out.b4.rules;go_wp2;go_ret;exact ⟨rfl,HHB.out.1⟩
set_option linter.unusedVariables false
set_option linter.unusedSimpArgs false
open Go.RowKit
attribute [local go_sem] run_index_arr run_part_agg run_part_one run_field_agg
mutual
theorem cam_locE:∀ (x:EJ),locE 4194304 x→camE x
 | .mk k v s kids,h=>by
  unfold locE at h;obtain ⟨_,h1,h2,h3,h4,h5,h6⟩:=h;unfold camE;exact ⟨h1,Came.of h2 h3,h4,h5,cam_locEL kids h6⟩
theorem cam_locEL:∀ (l:List EJ),locEL 4194304 l→camEL l
 | [],_=>trivial
 | x::r,h=>by unfold locEL at h;unfold camEL;exact ⟨cam_locE x h.1,cam_locEL r h.2⟩
end
set_option linter.unusedVariables false
set_option linter.unusedSimpArgs false
open Go.RowKit
attribute [local go_sem] run_index_arr run_part_agg run_part_one run_field_agg
set_option maxHeartbeats 32000000 in
theorem vevalTells_any (cs0:Array Value) (x0:EJ) (A1:Option Addr) (ca1:Nat) (l1:List (List UInt8 × JV)) (w:World) (hG:GOE w) (h0:ER w TT cs0.toList x0) (c0:locE 4194304 x0) (h1:RowB w A1 ca1 l1) (b1:∀ v ∈ l1,locB 4194304 v) (m1:l1.length≤4194304) :
  Calls Tryz.prog 3 #[.agg cs0,.slice A1 l1.length ca1] w (BoolS true w):=by
 obtain ⟨l0,rfl⟩:∃ l:List Value,cs0=l.toArray:=⟨cs0.toList,by simp⟩
 replace h0:ER w TT l0 x0:=by simpa using h0
 have g0:=cam_locE _ c0;obtain ⟨x,hx⟩:∃ y,cutE 14 x0=y:=⟨_,rfl⟩
 have HCX:=aW (fun (W:World) (hb:Below w.heap.size w W)=>show Calls Tryz.prog 11 #[.agg l0.toArray,.int .i64 14] W (CutP x (fun b=>b<w.heap.size) W) by
  rw [← hx];exact lExprC (fun b=>b<w.heap.size) 14 x0 l0 14 W rfl (fun b h=>Nat.lt_of_lt_of_le h hb.size) ((h0.mono (F':=fun b=>b<w.heap.size) fun b hb _=>hb).bel hb) g0 (Nat.le_refl _))
 have HXX:=aW (show camE x∧smlE x by rw [← hx];exact ⟨cam_cutE 14 _ g0,sml_cutE 14 _⟩);obtain ⟨css,hS,hnc,hA,hR⟩:=h1;obtain ⟨n1,hn1⟩:∃ n,l1.length=n:=⟨_,rfl⟩
 rw [hn1] at hnc m1 ⊢;obtain ⟨env,henv⟩:∃ y,l1.take 20=y:=⟨_,rfl⟩
 have HBN:=aW (fun (W:World) (hb:Below w.heap.size w W)=>show Calls Tryz.prog 12 #[.slice A1 n1 ca1] W (BndP env (fun b=>b<w.heap.size) W) by
  rw [← henv];exact lBinds (fun b=>b<w.heap.size) l1 A1 n1 ca1 css W (fun b h=>Nat.lt_of_lt_of_le h hb.size) (RR.imp hS fun c x hc=>(hc.mono (F':=fun b=>b<w.heap.size) fun b hb _=>hb).keep (KeepF.of_below hb)) ((hR.mono (F':=fun b=>b<w.heap.size) fun b hb _=>hb).keep (KeepF.of_below hb)) hA hn1 hnc m1)
 have HEC:=aW (show env.length≤20∧∀ b ∈ env,Came b.2 from ⟨by rw [← henv];simp;omega,fun b hb=>by
  have:=b1 b (by rw [← henv] at hb;exact List.mem_of_mem_take hb);exact Came.of this.2.2.1 this.2.2.2⟩)
 obtain ⟨k0,p0,n0,s0,A0,na0,ca0,B0,nb0,cb0,z0,C0,nc0,cc0,rfl⟩:=h0.form;have HG:=aW hG;have HH0:=aW ((Held.nil w).push 28 #[.int .i64 k0,.int .i64 p0,.int .i64 n0,.string s0,.slice A0 na0 ca0,.slice B0 nb0 cb0,.string z0,.slice C0 nc0 cc0] (g:=w.heap.size) rfl);clear hG h0 c0 g0 hx hS hnc hA hR b1 m1 hn1 henv;go_enter Tryz.func3,Tryz.ntmps3;go_wp2_with fail;refine (lWakes _ (HG.out.keep HH0.out.1)).mono ?_;rintro e w1 ⟨rfl,hb1⟩;have HH1:=aW (HH0.out.keep hb1);clear hb1 HH0;obtain ⟨c0,f0,l0⟩:=HH1.out.b0.rules;go_upto_region 3 with fail;go_wp2_with fail;refine (HCX.out _ HH1.out.1).mono ?_;rintro e w2 ⟨cs8,rfl,hv8,hb2⟩;have HH2:=aW (HH1.out.keep hb2);have hs1:w.heap.size<w1.heap.size:=HH1.out.b0.lt;have HE8:=aW (hv8.mono (F':=fun b=>b≠w.heap.size) fun b _ h=>by
  rcases h with h | h
  ·exact Nat.ne_of_lt h
  ·omega)
 obtain ⟨k8,p8,n8,s8,A8,na8,ca8,B8,nb8,cb8,z8,C8,nc8,cc8,rfl⟩:=hv8.form;clear hv8 hb2 c0 f0 l0;go_wp2_with fail;refine (HBN.out _ HH2.out.1).mono ?_;rintro e w3 ⟨A3,n3,ca3,css3,rfl,hl3,hc3,hS3,hR3,hb3⟩;have HH3:=aW (HH2.out.keep hb3);have hs2:w.heap.size<w2.heap.size:=HH2.out.b0.lt;have hFm:∀ b,b<w3.heap.size→FN (fun b=>b<w.heap.size) w2 b→b≠w.heap.size:=fun b _ h=>by
  rcases h with h | h
  ·exact Nat.ne_of_lt h
  ·omega
 have HKF:=aW (KeepF.setC (F:=fun b=>b≠w.heap.size) (b:=w.heap.size) (fun k hk=>hk) [.int .i64 k8,.int .i64 p8,.int .i64 n8,.string s8,.slice A8 na8 ca8,.slice B8 nb8 cb8,.string z8,.slice C8 nc8 cc8] 0 (KeepF.refl (W:=w3)));have HE9:=aW ((HE8.out.bel hb3).keep HKF.out);have HS9:=aW (And.intro (RR.imp hS3 fun c x hc=>(hc.mono hFm).keep HKF.out) ((hR3.mono hFm).keep HKF.out));have HN3:=aW (And.intro hl3 hc3);have HB9:=aW (HH3.out.b0.set8C (.int .i64 k8) (.int .i64 p8) (.int .i64 n8) (.string s8) (.slice A8 na8 ca8) (.slice B8 nb8 cb8) (.string z8) (.slice C8 nc8 cc8));have HL9:=aW (bel_setC (B:=w.heap.size) (b:=w.heap.size) (Nat.le_refl _) [.int .i64 k8,.int .i64 p8,.int .i64 n8,.string s8,.slice A8 na8 ca8,.slice B8 nb8 cb8,.string z8,.slice C8 nc8 cc8] 0 HH3.out.1);clear hb3 hl3 hc3 hS3 hR3 hFm
 try simp only []
 first | (refine wpList_store_mid rfl 28 (.tmp 2) (.tmp 16) rfl (w.heap.size) 0 #[.int .i64 k8,.int .i64 p8,.int .i64 n8,.string s8,.slice A8 na8 ca8,.slice B8 nb8 cb8,.string z8,.slice C8 nc8 cc8] rfl rfl HH3.out.b0.there (by kernel_rfl) (by first | kernel_rfl | simp [Value.oneCell']) ?_) | (go_step;refine wpList_store_mid rfl 28 (.tmp 2) (.tmp 16) rfl (w.heap.size) 0 #[.int .i64 k8,.int .i64 p8,.int .i64 n8,.string s8,.slice A8 na8 ca8,.slice B8 nb8 cb8,.string z8,.slice C8 nc8 cc8] rfl rfl HH3.out.b0.there (by kernel_rfl) (by first | kernel_rfl | simp [Value.oneCell']) ?_) | (go_step;go_step;refine wpList_store_mid rfl 28 (.tmp 2) (.tmp 16) rfl (w.heap.size) 0 #[.int .i64 k8,.int .i64 p8,.int .i64 n8,.string s8,.slice A8 na8 ca8,.slice B8 nb8 cb8,.string z8,.slice C8 nc8 cc8] rfl rfl HH3.out.b0.there (by kernel_rfl) (by first | kernel_rfl | simp [Value.oneCell']) ?_) | (go_step;go_step;go_step;refine wpList_store_mid rfl 28 (.tmp 2) (.tmp 16) rfl (w.heap.size) 0 #[.int .i64 k8,.int .i64 p8,.int .i64 n8,.string s8,.slice A8 na8 ca8,.slice B8 nb8 cb8,.string z8,.slice C8 nc8 cc8] rfl rfl HH3.out.b0.there (by kernel_rfl) (by first | kernel_rfl | simp [Value.oneCell']) ?_) | (go_step;go_step;go_step;go_step;refine wpList_store_mid rfl 28 (.tmp 2) (.tmp 16) rfl (w.heap.size) 0 #[.int .i64 k8,.int .i64 p8,.int .i64 n8,.string s8,.slice A8 na8 ca8,.slice B8 nb8 cb8,.string z8,.slice C8 nc8 cc8] rfl rfl HH3.out.b0.there (by kernel_rfl) (by first | kernel_rfl | simp [Value.oneCell']) ?_) | (go_step;go_step;go_step;go_step;go_step;refine wpList_store_mid rfl 28 (.tmp 2) (.tmp 16) rfl (w.heap.size) 0 #[.int .i64 k8,.int .i64 p8,.int .i64 n8,.string s8,.slice A8 na8 ca8,.slice B8 nb8 cb8,.string z8,.slice C8 nc8 cc8] rfl rfl HH3.out.b0.there (by kernel_rfl) (by first | kernel_rfl | simp [Value.oneCell']) ?_)
 obtain ⟨w4,hw4⟩:∃ W',w3.setCells w.heap.size 0 [.int .i64 k8,.int .i64 p8,.int .i64 n8,.string s8,.slice A8 na8 ca8,.slice B8 nb8 cb8,.string z8,.slice C8 nc8 cc8]=W':=⟨_,rfl⟩
 rw [hw4] at HE9 HS9 HB9 HL9
 try simp only []
 rw [hw4];clear hw4 HE8 HKF HH1 HH2 HH3 hs1 hs2;have HR4:=aW (fun (W:World) (h:Below w4.heap.size w4 W)=>show ER W TT [.int .i64 k8,.int .i64 p8,.int .i64 n8,.string s8,.slice A8 na8 ca8,.slice B8 nb8 cb8,.string z8,.slice C8 nc8 cc8] x∧BnRs W TT css3 env∧RdF W TT A3 css3.flatten∧GOE W∧Blk W w.heap.size 28 #[.int .i64 k8,.int .i64 p8,.int .i64 n8,.string s8,.slice A8 na8 ca8,.slice B8 nb8 cb8,.string z8,.slice C8 nc8 cc8]∧Below w.heap.size w W from
  ⟨(HE9.out.mono fun _ _ _=>trivial).bel h,RR.imp HS9.out.1 fun c x hc=>(hc.mono fun _ _ _=>trivial).keep (KeepF.of_below h),(HS9.out.2.mono fun _ _ _=>trivial).keep (KeepF.of_below h),HG.out.keep (HL9.out.trans (h.mono HL9.out.size)),HB9.out.keep h,HL9.out.trans (h.mono HL9.out.size)⟩)
 have HN:=aW (show env.length=n3∧n3≤ca3∧n3≤20 from ⟨HN3.out.1.symm,HN3.out.2,by rw [HN3.out.1];exact HEC.out.1⟩);have hn20:n3≤20:=HN.out.2.2;clear HE9 HS9 HN3 HB9 HL9;have HEV:=aW (vEval x [.int .i64 k8,.int .i64 p8,.int .i64 n8,.string s8,.slice A8 na8 ca8,.slice B8 nb8 cb8,.string z8,.slice C8 nc8 cc8] env css3 A3 n3 ca3 w4 (HR4.out _ (Below.refl _ _)).2.2.2.1 (HR4.out _ (Below.refl _ _)).1 (HR4.out _ (Below.refl _ _)).2.1 HN.out.1 HN.out.2.1 (HR4.out _ (Below.refl _ _)).2.2.1 (by omega) HXX.out.1 HXX.out.2 HEC.out.2);obtain ⟨op,hop⟩:∃ q,evalJ x env=q:=⟨_,rfl⟩
 have HOP:=aW hop;rw [hop] at HEV;clear hop;obtain ⟨c0,f0,l0⟩:=(HR4.out _ (Below.refl _ _)).2.2.2.2.1.rules;go_upto_region 4 with fail;go_wp2_with fail;refine HEV.out.mono ?_;rintro e w5 ⟨cs5,v5,b5,rfl,hv5,hc5,ho5,hg5,hz5,hb5⟩;obtain ⟨k5,n5,s5,A5,na5,ca5,B5,nb5,cb5,rfl⟩:=hv5.form;obtain ⟨W5,hW5⟩:∃ W,w5.alloc (.cells #[.int .i64 k5,.int .i64 n5,.string s5,.slice A5 na5 ca5,.slice B5 nb5 cb5] 25)=W:=⟨_,rfl⟩
 have HW5:=aW hW5;have HB45:=aW (show Below w4.heap.size w4 W5 by rw [← hW5];exact hb5.trans (((Below.refl _ w5).alloc (Nat.le_refl _) _).mono hb5.size));have HK5:=aW (show Blk W5 w5.heap.size 25 #[.int .i64 k5,.int .i64 n5,.string s5,.slice A5 na5 ca5,.slice B5 nb5 cb5] by rw [← hW5];exact Blk.new _ _ _);have HV5:=aW (fun (W:World) (h:Below W5.heap.size W5 W)=>(hv5.bel (show Below w5.heap.size w5 W5 by rw [← hW5];exact (Below.refl _ w5).alloc (Nat.le_refl _) _)).bel h);have HQ5:=aW (And.intro hc5 (And.intro ho5 (And.intro hg5 hz5)));clear hv5 hc5 ho5 hg5 hz5 hb5 hW5 c0 f0 l0 HEV;go_upto_region 5 with fail;rw [HW5.out];clear HW5;have HR5:=aW (fun (W:World) (h:Below W5.heap.size W5 W)=>And.intro (HR4.out W (HB45.out.trans (h.mono HB45.out.size))) (HK5.out.keep h));obtain ⟨d,hd⟩:∃ d:Nat,dpR 13 x=d:=⟨_,rfl⟩
 have HDP:=aW (show Calls Tryz.prog 14 #[.agg #[.int .i64 k8,.int .i64 p8,.int .i64 n8,.string s8,.slice A8 na8 ca8,.slice B8 nb8 cb8,.string z8,.slice C8 nc8 cc8],.int .i64 13] W5 (DpS (d:Nat) W5) by rw [← hd];exact rDeep 13 x _ 13 W5 rfl (Nat.le_refl _) (HR5.out _ (Below.refl _ _)).1.1 HXX.out.1);have HMY:=aW (show (1≤d∧d≤12) ↔ fitE x by rw [← hd];exact deep_may x);clear hd;obtain ⟨c0,f0,l0⟩:=(HR5.out _ (Below.refl _ _)).1.2.2.2.2.1.rules;go_wp2_with fail;refine HDP.out.mono ?_;rintro e w6 ⟨rfl,hb6⟩;have HB6:=aW hb6;clear hb6 c0 f0 l0 HDP;obtain ⟨mb,hmb⟩:∃ b:Bool,decide (1≤d∧d≤12)=b:=⟨_,rfl⟩
 go_upto_region 6 with fail;go_cut [9] (fun s9 wx=>s9=.bool mb∧wx=w6)
 case first =>
  by_cases h1:1≤d
  ·have e1:decide ((1:Int)≤(d:Int))=true:=decide_eq_true (by omega);have e1':(1:Int)≤(d:Int):=by omega
   by_cases h2:d≤12
   ·have e2:decide ((d:Int)≤12)=true:=decide_eq_true (by omega);have e2':(d:Int)≤12:=by omega
    obtain rfl:mb=true:=by rw [← hmb];exact decide_eq_true ⟨h1,h2⟩
    clear hmb;go_wp2;go_meet
    case rel=>exact ⟨rfl,rfl⟩
   ·have e2:decide ((d:Int)≤12)=false:=decide_eq_false (by omega);have e2':¬ (d:Int)≤12:=by omega
    obtain rfl:mb=false:=by rw [← hmb];exact decide_eq_false (by omega)
    clear hmb;go_wp2;go_meet
    case rel=>exact ⟨rfl,rfl⟩
  ·have e1:decide ((1:Int)≤(d:Int))=false:=decide_eq_false (by omega);have e1':¬ (1:Int)≤(d:Int):=by omega
   obtain rfl:mb=false:=by rw [← hmb];exact decide_eq_false (by omega)
   clear hmb;go_wp2;go_meet
   case rel=>exact ⟨rfl,rfl⟩
 case rest =>
  obtain ⟨rfl,hw6⟩:=hcut;subst hw6;have HMB:=aW (show mb=decide (fitE x) by rw [← hmb,decide_eq_decide];exact HMY.out);clear hmb HMY;go_upto_region 8 with fail;go_loopg [9,35] n3 (fun gk s9 s35 wr => ∃ (i:Nat) (q:Bool),s9=.bool q∧i≤n3∧gk=n3-i∧s35=.int .i64 (i:Int)∧Hid (q=(mb && (env.take i).all fun b=>good b.2))∧Hid (Below W5.heap.size W5 wr))
  case atStart=>exact ⟨0,mb,rfl,Nat.zero_le _,by go_num,rfl,aW (by simp),HB6⟩
  case round =>
   obtain ⟨i,q,rfl,hin,hgk,rfl,HQQ,HWR⟩:=hrel;have HGK:=aW hgk;clear hgk HB6;by_cases hlt:i<n3
   ·obtain ⟨y,hy⟩:∃ y,env[i]? = some y:=⟨_,List.getElem?_eq_getElem (by rw [HN.out.1];exact hlt)⟩
    have hym:=List.mem_of_getElem? hy;obtain ⟨bb,oo,k7,n7,s7,A7,na7,ca7,B7,nb7,cb7,rfl,hbb,_,hvb,hz⟩:=kid_cellsB (HR5.out wr HWR.out).1.2.1 (HR5.out wr HWR.out).1.2.2.1 hy;obtain ⟨z0,z1,z2,z3,z4,z5⟩:=hz wr (KeepF.of_below (Below.refl _ _));have HTK:=aW (show env.take (i+1)=env.take i++[y] by rw [List.take_add_one,hy];rfl);obtain ⟨gq,hgq⟩:∃ g,good y.2=g:=⟨_,rfl⟩
    have HGQ:=aW hgq;have HRI:=aW (fun (W:World) (h:Below wr.heap.size wr W)=>show Calls Tryz.prog 15 #[.agg #[.int .i64 k7,.int .i64 n7,.string s7,.slice A7 na7 ca7,.slice B7 nb7 cb7]] W (BoolS gq W) by rw [← hgq];exact rRightG y.2 _ TT W (hvb.bel h) (HEC.out.2 y hym));obtain ⟨yb,hyb⟩:∃ b:ByteArray,(⟨y.1.toArray⟩:ByteArray)=b:=⟨_,rfl⟩
    rw [hyb] at z0;have HP:=aW ((Held.nil wr).push 37 #[.string yb,.int .i64 k7,.int .i64 n7,.string s7,.slice A7 na7 ca7,.slice B7 nb7 cb7] (g:=wr.heap.size) rfl);clear hz hvb hy hym hgq hyb;cases q with
    | false =>
     have HQ2:=aW (show false=(mb && (env.take (i+1)).all fun b=>good b.2) by
      rw [HTK.out,List.all_append,← Bool.and_assoc,← HQQ.out];rfl)
     go_wp2;go_roundg (n3-(i+1))
     case measure=>have:=HGK.out;omega
     case rel=>exact ⟨i+1,false,rfl,by omega,rfl,by go_num,HQ2,aW (HWR.out.trans (HP.out.1.mono HWR.out.size))⟩
    | true =>
     have HQ2:=aW (show gq=(mb && (env.take (i+1)).all fun b=>good b.2) by
      rw [HTK.out,List.all_append,← Bool.and_assoc,← HQQ.out];simp [HGQ.out])
     go_wp2_with fail;refine (HRI.out _ HP.out.1).mono ?_;rintro e w7 ⟨rfl,hb7⟩;have HP7:=aW (HP.out.keep hb7);clear hb7 z0 z1 z2 z3 z4 z5;go_wp2;go_roundg (n3-(i+1))
     case measure=>have:=HGK.out;omega
     case rel=>exact ⟨i+1,gq,rfl,by omega,rfl,by go_num,HQ2,aW (HWR.out.trans (HP7.out.1.mono HWR.out.size))⟩
   ·obtain rfl:i=n3:=by omega
    have HQF:=aW (show q=(decide (fitE x) && env.all fun b=>good b.2) by
     rw [HQQ.out,HMB.out,List.take_of_length_le (Nat.le_of_eq HN.out.1)])
    clear HQQ HMB;cases q with
    | false =>
     have hno:op=none:=by
      rw [← HOP.out];unfold evalJ;rw [if_neg];rintro ⟨h1,h2⟩;have h3:=HQF.out;rw [decide_eq_true h1,h2] at h3;cases h3
     have HB5:=aW (show b5=false∧v5=jZero by
      have h2:=HQ5.out.2.1;rw [hno] at h2;cases b5 with
      | true=>cases h2
      | false=>exact ⟨rfl,HQ5.out.2.2.2 rfl⟩)
     have HV0:=aW HB5.out.2;obtain rfl:=HB5.out.1;clear hno HB5;go_upto_region 13 with fail;obtain ⟨c9,f9,l9⟩:=(HR5.out _ HWR.out).2.rules;have HZE:=aW (fun (W:World) (h:Below W5.heap.size W5 W)=>rZeroG v5 [.int .i64 k5,.int .i64 n5,.string s5,.slice A5 na5 ca5,.slice B5 nb5 cb5] TT W (HV5.out W h));rw [HV0.out,show zeroJ jZero=true from rfl] at HZE;go_wp2_with fail;refine (HZE.out _ HWR.out).mono ?_;rintro e w9 ⟨rfl,hb9⟩;have HB9:=aW (HWR.out.trans (hb9.mono HWR.out.size));clear hb9 c9 f9 l9;go_wp2;go_ret;exact ⟨rfl,(HR5.out _ HB9.out).1.2.2.2.2.2⟩
    | true =>
     have h3:=HQF.out;rw [eq_comm,Bool.and_eq_true,decide_eq_true_eq,List.all_eq_true] at h3;have hop:op=evE env x:=by
      rw [← HOP.out];unfold evalJ;rw [if_pos ⟨h3.1,List.all_eq_true.2 h3.2⟩]
     have HRV:=aW (show Calls Tryz.prog 17 #[.agg #[.int .i64 k8,.int .i64 p8,.int .i64 n8,.string s8,.slice A8 na8 ca8,.slice B8 nb8 cb8,.string z8,.slice C8 nc8 cc8],.slice A3 i ca3] wr (IsP op (fun b=>b<wr.heap.size) wr) by
      rw [hop];exact rEval 12 x _ A3 i ca3 css3 (fun b=>b<wr.heap.size) env wr h3.1 HXX.out.1 HXX.out.2 (fun _ h=>h) ((HR5.out wr HWR.out).1.1.mono fun b hb _=>hb) (RR.imp (HR5.out wr HWR.out).1.2.1 fun c y hc=>hc.mono fun b hb _=>hb) ((HR5.out wr HWR.out).1.2.2.1.mono fun b hb _=>hb) HN.out.1 (by omega) (fun b hb=>⟨HEC.out.2 b hb,h3.2 b hb⟩))
     clear h3 hop HQF;obtain ⟨c0,f0,l0⟩:=(HR5.out _ HWR.out).1.2.2.2.2.1.rules;go_upto_region 14 with fail;go_wp2_with fail;refine HRV.out.mono ?_;rintro e w7 ⟨k6,n6,s6,A6,na6,ca6,B6,nb6,cb6,v6,b6,rfl,hv6,hc6,ho6,hg6,hz6,hb6⟩;obtain ⟨W8,hW8⟩:∃ W,w7.alloc (.cells #[.int .i64 k6,.int .i64 n6,.string s6,.slice A6 na6 ca6,.slice B6 nb6 cb6,.bool b6] 40)=W:=⟨_,rfl⟩
     have HW8:=aW hW8;have HB8:=aW (show Below W5.heap.size W5 W8 by rw [← hW8];exact (HWR.out.trans (hb6.mono HWR.out.size)).trans (((Below.refl _ w7).alloc (Nat.le_refl _) _).mono (HWR.out.trans (hb6.mono HWR.out.size)).size));have HK8:=aW (show Blk W8 w7.heap.size 40 #[.int .i64 k6,.int .i64 n6,.string s6,.slice A6 na6 ca6,.slice B6 nb6 cb6,.bool b6] by rw [← hW8];exact Blk.new _ _ _);have HV6:=aW (fun (W:World) (h:Below W8.heap.size W8 W)=>((hv6.mono (F':=TT) fun _ _ _=>trivial).bel (show Below w7.heap.size w7 W8 by rw [← hW8];exact (Below.refl _ w7).alloc (Nat.le_refl _) _)).bel h);have HQ6:=aW (And.intro hc6 (And.intro ho6 hg6));clear hv6 hc6 ho6 hg6 hz6 hb6 hW8 c0 f0 l0 HRV;go_upto_region 15 with fail;rw [HW8.out];clear HW8;obtain ⟨c8,f8,l8⟩:=HK8.out.rules;cases b6 with
     | false =>
      have hno:op=none:=HQ6.out.2.1;have HB5:=aW (show b5=false∧v5=jZero by
       have h2:=HQ5.out.2.1;rw [hno] at h2;cases b5 with
       | true=>cases h2
       | false=>exact ⟨rfl,HQ5.out.2.2.2 rfl⟩)
      have HV0:=aW HB5.out.2;obtain rfl:=HB5.out.1;clear hno HB5;go_upto_region 16 with fail;clear c8 f8 l8;obtain ⟨c9,f9,l9⟩:=(HR5.out _ HB8.out).2.rules;have HZE:=aW (fun (W:World) (h:Below W5.heap.size W5 W)=>rZeroG v5 [.int .i64 k5,.int .i64 n5,.string s5,.slice A5 na5 ca5,.slice B5 nb5 cb5] TT W (HV5.out W h));rw [HV0.out,show zeroJ jZero=true from rfl] at HZE;go_wp2_with fail;refine (HZE.out _ HB8.out).mono ?_;rintro e w9 ⟨rfl,hb9⟩;have HB9:=aW (HB8.out.trans (hb9.mono HB8.out.size));clear hb9 c9 f9 l9;go_wp2;go_ret;exact ⟨rfl,(HR5.out _ HB9.out).1.2.2.2.2.2⟩
     | true =>
      have hye:op=some v6:=HQ6.out.2.1;have HB5:=aW (show b5=true∧v5=v6 by
       have h2:=HQ5.out.2.1;rw [hye] at h2;cases b5 with
       | true=>exact ⟨rfl,(Option.some.inj h2).symm⟩
       | false=>cases h2)
      obtain rfl:=HB5.out.1;have hgd:=HQ6.out.2.2 (by first | rfl | trivial);have HSM:=aW (show Calls Tryz.prog 18 #[.agg #[.int .i64 k5,.int .i64 n5,.string s5,.slice A5 na5 ca5,.slice B5 nb5 cb5],.agg #[.int .i64 k6,.int .i64 n6,.string s6,.slice A6 na6 ca6,.slice B6 nb6 cb6]] W8 (BoolS true W8) by
       refine (rSameG v5 v6 _ _ TT TT W8 (HV5.out _ HB8.out) (HV6.out _ (Below.refl _ _)) HQ5.out.1 HQ6.out.1).mono ?_;rintro e w' ⟨t,rfl,ht,hb⟩;exact ⟨by rw [ht.2 ⟨by rw [HB5.out.2];exact hgd,hgd,HB5.out.2⟩],hb⟩)
      clear hye hgd;obtain ⟨c9,f9,l9⟩:=(HR5.out _ HB8.out).2.rules;go_upto_region 17 with fail;go_wp2_with fail;refine HSM.out.mono ?_;rintro e w9 ⟨rfl,hb9⟩;have HB9:=aW (HB8.out.trans (hb9.mono HB8.out.size));clear hb9 c8 f8 l8 c9 f9 l9;go_wp2;go_ret;exact ⟨rfl,(HR5.out _ HB9.out).1.2.2.2.2.2⟩
end Go.Proofs.YtgolomgmnanbpaaGreatDoor
