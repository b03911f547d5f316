import Derived.Test.YtgolomgmnanbpaaGreatDoorW26
import Derived.Test.YtgolomgmnanbpaaGreatDoorW25
import Derived.Test.YtgolomgmnanbpaaGreatDoorW01
import Derived.Test.YtgolomgmnanbpaaGreatDoorW28
set_option maxRecDepth 100000
set_option maxHeartbeats 16000000
namespace Go.Proofs.YtgolomgmnanbpaaGreatDoor
set_option linter.unusedVariables false
set_option linter.unusedSimpArgs false
open Go.RowKit
attribute [local go_sem] run_index_arr run_part_agg run_part_one run_field_agg
def AggS (cs:Array Value) (w:World) (e:Ending) (w':World):Prop:=e=.returned (.agg cs)∧Below w.heap.size w w'
theorem rSomeV (k n:Int) (s:ByteArray) (A:Option Addr) (na ca:Nat) (B:Option Addr) (nb cb:Nat) (w:World) :
  Calls Tryz.prog 46 #[.agg #[.int .i64 k,.int .i64 n,.string s,.slice A na ca,.slice B nb cb]] w (AggS #[.int .i64 k,.int .i64 n,.string s,.slice A na ca,.slice B nb cb,.bool true] w):=by
 go_enter Tryz.func46,Tryz.ntmps46;go_wp2;refine bodyPost_ret (v:=.agg #[.int .i64 k,.int .i64 n,.string s,.slice A na ca,.slice B nb cb,.bool true]) (by simp only [results,Tryz.results46];go_simp) rfl ?_;exact ⟨rfl,by go_grown⟩
theorem rTruthV (b:Bool) (w:World) :
  Calls Tryz.prog 49 #[.bool b] w (AggS #[.int .i64 2,.int .i64 (if b=true then 1 else 0),.string ⟨#[]⟩,.slice none 0 0,.slice none 0 0,.bool true] w):=by
 have HH0:=aW ((Held.nil w).push 40 #[.int .i64 0,.int .i64 0,.string ⟨#[]⟩,.slice none 0 0,.slice none 0 0,.bool false] (g:=w.heap.size) rfl);have HS:=aW (fun (W:World) (n:Int)=>rSomeV 2 n ⟨#[]⟩ none 0 0 none 0 0 W);cases b with
 | true =>
  go_enter Tryz.func49,Tryz.ntmps49;go_wp2_with fail;refine (HS.out _ 1).mono ?_;rintro e w1 ⟨rfl,hb1⟩;have HH1:=aW (HH0.out.keep hb1);clear hb1;obtain ⟨c0,f0,l0⟩:=HH1.out.b0.rules;have hle:w.heap.size≤w.heap.size:=Nat.le_refl _;have HB:=aW (show ∀ (u0 u1 u2 u3 u4 u5:Value),Below w.heap.size w ((((((w1.setCell ⟨w.heap.size,0,none⟩ u0).setCell ⟨w.heap.size,1,none⟩ u1).setCell ⟨w.heap.size,2,none⟩ u2).setCell ⟨w.heap.size,3,none⟩ u3).setCell ⟨w.heap.size,4,none⟩ u4).setCell ⟨w.heap.size,5,none⟩ u5) from fun _ _ _ _ _ _=>(((((HH1.out.1.setCell hle _).setCell hle _).setCell hle _).setCell hle _).setCell hle _).setCell hle _);go_wp2;refine bodyPost_ret (v:=.agg #[.int .i64 2,.int .i64 1,.string ⟨#[]⟩,.slice none 0 0,.slice none 0 0,.bool true]) (by simp only [results,Tryz.results49];go_simp) rfl ?_;exact ⟨rfl,HB.out _ _ _ _ _ _⟩
 | false =>
  go_enter Tryz.func49,Tryz.ntmps49;go_wp2_with fail;refine (HS.out _ 0).mono ?_;rintro e w1 ⟨rfl,hb1⟩;have HH1:=aW (HH0.out.keep hb1);clear hb1;obtain ⟨c0,f0,l0⟩:=HH1.out.b0.rules;have hle:w.heap.size≤w.heap.size:=Nat.le_refl _;have HB:=aW (show ∀ (u0 u1 u2 u3 u4 u5:Value),Below w.heap.size w ((((((w1.setCell ⟨w.heap.size,0,none⟩ u0).setCell ⟨w.heap.size,1,none⟩ u1).setCell ⟨w.heap.size,2,none⟩ u2).setCell ⟨w.heap.size,3,none⟩ u3).setCell ⟨w.heap.size,4,none⟩ u4).setCell ⟨w.heap.size,5,none⟩ u5) from fun _ _ _ _ _ _=>(((((HH1.out.1.setCell hle _).setCell hle _).setCell hle _).setCell hle _).setCell hle _).setCell hle _);go_wp2;refine bodyPost_ret (v:=.agg #[.int .i64 2,.int .i64 0,.string ⟨#[]⟩,.slice none 0 0,.slice none 0 0,.bool true]) (by simp only [results,Tryz.results49];go_simp) rfl ?_;exact ⟨rfl,HB.out _ _ _ _ _ _⟩
theorem rBoolV (k n:Int) (s:ByteArray) (A:Option Addr) (na ca:Nat) (B:Option Addr) (nb cb:Nat) (sm:Bool) (w:World) :
  Calls Tryz.prog 47 #[.agg #[.int .i64 k,.int .i64 n,.string s,.slice A na ca,.slice B nb cb,.bool sm]] w fun e w'=>e=.returned (.tuple #[.bool (n == 1),.bool (sm && (k == 2))])∧Below w.heap.size w w':=by
 have HH0:=aW ((Held.nil w).push 40 #[.int .i64 k,.int .i64 n,.string s,.slice A na ca,.slice B nb cb,.bool sm] (g:=w.heap.size) rfl);obtain ⟨c0,f0,l0⟩:=HH0.out.b0.rules;cases sm with
 | true =>
  go_enter Tryz.func47,Tryz.ntmps47;go_upto_region 1 with fail;go_quiet (fail);go_wp2;go_ret2;exact ⟨rfl,(HH0.out.drewN _).1⟩
 | false =>
  go_enter Tryz.func47,Tryz.ntmps47;go_upto_region 1 with fail;go_quiet (fail);go_wp2;go_ret2;exact ⟨rfl,(HH0.out.drewN _).1⟩
def nameV:List Value:=[.string ⟨#[]⟩,.string ⟨#[110,117,108,108]⟩,.string ⟨#[98,111,111,108]⟩,.string ⟨#[105,110,116]⟩,.string ⟨#[116,101,120,116]⟩,.string ⟨#[108,105,115,116]⟩,.string ⟨#[111,98,106,101,99,116]⟩]
theorem rNames (w:World):Calls Tryz.prog 51 #[] w fun e w' => ∃ g,e=.returned (.slice (some ⟨g,0,none⟩) 7 7)∧Blk w' g 9 nameV.toArray∧Below w.heap.size w w':=by
 go_enter Tryz.func51,Tryz.ntmps51;go_wp2;go_ret;exact ⟨_,rfl,Blk.new _ _ _,by go_grown⟩
def SumP (o:Int) (w:World) (e:Ending) (w':World):Prop:=∃ (n:Int) (f:Bool),e=.returned (.tuple #[.int .i64 n,.bool f])∧(f=true→iw o∧n=o)∧(f=false→¬ iw o∧n=0)∧w'=w
theorem SumP.yes {o:Int} {w:World} (h:iw o):SumP o w (.returned (.tuple #[.int .i64 o,.bool true])) w:=⟨o,true,rfl,fun _=>⟨h,rfl⟩,(fun h=>by cases h),rfl⟩
theorem SumP.no {o:Int} {w:World} (h:¬ iw o):SumP o w (.returned (.tuple #[.int .i64 0,.bool false])) w:=⟨0,false,rfl,(fun h=>by cases h),fun _=>⟨h,rfl⟩,rfl⟩
theorem rSumV (a b:Int) (w:World) (ha:iw a) (hb:iw b):Calls Tryz.prog 53 #[.int .i64 a,.int .i64 b] w (SumP (a+b) w):=by
 unfold iw at ha hb;obtain ⟨o,ho⟩:∃ o,a+b=o:=⟨_,rfl⟩
 rw [ho];have HY:=aW (fun (h:iw o)=>SumP.yes (w:=w) h);have HN:=aW (fun (h:¬ iw o)=>SumP.no (w:=w) h);have HO:=aW ho;by_cases hp:0<b
 ·have e1:decide (0<b)=true:=decide_eq_true hp;have hw:IntKind.i64.wrap (9223372036854775807-b)=9223372036854775807-b:=by rw [IntKind.wrap_i64];omega
  by_cases hbig:9223372036854775807-b<a
  ·have HX:=aW (HN.out (by unfold iw;omega));clear HY HN ho;go_enter Tryz.func53,Tryz.ntmps53;go_wp2;go_ret2;exact HX.out
  ·have HX:=aW (HY.out (by unfold iw;omega));have e3:¬ b<0:=by omega
   have hws:IntKind.i64.wrap (a+b)=o:=by rw [IntKind.wrap_i64];omega
   clear HY HN ho;go_enter Tryz.func53,Tryz.ntmps53;go_wp2;go_ret2;exact HX.out
 ·have e1:decide (0<b)=false:=decide_eq_false hp;by_cases hn:b<0
  ·have hw:IntKind.i64.wrap (-9223372036854775808-b) = -9223372036854775808-b:=by rw [IntKind.wrap_i64];omega
   by_cases hbig:a < -9223372036854775808-b
   ·have HX:=aW (HN.out (by unfold iw;omega));clear HY HN ho;go_enter Tryz.func53,Tryz.ntmps53;go_wp2;go_ret2;exact HX.out
   ·have HX:=aW (HY.out (by unfold iw;omega));have hws:IntKind.i64.wrap (a+b)=o:=by rw [IntKind.wrap_i64];omega
    clear HY HN ho;go_enter Tryz.func53,Tryz.ntmps53;go_wp2;go_ret2;exact HX.out
  ·have HX:=aW (HY.out (by unfold iw;omega));have hws:IntKind.i64.wrap (a+b)=o:=by rw [IntKind.wrap_i64];omega
   clear HY HN ho;go_enter Tryz.func53,Tryz.ntmps53;go_wp2;go_ret2;exact HX.out
theorem rLessV (a b:Int) (w:World) (ha:iw a) (hb:iw b):Calls Tryz.prog 54 #[.int .i64 a,.int .i64 b] w (SumP (a-b) w):=by
 unfold iw at ha hb;obtain ⟨o,ho⟩:∃ o,a-b=o:=⟨_,rfl⟩
 rw [ho];have HY:=aW (fun (h:iw o)=>SumP.yes (w:=w) h);have HN:=aW (fun (h:¬ iw o)=>SumP.no (w:=w) h);have HO:=aW ho;by_cases hp:b<0
 ·have e1:decide (b<0)=true:=decide_eq_true hp;have hw:IntKind.i64.wrap (9223372036854775807+b)=9223372036854775807+b:=by rw [IntKind.wrap_i64];omega
  by_cases hbig:9223372036854775807+b<a
  ·have HX:=aW (HN.out (by unfold iw;omega));clear HY HN ho;go_enter Tryz.func54,Tryz.ntmps54;go_wp2;go_ret2;exact HX.out
  ·have HX:=aW (HY.out (by unfold iw;omega));have e3:¬ 0<b:=by omega
   have hws:IntKind.i64.wrap (a-b)=o:=by rw [IntKind.wrap_i64];omega
   clear HY HN ho;go_enter Tryz.func54,Tryz.ntmps54;go_wp2;go_ret2;exact HX.out
 ·have e1:decide (b<0)=false:=decide_eq_false hp;by_cases hn:0<b
  ·have hw:IntKind.i64.wrap (-9223372036854775808+b) = -9223372036854775808+b:=by rw [IntKind.wrap_i64];omega
   by_cases hbig:a < -9223372036854775808+b
   ·have HX:=aW (HN.out (by unfold iw;omega));clear HY HN ho;go_enter Tryz.func54,Tryz.ntmps54;go_wp2;go_ret2;exact HX.out
   ·have HX:=aW (HY.out (by unfold iw;omega));have hws:IntKind.i64.wrap (a-b)=o:=by rw [IntKind.wrap_i64];omega
    clear HY HN ho;go_enter Tryz.func54,Tryz.ntmps54;go_wp2;go_ret2;exact HX.out
  ·have HX:=aW (HY.out (by unfold iw;omega));have hws:IntKind.i64.wrap (a-b)=o:=by rw [IntKind.wrap_i64];omega
   clear HY HN ho;go_enter Tryz.func54,Tryz.ntmps54;go_wp2;go_ret2;exact HX.out
theorem prod_parts (a b:Int):∃ p m,a*b.tdiv 2=p∧a*b=p+p+m∧(b.tmod 2=0∧m=0∨b.tmod 2=1∧m=a∨b.tmod 2 = -1∧m = -a)∧((0≤p∧0≤m)∨(p≤0∧m≤0)):=by
 have h1:=Int.mul_tdiv_add_tmod b 2;have hr:b.tmod 2=0∨b.tmod 2=1∨b.tmod 2 = -1:=by
  have h2:(b.tmod 2).natAbs<2:=by rw [Int.natAbs_tmod];exact Nat.mod_lt _ (by decide)
  omega
 have hs:(0≤b→0≤b.tdiv 2∧0≤b.tmod 2)∧(b≤0→b.tdiv 2≤0∧b.tmod 2≤0):=by
  constructor
  ·intro h;exact ⟨Int.tdiv_nonneg h (by decide),Int.tmod_nonneg 2 h⟩
  ·intro h;have h3:0≤(-b).tdiv 2:=Int.tdiv_nonneg (by omega) (by decide);have h4:0≤(-b).tmod 2:=Int.tmod_nonneg 2 (by omega);rw [Int.neg_tdiv] at h3;rw [Int.neg_tmod] at h4;omega
 generalize b.tdiv 2=d at *;generalize b.tmod 2=r at *;refine ⟨a*d,a*r,rfl,by rw [← h1,Int.mul_add,Int.mul_left_comm];omega,?_,?_⟩
 ·rcases hr with rfl | rfl | rfl
  ·exact .inl ⟨rfl,by simp⟩
  ·exact .inr (.inl ⟨rfl,by simp⟩)
  ·exact .inr (.inr ⟨rfl,by simp⟩)
 ·rcases Int.le_total 0 a with ha | ha
  ·rcases Int.le_total 0 b with hb | hb
   ·exact .inl ⟨Int.mul_nonneg ha (hs.1 hb).1,Int.mul_nonneg ha (hs.1 hb).2⟩
   ·exact .inr ⟨Int.mul_nonpos_of_nonneg_of_nonpos ha (hs.2 hb).1,Int.mul_nonpos_of_nonneg_of_nonpos ha (hs.2 hb).2⟩
  ·rcases Int.le_total 0 b with hb | hb
   ·exact .inr ⟨Int.mul_nonpos_of_nonpos_of_nonneg ha (hs.1 hb).1,Int.mul_nonpos_of_nonpos_of_nonneg ha (hs.1 hb).2⟩
   ·exact .inl ⟨Int.mul_nonneg_of_nonpos_of_nonpos ha (hs.2 hb).1,Int.mul_nonneg_of_nonpos_of_nonpos ha (hs.2 hb).2⟩
set_option linter.unusedVariables false
set_option linter.unusedSimpArgs false
open Go.RowKit
attribute [local go_sem] run_index_arr run_part_agg run_part_one run_field_agg
theorem idx_is:∀ {l:List (List UInt8)} {i:Nat} {t:List UInt8},l[i]? = some t→(∀ (j:Nat) x,j<i→l[j]? = some x→x≠t)→l.idxOf? t=some i
 | y::r,0,t,h,_=>by
  obtain rfl:y=t:=by simpa using h
  simp [List.idxOf?_cons]
 | y::r,i+1,t,h,hn=>by
  have h0:y≠t:=hn 0 y (by omega) rfl;have ih:=idx_is (l:=r) (i:=i) (t:=t) (by simpa using h) (fun j x hj hx=>hn (j+1) x (by omega) (by simpa using hx));rw [List.idxOf?_cons,ih];simp [h0]
theorem idx_no:∀ {l:List (List UInt8)} {t:List UInt8},(∀ x ∈ l,x≠t)→l.idxOf? t=none
 | [],t,_=>rfl
 | y::r,t,h=>by
  rw [List.idxOf?_cons,idx_no fun x hx=>h x (List.mem_cons_of_mem _ hx)];simp [h y List.mem_cons_self]
theorem str_two {a b:List UInt8}:((⟨a.toArray⟩:ByteArray).toList == (⟨b.toArray⟩:ByteArray).toList)=decide (a=b):=by
 rw [Bool.eq_iff_iff,beq_iff_eq,decide_eq_true_eq,ByteArray.toList_eq,ByteArray.toList_eq]
theorem rGetV {v:JV} {cs:List Value} {F:Nat→Prop} (t:List UInt8) (w:World) (hv:VR w F cs v) (hc:Came v) (hg:good v=true) :
  Calls Tryz.prog 48 #[.agg cs.toArray,.string ⟨t.toArray⟩] w (KidP (getJ v t) F w):=by
 obtain ⟨k,n,s,kids,keys⟩:=v;obtain ⟨A,B,ca,cb,css,rfl,hvs,h1,h2,h3,h4,h5,h6⟩:=hv.out;have HGD:=aW (fun (u:JV) (hu:u ∈ kids)=>And.intro (good_kid (v:=.mk k n s kids keys) hg hu) (hc.out.2.2.2.2.2.2 u hu));have HKC:=aW (fun (j:Nat) (x:JV) (hx:kids[j]? = some x)=>kid_cellsG (hvs.mono (F':=fun b=>F b∧b<w.heap.size) fun b hb hF=>⟨hF,hb⟩) (h5.mono (F':=fun b=>F b∧b<w.heap.size) fun b hb hF=>⟨hF,hb⟩) hx);have HKY:=aW h6;have HNL:=aW (show k=6→kids.length=keys.length from fun e=>by subst e;exact (goodA_obj (goodJ_out (good_J hg).1).1).2.2.1);have hgj:getJ (.mk k n s kids keys) t=(if k=6 then (match keys.idxOf? t with | some i=>kids[i]? | none=>none) else none):=rfl;obtain ⟨op,hop⟩:∃ q,getJ (.mk k n s kids keys) t=q:=⟨_,rfl⟩
 have HOP:=aW (hop.symm.trans hgj);obtain ⟨nk,hnk⟩:∃ q,kids.length=q:=⟨_,rfl⟩
 obtain ⟨ny,hny⟩:∃ q,keys.length=q:=⟨_,rfl⟩
 have hcy:ny≤4194304:=by rw [← hny];exact hc.out.2.2.2.2.1
 have HL:=aW (And.intro hnk hny);have HH0:=aW (((Held.nil w).push 25 #[.int .i64 k,.int .i64 n,.string ⟨s.toArray⟩,.slice A nk ca,.slice B ny cb] (g:=w.heap.size) rfl).push 25 #[.int .i64 0,.int .i64 0,.string ⟨#[]⟩,.slice none 0 0,.slice none 0 0] (g:=w.heap.size+1) (by simp));rw [hop,hnk,hny];clear hv hc hg hvs h1 h2 h3 h4 h5 h6 hnk hny hop hgj;obtain ⟨W0,hW0⟩:∃ W0,(w.alloc (.cells #[.int .i64 k,.int .i64 n,.string ⟨s.toArray⟩,.slice A nk ca,.slice B ny cb] 25)).alloc (.cells #[.int .i64 0,.int .i64 0,.string ⟨#[]⟩,.slice none 0 0,.slice none 0 0] 25)=W0:=⟨_,rfl⟩
 have HHW:=aW (show Held [(w.heap.size+1,25,#[.int .i64 0,.int .i64 0,.string ⟨#[]⟩,.slice none 0 0,.slice none 0 0]),(w.heap.size,25,#[.int .i64 k,.int .i64 n,.string ⟨s.toArray⟩,.slice A nk ca,.slice B ny cb])] w W0 by rw [← hW0];exact HH0.out);have HW0:=aW hW0;clear hW0 HH0;obtain ⟨tb,htb⟩:∃ b:ByteArray,(⟨t.toArray⟩:ByteArray)=b:=⟨_,rfl⟩
 have HTB:=aW htb;rw [htb];clear htb;have hne:w.heap.size≠w.heap.size+1:=by omega
 by_cases h6:k=6;rotate_left
 ·have e6:(k == 6)=false:=by simp [h6]
  have HX:=aW (show op=none by rw [HOP.out,if_neg h6]);clear h6 HOP HNL;go_enter Tryz.func48,Tryz.ntmps48;go_upto_region 1 with fail;rw [HW0.out];obtain ⟨c0,f0,l0⟩:=HHW.out.b1.rules;obtain ⟨c1,f1,l1⟩:=HHW.out.b0.rules;have hle:w.heap.size≤w.heap.size+1:=Nat.le_succ _;have HB:=aW (show ∀ (u0 u1 u2 u3 u4:Value),Below w.heap.size w (((((W0.setCell ⟨w.heap.size+1,0,none⟩ u0).setCell ⟨w.heap.size+1,1,none⟩ u1).setCell ⟨w.heap.size+1,2,none⟩ u2).setCell ⟨w.heap.size+1,3,none⟩ u3).setCell ⟨w.heap.size+1,4,none⟩ u4) from fun _ _ _ _ _=>((((HHW.out.1.setCell hle _).setCell hle _).setCell hle _).setCell hle _).setCell hle _);go_upto_region 2 with fail;go_loopg [6] 0 (fun gk s6 wr=>gk=0∧s6=.int .i64 0∧wr=W0)
  case atStart=>exact ⟨rfl,rfl,rfl⟩
  case round =>
   obtain ⟨rfl,rfl,rfl⟩:=hrel;go_wp2;refine bodyPost_ret (v:=.tuple #[.agg #[.int .i64 0,.int .i64 0,.string ⟨#[]⟩,.slice none 0 0,.slice none 0 0],.bool false]) (by simp only [results,Tryz.results48];go_simp) rfl ?_;exact KidP.none_ HX.out (by first | exact HB.out _ _ _ _ _ | exact HHW.out.1)
 subst h6;have HNK:=aW (show nk=ny by rw [← HL.out.1,← HL.out.2];exact HNL.out rfl);have HOQ:=aW (show op=(match keys.idxOf? t with | some i=>kids[i]? | none=>none) by rw [HOP.out,if_pos rfl]);clear HOP HNL;go_enter Tryz.func48,Tryz.ntmps48;go_upto_region 1 with fail;rw [HW0.out];go_upto_region 2 with fail;go_loopg [6] ny (fun gk s6 wr => ∃ (i:Nat),i≤ny∧gk=ny-i∧s6=.int .i64 (i:Int)∧wr=W0∧Hid (∀ (j:Nat) x,j<i→keys[j]? = some x→x≠t))
 case atStart=>exact ⟨0,Nat.zero_le _,by go_num,rfl,rfl,aW (by intro j x h;omega)⟩
 case round =>
  obtain ⟨i,hin,hgk,rfl,rfl,HNO⟩:=hrel;have HGK:=aW hgk;clear hgk;obtain ⟨c0,f0,l0⟩:=HHW.out.b1.rules;obtain ⟨c1,f1,l1⟩:=HHW.out.b0.rules;by_cases hlt:i<ny
  ·obtain ⟨y,hy⟩:∃ y,keys[i]? = some y:=⟨_,List.getElem?_eq_getElem (by rw [HL.out.2];omega)⟩
   obtain ⟨b,o,hB,hb,_,_⟩:=HKY.out (by intro e;have h:=strV_len keys;rw [e,HL.out.2] at h;simp at h;omega);subst hB;have hyc:=strV_cell (n:=0) ((HKY.out.mono fun _ _ _=>trivial).keep (KeepF.of_below HHW.out.1)) hy;have hlb:b<wr.heap.size:=Nat.lt_of_lt_of_le hb HHW.out.1.size;obtain ⟨yb,hyb⟩:∃ b:ByteArray,(⟨y.toArray⟩:ByteArray)=b:=⟨_,rfl⟩
   have hye:(yb.toList == tb.toList)=decide (y=t):=by rw [← hyb,← HTB.out];exact str_two
   rw [hyb] at hyc;by_cases hyt:y=t
   ·rw [decide_eq_true hyt] at hye;obtain ⟨u,hu⟩:∃ u,kids[i]? = some u:=⟨_,List.getElem?_eq_getElem (by rw [HL.out.1,HNK.out];omega)⟩
    have HOU:=aW (show op=some u by rw [HOQ.out,idx_is (by rw [← hyt];exact hy) HNO.out];exact hu);obtain ⟨kb,ko,ku,nu,su,Au,nau,cau,Bu,nbu,cbu,hA,hkb,hVR,hz⟩:=HKC.out i u hu;obtain ⟨z0,z1,z2,z3,z4⟩:=hz wr HHW.out.1;have hlk:kb<wr.heap.size:=Nat.lt_of_lt_of_le hkb HHW.out.1.size;have hkn:kb≠w.heap.size+1:=by omega
    have hiy:i<nk:=by rw [HNK.out];exact hlt
    have HUG:=aW (HGD.out u (List.mem_of_getElem? hu));subst hA;have hle:w.heap.size≤w.heap.size+1:=Nat.le_succ _;have HX:=aW (show KidP op F w (.returned (.tuple #[.agg #[.int .i64 ku,.int .i64 nu,.string su,.slice Au nau cau,.slice Bu nbu cbu],.bool true])) (((((wr.setCell ⟨w.heap.size+1,0,none⟩ (.int .i64 ku)).setCell ⟨w.heap.size+1,1,none⟩ (.int .i64 nu)).setCell ⟨w.heap.size+1,2,none⟩ (.string su)).setCell ⟨w.heap.size+1,3,none⟩ (.slice Au nau cau)).setCell ⟨w.heap.size+1,4,none⟩ (.slice Bu nbu cbu)) from by
     have hb9:=((((HHW.out.1.setCell (p:=⟨w.heap.size+1,0,none⟩) hle (.int .i64 ku)).setCell (p:=⟨w.heap.size+1,1,none⟩) hle (.int .i64 nu)).setCell (p:=⟨w.heap.size+1,2,none⟩) hle (.string su)).setCell (p:=⟨w.heap.size+1,3,none⟩) hle (.slice Au nau cau)).setCell (p:=⟨w.heap.size+1,4,none⟩) hle (.slice Bu nbu cbu);exact ⟨[.int .i64 ku,.int .i64 nu,.string su,.slice Au nau cau,.slice Bu nbu cbu],u,true,rfl,(hVR.bel hb9).mono fun _ _ h=>h.1,HUG.out.2,by rw [HOU.out];rfl,fun _=>HUG.out.1,hb9⟩)
    clear hVR hz hu hy hyb hyt hkb hb HKC HGD;go_wp2;refine bodyPost_ret (v:=.tuple #[.agg #[.int .i64 ku,.int .i64 nu,.string su,.slice Au nau cau,.slice Bu nbu cbu],.bool true]) (by simp only [results,Tryz.results48];go_simp) rfl ?_;exact HX.out
   ·rw [decide_eq_false hyt] at hye;have HN2:=aW (show ∀ (j:Nat) x,j<i+1→keys[j]? = some x→x≠t from fun j x hj hx=>by
     rcases Nat.lt_or_ge j i with h | h
     ·exact HNO.out j x h hx
     ·obtain rfl:j=i:=by omega
      rw [hy] at hx;obtain rfl:=Option.some.inj hx;exact hyt)
    clear hy hyb hyt hb;go_wp2;go_roundg (ny-(i+1))
    case measure=>have:=HGK.out;omega
    case rel=>exact ⟨i+1,by omega,rfl,by go_num,rfl,HN2⟩
  ·obtain rfl:i=ny:=by omega
   have HX:=aW (show op=none by
    rw [HOQ.out,idx_no];intro x hx;obtain ⟨j,hj,rfl⟩:=List.getElem_of_mem hx;exact HNO.out j _ (by rw [← HL.out.2];exact hj) (List.getElem?_eq_getElem hj))
   have hle:w.heap.size≤w.heap.size+1:=Nat.le_succ _;have HB:=aW (show ∀ (u0 u1 u2 u3 u4:Value),Below w.heap.size w (((((wr.setCell ⟨w.heap.size+1,0,none⟩ u0).setCell ⟨w.heap.size+1,1,none⟩ u1).setCell ⟨w.heap.size+1,2,none⟩ u2).setCell ⟨w.heap.size+1,3,none⟩ u3).setCell ⟨w.heap.size+1,4,none⟩ u4) from fun _ _ _ _ _=>((((HHW.out.1.setCell hle _).setCell hle _).setCell hle _).setCell hle _).setCell hle _);go_wp2;refine bodyPost_ret (v:=.tuple #[.agg #[.int .i64 0,.int .i64 0,.string ⟨#[]⟩,.slice none 0 0,.slice none 0 0],.bool false]) (by simp only [results,Tryz.results48];go_simp) rfl ?_;exact KidP.none_ HX.out (by first | exact HB.out _ _ _ _ _ | exact HHW.out.1)
end Go.Proofs.YtgolomgmnanbpaaGreatDoor
