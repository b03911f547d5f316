import Derived.Test.YtgolomgmnanbpaaGreatDoorW13
import Derived.Test.YtgolomgmnanbpaaGreatDoorW11
import Derived.Test.YtgolomgmnanbpaaGreatDoorW18
import Derived.Sort.Grow
import Derived.Lib.Bytealg
import Derived.Deep.RegionHeld3
import Derived.Test.YtgolomgmnanbpaaGreatDoorW01
set_option maxRecDepth 100000
set_option maxHeartbeats 16000000
namespace Go.Proofs.YtgolomgmnanbpaaGreatDoor
set_option linter.unusedVariables false
set_option linter.unusedSimpArgs false
open Go.RowKit
attribute [local go_sem] run_index_arr run_part_agg run_part_one run_field_agg
def Grw (w w':World):Prop:=Below w.heap.size w w'∧w.drawn≤w'.drawn
section
variable {w w' w2:World}
theorem Grw.refl (w:World):Grw w w:=⟨Below.refl _ _,Nat.le_refl _⟩
theorem Grw.trans (h:Grw w w') (k:Grw w' w2):Grw w w2:=⟨h.1.trans (k.1.mono h.1.size),Nat.le_trans h.2 k.2⟩
theorem Grw.alloc (h:Grw w w') (o:Obj):Grw w (w'.alloc o):=⟨h.1.alloc h.1.size o,h.2⟩
theorem Grw.drew (h:Grw w w'):Grw w w'.drew:=⟨h.1.drew,Nat.le_succ_of_le h.2⟩
theorem Grw.drewN (h:Grw w w') (n:Nat):Grw w (w'.drewN n):=⟨bel_drewN h.1 n,Nat.le_trans h.2 (Nat.le_add_right _ _)⟩
theorem Grw.bel (h:Grw w w'):Below w.heap.size w w':=h.1
end
theorem compareBytes_eq:∀ s t:List UInt8,Lib.compareBytes s t=cmpB s t
 | [],[]=>rfl
 | [],b::t=>by unfold Lib.compareBytes cmpB;rw [if_neg (by simp),if_pos (ltB_nil_cons b t)]
 | a::s,[]=>by unfold Lib.compareBytes cmpB;rw [if_neg (by simp),if_neg (by rw [ltB_nil];decide)]
 | a::s,b::t=>by
  unfold Lib.compareBytes;rw [compareBytes_eq s t];unfold cmpB;by_cases h1:a<b
  ·have hne:a≠b:=by rintro rfl;have:=UInt8.lt_iff_toNat_lt.1 h1;omega
   rw [if_pos h1,if_neg (by intro e;injection e with e _;exact hne e),if_pos ((ltB_cons a b s t).2 (.inl h1))]
  ·rw [if_neg h1];by_cases h2:b<a
   ·have hne:a≠b:=by rintro rfl;exact h1 h2
    rw [if_pos h2,if_neg (by intro e;injection e with e _;exact hne e),if_neg (fun e=>((ltB_cons a b s t).1 e).elim h1 (fun h=>hne h.1))]
   ·have he:a=b:=by
     apply UInt8.toNat_inj.1;have a1:¬ a.toNat<b.toNat:=fun h=>h1 (UInt8.lt_iff_toNat_lt.2 h)
     have a2:¬ b.toNat<a.toNat:=fun h=>h2 (UInt8.lt_iff_toNat_lt.2 h)
     omega
    subst he;rw [if_neg h2];by_cases h3:s=t
    ·rw [if_pos h3,if_pos (by rw [h3])]
    ·have e1:¬ (a::s=a::t):=by intro e;injection e with _ e;exact h3 e
     rw [if_neg h3,if_neg e1];by_cases h4:ltB s t=true
     ·rw [if_pos h4,if_pos ((ltB_cons a a s t).2 (.inr ⟨rfl,h4⟩))]
     ·rw [if_neg h4,if_neg (fun e=>((ltB_cons a a s t).1 e).elim h2 (fun h=>h4 h.2))]
theorem cmpStr0_any (s t:List UInt8) (w:World):Calls Tryz.prog 208 #[.string ⟨s.toArray⟩,.string ⟨t.toArray⟩] w fun e w'=>e=.returned (.int .i64 (cmpB s t))∧w=w':=by
 have he:Lib.compareBytes (⟨s.toArray⟩:ByteArray).data.toList (⟨t.toArray⟩:ByteArray).data.toList=cmpB s t:=by simp only [List.toList_toArray];exact compareBytes_eq s t
 have HE:=aW he;clear he;go_enter Tryz.func208,Tryz.ntmps208;go_wp2;rw [run_callFunc_extern Tryz.func210 (by kernel_rfl) (by kernel_rfl) (by kernel_rfl) (e:=Extern.BytealgCompare.compare) (by kernel_rfl),Lib.run_compareString,HE.out];simp only [Result.andThen];rw [Oper.upon_value];go_wp2;go_ret;exact ⟨rfl,rfl⟩
theorem cmpStr_any (s t:List UInt8) (w:World):Calls Tryz.prog 203 #[.string ⟨s.toArray⟩,.string ⟨t.toArray⟩] w fun e w'=>e=.returned (.int .i64 (cmpB s t))∧w=w':=by
 have HC:=aW (fun W=>cmpStr0_any s t W);go_enter Tryz.func203,Tryz.ntmps203;go_wp2_with fail;refine (HC.out _).mono ?_;rintro e w1 ⟨rfl,rfl⟩;go_wp2;go_ret;exact ⟨rfl,rfl⟩
theorem cSign_any (n:Int) (w:World):Calls Tryz.prog 202 #[.int .i64 n] w fun e w'=>e=.returned (.int .i64 (sgnI n))∧w=w':=by
 rcases (show n < -1∨n = -1∨n=0∨n=1∨1<n by omega) with h | rfl | rfl | rfl | h
 ·have e:sgnI n = -1:=by unfold sgnI;rw [if_pos (by omega)]
  rw [e];have h1:n<1:=by omega
  go_enter Tryz.func202,Tryz.ntmps202;go_wp2;go_ret;exact ⟨rfl,rfl⟩
 ·go_enter Tryz.func202,Tryz.ntmps202;go_wp2;go_ret;exact ⟨rfl,rfl⟩
 ·go_enter Tryz.func202,Tryz.ntmps202;go_wp2;go_ret;exact ⟨rfl,rfl⟩
 ·go_enter Tryz.func202,Tryz.ntmps202;go_wp2;go_ret;exact ⟨rfl,rfl⟩
 ·have e:sgnI n=1:=by unfold sgnI;rw [if_neg (by omega),if_pos (by omega)]
  rw [e];have h1:¬ n<1:=by omega
  go_enter Tryz.func202,Tryz.ntmps202;go_wp2;go_ret;exact ⟨rfl,rfl⟩
theorem cRanks_any (w:World):Calls Tryz.prog 207 #[] w fun e w'=>e=.returned (.agg #[.int .i64 0,.int .i64 0,.int .i64 1,.int .i64 3,.int .i64 4,.int .i64 5,.int .i64 6])∧Grw w w':=by
 have hb:=(Grw.refl w).alloc (.cells #[.int .i64 0,.int .i64 0,.int .i64 1,.int .i64 3,.int .i64 4,.int .i64 5,.int .i64 6] 235);have HB:=aW hb;clear hb;go_enter Tryz.func207,Tryz.ntmps207;go_wp2;refine bodyPost_ret (v:=.agg #[.int .i64 0,.int .i64 0,.int .i64 1,.int .i64 3,.int .i64 4,.int .i64 5,.int .i64 6]) (by simp only [results,Tryz.results207];go_simp) rfl ?_;exact ⟨rfl,HB.out⟩
theorem cRank1 (n:Int) (s:ByteArray) (nk nb:Nat) (A B:Option Addr) (ca cb:Nat) (w:World):Calls Tryz.prog 201 #[.agg #[.int .i64 1,.int .i64 n,.string s,.slice A nk ca,.slice B nb cb]] w fun e w'=>e=.returned (.int .i64 0)∧Grw w w':=by
 have HBW:=aW ((Grw.refl w).alloc (.cells #[.int .i64 1,.int .i64 n,.string s,.slice A nk ca,.slice B nb cb] 25));have HBK:=aW (Blk.new w 25 #[.int .i64 1,.int .i64 n,.string s,.slice A nk ca,.slice B nb cb]);go_enter Tryz.func201,Tryz.ntmps201;go_wp2;refine wp_region_held_drew (S:=fun w'=>Blk w' w.heap.size 25 #[.int .i64 1,.int .i64 n,.string s,.slice A nk ca,.slice B nb cb]) (by kernel_rfl) (by exact HBK.out.drew) (fun hHeld=>?_);refine aY 1 5 (.pointer (some ⟨w.heap.size,0,none⟩)) rfl ?_ ?_
 ·intro W hSw;obtain ⟨c1,f1,l1⟩:=hSw.rules;go_simp
 try simp only [pU]
 refine aY 2 6 (.int .i64 1) rfl ?_ ?_
 ·intro W hSw;obtain ⟨c1,f1,l1⟩:=hSw.rules;go_simp
 try simp only [pU]
 refine aV 0 4 rfl (fun K hK=>?_);go_simp;refine (cRanks_any _).mono ?_;rintro e w2 ⟨rfl,hb2⟩;have hk2:=HBK.out.drew.keep hb2.bel;have hg2:=HBW.out.drew.trans hb2;refine hK.out _ _ (hk2) (fun hHeld2=>?_);clear hK K hHeld
 try simp only [pU]
 refine aY 3 7 (.int .i64 0) rfl ?_ ?_
 ·intro W hSw;obtain ⟨c1,f1,l1⟩:=hSw.rules;go_simp
 try simp only [pU]
 refine aY 4 3 (.int .i64 0) rfl ?_ ?_
 ·intro W hSw;obtain ⟨c1,f1,l1⟩:=hSw.rules;go_simp
 try simp only [pU]
 refine aX ?_;have HG2:=aW hg2;obtain ⟨c1,f1,l1⟩:=hk2.rules;clear hg2 hb2 hk2;go_wp2;go_ret;exact ⟨rfl,HG2.out⟩
theorem cRank2 (n:Int) (s:ByteArray) (nk nb:Nat) (A B:Option Addr) (ca cb:Nat) (w:World):Calls Tryz.prog 201 #[.agg #[.int .i64 2,.int .i64 1,.string s,.slice A nk ca,.slice B nb cb]] w fun e w'=>e=.returned (.int .i64 2)∧Grw w w':=by
 have HBW:=aW ((Grw.refl w).alloc (.cells #[.int .i64 2,.int .i64 1,.string s,.slice A nk ca,.slice B nb cb] 25));have HBK:=aW (Blk.new w 25 #[.int .i64 2,.int .i64 1,.string s,.slice A nk ca,.slice B nb cb]);go_enter Tryz.func201,Tryz.ntmps201;go_wp2;refine wp_region_held_drew (S:=fun w'=>Blk w' w.heap.size 25 #[.int .i64 2,.int .i64 1,.string s,.slice A nk ca,.slice B nb cb]) (by kernel_rfl) (by exact HBK.out.drew) (fun hHeld=>?_);refine aY 1 5 (.pointer (some ⟨w.heap.size,0,none⟩)) rfl ?_ ?_
 ·intro W hSw;obtain ⟨c1,f1,l1⟩:=hSw.rules;go_simp
 try simp only [pU]
 refine aY 2 6 (.int .i64 2) rfl ?_ ?_
 ·intro W hSw;obtain ⟨c1,f1,l1⟩:=hSw.rules;go_simp
 try simp only [pU]
 refine aV 0 4 rfl (fun K hK=>?_);go_simp;refine (cRanks_any _).mono ?_;rintro e w2 ⟨rfl,hb2⟩;have hk2:=HBK.out.drew.keep hb2.bel;have hg2:=HBW.out.drew.trans hb2;refine hK.out _ _ (hk2) (fun hHeld2=>?_);clear hK K hHeld
 try simp only [pU]
 refine aY 3 7 (.int .i64 1) rfl ?_ ?_
 ·intro W hSw;obtain ⟨c1,f1,l1⟩:=hSw.rules;go_simp
 try simp only [pU]
 refine aY 4 3 (.int .i64 1) rfl ?_ ?_
 ·intro W hSw;obtain ⟨c1,f1,l1⟩:=hSw.rules;go_simp
 try simp only [pU]
 refine aX ?_;have HG2:=aW hg2;obtain ⟨c1,f1,l1⟩:=hk2.rules;clear hg2 hb2 hk2;go_wp2;go_ret;exact ⟨rfl,HG2.out⟩
theorem cRank2n (n:Int) (s:ByteArray) (nk nb:Nat) (A B:Option Addr) (ca cb:Nat) (w:World) (hn:n≠1):Calls Tryz.prog 201 #[.agg #[.int .i64 2,.int .i64 n,.string s,.slice A nk ca,.slice B nb cb]] w fun e w'=>e=.returned (.int .i64 1)∧Grw w w':=by
 have HBW:=aW ((Grw.refl w).alloc (.cells #[.int .i64 2,.int .i64 n,.string s,.slice A nk ca,.slice B nb cb] 25));have HBK:=aW (Blk.new w 25 #[.int .i64 2,.int .i64 n,.string s,.slice A nk ca,.slice B nb cb]);have hn1:(n == 1)=false:=by simp [hn]
 go_enter Tryz.func201,Tryz.ntmps201;go_wp2;refine wp_region_held_drew (S:=fun w'=>Blk w' w.heap.size 25 #[.int .i64 2,.int .i64 n,.string s,.slice A nk ca,.slice B nb cb]) (by kernel_rfl) (by exact HBK.out.drew) (fun hHeld=>?_);refine aY 1 5 (.pointer (some ⟨w.heap.size,0,none⟩)) rfl ?_ ?_
 ·intro W hSw;obtain ⟨c1,f1,l1⟩:=hSw.rules;go_simp
 try simp only [pU]
 refine aY 2 6 (.int .i64 2) rfl ?_ ?_
 ·intro W hSw;obtain ⟨c1,f1,l1⟩:=hSw.rules;go_simp
 try simp only [pU]
 refine aV 0 4 rfl (fun K hK=>?_);go_simp;refine (cRanks_any _).mono ?_;rintro e w2 ⟨rfl,hb2⟩;have hk2:=HBK.out.drew.keep hb2.bel;have hg2:=HBW.out.drew.trans hb2;refine hK.out _ _ (hk2) (fun hHeld2=>?_);clear hK K hHeld
 try simp only [pU]
 refine aY 3 7 (.int .i64 1) rfl ?_ ?_
 ·intro W hSw;obtain ⟨c1,f1,l1⟩:=hSw.rules;go_simp
 try simp only [pU]
 refine aY 4 3 (.int .i64 1) rfl ?_ ?_
 ·intro W hSw;obtain ⟨c1,f1,l1⟩:=hSw.rules;go_simp
 try simp only [pU]
 refine aX ?_;have HG2:=aW hg2;obtain ⟨c1,f1,l1⟩:=hk2.rules;clear hg2 hb2 hk2;go_wp2;go_ret;exact ⟨rfl,HG2.out⟩
theorem cRank3 (n:Int) (s:ByteArray) (nk nb:Nat) (A B:Option Addr) (ca cb:Nat) (w:World):Calls Tryz.prog 201 #[.agg #[.int .i64 3,.int .i64 n,.string s,.slice A nk ca,.slice B nb cb]] w fun e w'=>e=.returned (.int .i64 3)∧Grw w w':=by
 have HBW:=aW ((Grw.refl w).alloc (.cells #[.int .i64 3,.int .i64 n,.string s,.slice A nk ca,.slice B nb cb] 25));have HBK:=aW (Blk.new w 25 #[.int .i64 3,.int .i64 n,.string s,.slice A nk ca,.slice B nb cb]);go_enter Tryz.func201,Tryz.ntmps201;go_wp2;refine wp_region_held_drew (S:=fun w'=>Blk w' w.heap.size 25 #[.int .i64 3,.int .i64 n,.string s,.slice A nk ca,.slice B nb cb]) (by kernel_rfl) (by exact HBK.out.drew) (fun hHeld=>?_);refine aY 1 5 (.pointer (some ⟨w.heap.size,0,none⟩)) rfl ?_ ?_
 ·intro W hSw;obtain ⟨c1,f1,l1⟩:=hSw.rules;go_simp
 try simp only [pU]
 refine aY 2 6 (.int .i64 3) rfl ?_ ?_
 ·intro W hSw;obtain ⟨c1,f1,l1⟩:=hSw.rules;go_simp
 try simp only [pU]
 refine aV 0 4 rfl (fun K hK=>?_);go_simp;refine (cRanks_any _).mono ?_;rintro e w2 ⟨rfl,hb2⟩;have hk2:=HBK.out.drew.keep hb2.bel;have hg2:=HBW.out.drew.trans hb2;refine hK.out _ _ (hk2) (fun hHeld2=>?_);clear hK K hHeld
 try simp only [pU]
 refine aY 3 7 (.int .i64 3) rfl ?_ ?_
 ·intro W hSw;obtain ⟨c1,f1,l1⟩:=hSw.rules;go_simp
 try simp only [pU]
 refine aY 4 3 (.int .i64 3) rfl ?_ ?_
 ·intro W hSw;obtain ⟨c1,f1,l1⟩:=hSw.rules;go_simp
 try simp only [pU]
 refine aX ?_;have HG2:=aW hg2;obtain ⟨c1,f1,l1⟩:=hk2.rules;clear hg2 hb2 hk2;go_wp2;go_ret;exact ⟨rfl,HG2.out⟩
theorem cRank4 (n:Int) (s:ByteArray) (nk nb:Nat) (A B:Option Addr) (ca cb:Nat) (w:World):Calls Tryz.prog 201 #[.agg #[.int .i64 4,.int .i64 n,.string s,.slice A nk ca,.slice B nb cb]] w fun e w'=>e=.returned (.int .i64 4)∧Grw w w':=by
 have HBW:=aW ((Grw.refl w).alloc (.cells #[.int .i64 4,.int .i64 n,.string s,.slice A nk ca,.slice B nb cb] 25));have HBK:=aW (Blk.new w 25 #[.int .i64 4,.int .i64 n,.string s,.slice A nk ca,.slice B nb cb]);go_enter Tryz.func201,Tryz.ntmps201;go_wp2;refine wp_region_held_drew (S:=fun w'=>Blk w' w.heap.size 25 #[.int .i64 4,.int .i64 n,.string s,.slice A nk ca,.slice B nb cb]) (by kernel_rfl) (by exact HBK.out.drew) (fun hHeld=>?_);refine aY 1 5 (.pointer (some ⟨w.heap.size,0,none⟩)) rfl ?_ ?_
 ·intro W hSw;obtain ⟨c1,f1,l1⟩:=hSw.rules;go_simp
 try simp only [pU]
 refine aY 2 6 (.int .i64 4) rfl ?_ ?_
 ·intro W hSw;obtain ⟨c1,f1,l1⟩:=hSw.rules;go_simp
 try simp only [pU]
 refine aV 0 4 rfl (fun K hK=>?_);go_simp;refine (cRanks_any _).mono ?_;rintro e w2 ⟨rfl,hb2⟩;have hk2:=HBK.out.drew.keep hb2.bel;have hg2:=HBW.out.drew.trans hb2;refine hK.out _ _ (hk2) (fun hHeld2=>?_);clear hK K hHeld
 try simp only [pU]
 refine aY 3 7 (.int .i64 4) rfl ?_ ?_
 ·intro W hSw;obtain ⟨c1,f1,l1⟩:=hSw.rules;go_simp
 try simp only [pU]
 refine aY 4 3 (.int .i64 4) rfl ?_ ?_
 ·intro W hSw;obtain ⟨c1,f1,l1⟩:=hSw.rules;go_simp
 try simp only [pU]
 refine aX ?_;have HG2:=aW hg2;obtain ⟨c1,f1,l1⟩:=hk2.rules;clear hg2 hb2 hk2;go_wp2;go_ret;exact ⟨rfl,HG2.out⟩
theorem cRank5 (n:Int) (s:ByteArray) (nk nb:Nat) (A B:Option Addr) (ca cb:Nat) (w:World):Calls Tryz.prog 201 #[.agg #[.int .i64 5,.int .i64 n,.string s,.slice A nk ca,.slice B nb cb]] w fun e w'=>e=.returned (.int .i64 5)∧Grw w w':=by
 have HBW:=aW ((Grw.refl w).alloc (.cells #[.int .i64 5,.int .i64 n,.string s,.slice A nk ca,.slice B nb cb] 25));have HBK:=aW (Blk.new w 25 #[.int .i64 5,.int .i64 n,.string s,.slice A nk ca,.slice B nb cb]);go_enter Tryz.func201,Tryz.ntmps201;go_wp2;refine wp_region_held_drew (S:=fun w'=>Blk w' w.heap.size 25 #[.int .i64 5,.int .i64 n,.string s,.slice A nk ca,.slice B nb cb]) (by kernel_rfl) (by exact HBK.out.drew) (fun hHeld=>?_);refine aY 1 5 (.pointer (some ⟨w.heap.size,0,none⟩)) rfl ?_ ?_
 ·intro W hSw;obtain ⟨c1,f1,l1⟩:=hSw.rules;go_simp
 try simp only [pU]
 refine aY 2 6 (.int .i64 5) rfl ?_ ?_
 ·intro W hSw;obtain ⟨c1,f1,l1⟩:=hSw.rules;go_simp
 try simp only [pU]
 refine aV 0 4 rfl (fun K hK=>?_);go_simp;refine (cRanks_any _).mono ?_;rintro e w2 ⟨rfl,hb2⟩;have hk2:=HBK.out.drew.keep hb2.bel;have hg2:=HBW.out.drew.trans hb2;refine hK.out _ _ (hk2) (fun hHeld2=>?_);clear hK K hHeld
 try simp only [pU]
 refine aY 3 7 (.int .i64 5) rfl ?_ ?_
 ·intro W hSw;obtain ⟨c1,f1,l1⟩:=hSw.rules;go_simp
 try simp only [pU]
 refine aY 4 3 (.int .i64 5) rfl ?_ ?_
 ·intro W hSw;obtain ⟨c1,f1,l1⟩:=hSw.rules;go_simp
 try simp only [pU]
 refine aX ?_;have HG2:=aW hg2;obtain ⟨c1,f1,l1⟩:=hk2.rules;clear hg2 hb2 hk2;go_wp2;go_ret;exact ⟨rfl,HG2.out⟩
theorem cRank6 (n:Int) (s:ByteArray) (nk nb:Nat) (A B:Option Addr) (ca cb:Nat) (w:World):Calls Tryz.prog 201 #[.agg #[.int .i64 6,.int .i64 n,.string s,.slice A nk ca,.slice B nb cb]] w fun e w'=>e=.returned (.int .i64 6)∧Grw w w':=by
 have HBW:=aW ((Grw.refl w).alloc (.cells #[.int .i64 6,.int .i64 n,.string s,.slice A nk ca,.slice B nb cb] 25));have HBK:=aW (Blk.new w 25 #[.int .i64 6,.int .i64 n,.string s,.slice A nk ca,.slice B nb cb]);go_enter Tryz.func201,Tryz.ntmps201;go_wp2;refine wp_region_held_drew (S:=fun w'=>Blk w' w.heap.size 25 #[.int .i64 6,.int .i64 n,.string s,.slice A nk ca,.slice B nb cb]) (by kernel_rfl) (by exact HBK.out.drew) (fun hHeld=>?_);refine aY 1 5 (.pointer (some ⟨w.heap.size,0,none⟩)) rfl ?_ ?_
 ·intro W hSw;obtain ⟨c1,f1,l1⟩:=hSw.rules;go_simp
 try simp only [pU]
 refine aY 2 6 (.int .i64 6) rfl ?_ ?_
 ·intro W hSw;obtain ⟨c1,f1,l1⟩:=hSw.rules;go_simp
 try simp only [pU]
 refine aV 0 4 rfl (fun K hK=>?_);go_simp;refine (cRanks_any _).mono ?_;rintro e w2 ⟨rfl,hb2⟩;have hk2:=HBK.out.drew.keep hb2.bel;have hg2:=HBW.out.drew.trans hb2;refine hK.out _ _ (hk2) (fun hHeld2=>?_);clear hK K hHeld
 try simp only [pU]
 refine aY 3 7 (.int .i64 6) rfl ?_ ?_
 ·intro W hSw;obtain ⟨c1,f1,l1⟩:=hSw.rules;go_simp
 try simp only [pU]
 refine aY 4 3 (.int .i64 6) rfl ?_ ?_
 ·intro W hSw;obtain ⟨c1,f1,l1⟩:=hSw.rules;go_simp
 try simp only [pU]
 refine aX ?_;have HG2:=aW hg2;obtain ⟨c1,f1,l1⟩:=hk2.rules;clear hg2 hb2 hk2;go_wp2;go_ret;exact ⟨rfl,HG2.out⟩
theorem cRank_any (cs:List Value) (k n:Int) (s:List UInt8) (kids:List JV) (keys:List (List UInt8)) (F:Nat→Prop) (w:World) (hv:VR w F cs (.mk k n s kids keys)) (hk:1≤k∧k≤6) :
  Calls Tryz.prog 201 #[.agg cs.toArray] w fun e w'=>e=.returned (.int .i64 (rankJ (.mk k n s kids keys)))∧Grw w w':=by
 obtain ⟨A,B,ca,cb,css,rfl,_⟩:=hv.out;have hk7:k=1∨k=2∨k=3∨k=4∨k=5∨k=6:=by omega
 rcases hk7 with rfl | rfl | rfl | rfl | rfl | rfl
 ·rw [rankJ];exact cRank1 n _ _ _ A B ca cb w
 ·by_cases hn:n=1
  ·subst hn;rw [rankJ];exact cRank2 0 _ _ _ A B ca cb w
  ·have:rankJ (.mk 2 n s kids keys)=1:=by rw [rankJ];simp [hn]
   rw [this];exact cRank2n n _ _ _ A B ca cb w hn
 ·rw [rankJ];exact cRank3 n _ _ _ A B ca cb w
 ·rw [rankJ];exact cRank4 n _ _ _ A B ca cb w
 ·rw [rankJ];exact cRank5 n _ _ _ A B ca cb w
 ·rw [rankJ];exact cRank6 n _ _ _ A B ca cb w
def CmpPost (r:Int) (w:World) (e:Ending) (w':World):Prop:=e=.returned (.int .i64 r)∧Grw w w'
theorem cAt_list (k n kq nq:Int) (s sq:ByteArray) (b o nk ca ny cb bq oq nkq caq nyq cbq i:Nat) (k1 n1 k2 n2:Int) (s1 s2:ByteArray) (A1 B1 A2 B2:Option Addr) (na1 ca1 nb1 cb1 na2 ca2 nb2 cb2:Nat) (r:Int) (w:World) (B Bq:Option Addr) (hk6:k≠6) (hi:i<nk) (hiq:i<nkq) (hnk:nk≤4194304) (hnkq:nkq≤4194304) (hca:nk≤ca) (hcaq:nkq≤caq) (hcell:∀ W',Grw w W'→W'.cell? ⟨b,o+i*5,none⟩=some (.int .i64 k1)∧W'.cell? ⟨b,o+i*5+1,none⟩=some (.int .i64 n1)∧W'.cell? ⟨b,o+i*5+2,none⟩=some (.string s1)∧W'.cell? ⟨b,o+i*5+3,none⟩=some (.slice A1 na1 ca1)∧W'.cell? ⟨b,o+i*5+4,none⟩=some (.slice B1 nb1 cb1)∧W'.cell? ⟨bq,oq+i*5,none⟩=some (.int .i64 k2)∧W'.cell? ⟨bq,oq+i*5+1,none⟩=some (.int .i64 n2)∧W'.cell? ⟨bq,oq+i*5+2,none⟩=some (.string s2)∧W'.cell? ⟨bq,oq+i*5+3,none⟩=some (.slice A2 na2 ca2)∧W'.cell? ⟨bq,oq+i*5+4,none⟩=some (.slice B2 nb2 cb2)) (hC:∀ W,Grw w W→Calls Tryz.prog 192 #[.agg #[.int .i64 k1,.int .i64 n1,.string s1,.slice A1 na1 ca1,.slice B1 nb1 cb1],.agg #[.int .i64 k2,.int .i64 n2,.string s2,.slice A2 na2 ca2,.slice B2 nb2 cb2]] W (CmpPost r W)) :
  Calls Tryz.prog 209 #[.agg #[.int .i64 k,.int .i64 n,.string s,.slice (some ⟨b,o,none⟩) nk ca,.slice B ny cb,.int .i64 kq,.int .i64 nq,.string sq,.slice (some ⟨bq,oq,none⟩) nkq caq,.slice Bq nyq cbq],.int .i64 i] w (CmpPost r w):=by
 have HBW:=aW ((Grw.refl w).alloc (.cells #[.int .i64 k,.int .i64 n,.string s,.slice (some ⟨b,o,none⟩) nk ca,.slice B ny cb,.int .i64 kq,.int .i64 nq,.string sq,.slice (some ⟨bq,oq,none⟩) nkq caq,.slice Bq nyq cbq] 232));have HBK:=aW (Blk.new w 232 #[.int .i64 k,.int .i64 n,.string s,.slice (some ⟨b,o,none⟩) nk ca,.slice B ny cb,.int .i64 kq,.int .i64 nq,.string sq,.slice (some ⟨bq,oq,none⟩) nkq caq,.slice Bq nyq cbq]);have HCELL:=aW (fun (W':World) (h:Grw w W')=>(show (W'.cell? ⟨b,o+i*5,none⟩=some (.int .i64 k1)∧W'.cell? ⟨b,o+i*5+1,none⟩=some (.int .i64 n1)∧W'.cell? ⟨b,o+i*5+2,none⟩=some (.string s1)∧W'.cell? ⟨b,o+i*5+3,none⟩=some (.slice A1 na1 ca1)∧W'.cell? ⟨b,o+i*5+4,none⟩=some (.slice B1 nb1 cb1))∧(W'.cell? ⟨bq,oq+i*5,none⟩=some (.int .i64 k2)∧W'.cell? ⟨bq,oq+i*5+1,none⟩=some (.int .i64 n2)∧W'.cell? ⟨bq,oq+i*5+2,none⟩=some (.string s2)∧W'.cell? ⟨bq,oq+i*5+3,none⟩=some (.slice A2 na2 ca2)∧W'.cell? ⟨bq,oq+i*5+4,none⟩=some (.slice B2 nb2 cb2)) by obtain ⟨p0,p1,p2,p3,p4,q0,q1,q2,q3,q4⟩:=hcell W' h;exact ⟨⟨p0,p1,p2,p3,p4⟩,⟨q0,q1,q2,q3,q4⟩⟩));have HC:=aW hC;have hk1:(k == 6)=false:=by simp [hk6]
 clear hcell hC;go_enter Tryz.func209,Tryz.ntmps209;go_wp2;refine wp_region_held_drew (S:=fun w'=>Blk w' w.heap.size 232 #[.int .i64 k,.int .i64 n,.string s,.slice (some ⟨b,o,none⟩) nk ca,.slice B ny cb,.int .i64 kq,.int .i64 nq,.string sq,.slice (some ⟨bq,oq,none⟩) nkq caq,.slice Bq nyq cbq]∧Grw w w') (by kernel_rfl) (by exact ⟨HBK.out.drew,HBW.out.drew⟩) (fun hHeld=>?_);refine aY 0 29 (.pointer (some ⟨w.heap.size,0,none⟩)) rfl ?_ ?_
 ·intro W hSw;obtain ⟨hS1,hS2⟩:=hSw;obtain ⟨c1,f1,l1⟩:=hS1.rules;obtain ⟨⟨p0,p1,p2,p3,p4⟩,⟨q0,q1,q2,q3,q4⟩⟩:=HCELL.out W hS2;go_simp
 try simp only [pU]
 refine aY 1 30 (.pointer (some ⟨w.heap.size,0,none⟩)) rfl ?_ ?_
 ·intro W hSw;obtain ⟨hS1,hS2⟩:=hSw;obtain ⟨c1,f1,l1⟩:=hS1.rules;obtain ⟨⟨p0,p1,p2,p3,p4⟩,⟨q0,q1,q2,q3,q4⟩⟩:=HCELL.out W hS2;go_simp
 try simp only [pU]
 refine aY 2 31 (.pointer (some ⟨w.heap.size,3,none⟩)) rfl ?_ ?_
 ·intro W hSw;obtain ⟨hS1,hS2⟩:=hSw;obtain ⟨c1,f1,l1⟩:=hS1.rules;obtain ⟨⟨p0,p1,p2,p3,p4⟩,⟨q0,q1,q2,q3,q4⟩⟩:=HCELL.out W hS2;go_simp
 try simp only [pU]
 refine aY 3 32 (.slice (some ⟨b,o,none⟩) nk ca) rfl ?_ ?_
 ·intro W hSw;obtain ⟨hS1,hS2⟩:=hSw;obtain ⟨c1,f1,l1⟩:=hS1.rules;obtain ⟨⟨p0,p1,p2,p3,p4⟩,⟨q0,q1,q2,q3,q4⟩⟩:=HCELL.out W hS2;go_simp
 try simp only [pU]
 refine aY 4 33 (.int .i64 i) rfl ?_ ?_
 ·intro W hSw;obtain ⟨hS1,hS2⟩:=hSw;obtain ⟨c1,f1,l1⟩:=hS1.rules;obtain ⟨⟨p0,p1,p2,p3,p4⟩,⟨q0,q1,q2,q3,q4⟩⟩:=HCELL.out W hS2;go_simp
 try simp only [pU]
 refine aY 5 34 (.pointer (some ⟨b,o+i*5,none⟩)) rfl ?_ ?_
 ·intro W hSw;obtain ⟨hS1,hS2⟩:=hSw;obtain ⟨c1,f1,l1⟩:=hS1.rules;obtain ⟨⟨p0,p1,p2,p3,p4⟩,⟨q0,q1,q2,q3,q4⟩⟩:=HCELL.out W hS2;go_simp
 try simp only [pU]
 refine aY 6 35 (.agg #[.int .i64 k1,.int .i64 n1,.string s1,.slice A1 na1 ca1,.slice B1 nb1 cb1]) rfl ?_ ?_
 ·intro W hSw;obtain ⟨hS1,hS2⟩:=hSw;obtain ⟨c1,f1,l1⟩:=hS1.rules;obtain ⟨⟨p0,p1,p2,p3,p4⟩,⟨q0,q1,q2,q3,q4⟩⟩:=HCELL.out W hS2;go_simp
 try simp only [pU]
 refine aY 7 36 (.pointer (some ⟨w.heap.size,0,none⟩)) rfl ?_ ?_
 ·intro W hSw;obtain ⟨hS1,hS2⟩:=hSw;obtain ⟨c1,f1,l1⟩:=hS1.rules;obtain ⟨⟨p0,p1,p2,p3,p4⟩,⟨q0,q1,q2,q3,q4⟩⟩:=HCELL.out W hS2;go_simp
 try simp only [pU]
 refine aY 8 37 (.pointer (some ⟨w.heap.size,5,none⟩)) rfl ?_ ?_
 ·intro W hSw;obtain ⟨hS1,hS2⟩:=hSw;obtain ⟨c1,f1,l1⟩:=hS1.rules;obtain ⟨⟨p0,p1,p2,p3,p4⟩,⟨q0,q1,q2,q3,q4⟩⟩:=HCELL.out W hS2;go_simp
 try simp only [pU]
 refine aY 9 38 (.pointer (some ⟨w.heap.size,8,none⟩)) rfl ?_ ?_
 ·intro W hSw;obtain ⟨hS1,hS2⟩:=hSw;obtain ⟨c1,f1,l1⟩:=hS1.rules;obtain ⟨⟨p0,p1,p2,p3,p4⟩,⟨q0,q1,q2,q3,q4⟩⟩:=HCELL.out W hS2;go_simp
 try simp only [pU]
 refine aY 10 39 (.slice (some ⟨bq,oq,none⟩) nkq caq) rfl ?_ ?_
 ·intro W hSw;obtain ⟨hS1,hS2⟩:=hSw;obtain ⟨c1,f1,l1⟩:=hS1.rules;obtain ⟨⟨p0,p1,p2,p3,p4⟩,⟨q0,q1,q2,q3,q4⟩⟩:=HCELL.out W hS2;go_simp
 try simp only [pU]
 refine aY 11 40 (.int .i64 i) rfl ?_ ?_
 ·intro W hSw;obtain ⟨hS1,hS2⟩:=hSw;obtain ⟨c1,f1,l1⟩:=hS1.rules;obtain ⟨⟨p0,p1,p2,p3,p4⟩,⟨q0,q1,q2,q3,q4⟩⟩:=HCELL.out W hS2;go_simp
 try simp only [pU]
 refine aY 12 41 (.pointer (some ⟨bq,oq+i*5,none⟩)) rfl ?_ ?_
 ·intro W hSw;obtain ⟨hS1,hS2⟩:=hSw;obtain ⟨c1,f1,l1⟩:=hS1.rules;obtain ⟨⟨p0,p1,p2,p3,p4⟩,⟨q0,q1,q2,q3,q4⟩⟩:=HCELL.out W hS2;go_simp
 try simp only [pU]
 refine aY 13 42 (.agg #[.int .i64 k2,.int .i64 n2,.string s2,.slice A2 na2 ca2,.slice B2 nb2 cb2]) rfl ?_ ?_
 ·intro W hSw;obtain ⟨hS1,hS2⟩:=hSw;obtain ⟨c1,f1,l1⟩:=hS1.rules;obtain ⟨⟨p0,p1,p2,p3,p4⟩,⟨q0,q1,q2,q3,q4⟩⟩:=HCELL.out W hS2;go_simp
 try simp only [pU]
 refine aV 14 43 rfl (fun K hK=>?_);go_simp;refine (HC.out _ HBW.out.drew).mono ?_;rintro e w5 ⟨rfl,hb5⟩;have hk5:=HBK.out.drew.keep hb5.bel;have hg5:=HBW.out.drew.trans hb5;refine hK.out _ _ (⟨hk5,hg5⟩) (fun hHeld2=>?_);clear hK K hHeld
 try simp only [pU]
 refine aY 15 4 (.int .i64 r) rfl ?_ ?_
 ·intro W hSw;obtain ⟨hS1,hS2⟩:=hSw;obtain ⟨c1,f1,l1⟩:=hS1.rules;obtain ⟨⟨p0,p1,p2,p3,p4⟩,⟨q0,q1,q2,q3,q4⟩⟩:=HCELL.out W hS2;go_simp
 try simp only [pU]
 refine aX ?_;have HG5:=aW hg5;clear hg5 hb5 hk5;go_wp2;go_ret;exact ⟨rfl,HG5.out⟩
theorem cAt_obj (n kq nq:Int) (s sq:ByteArray) (b o nk ca ny cb bq oq nkq caq nyq cbq i:Nat) (k1 n1 k2 n2:Int) (s1 s2:ByteArray) (A1 B1 A2 B2:Option Addr) (na1 ca1 nb1 cb1 na2 ca2 nb2 cb2:Nat) (r:Int) (w:World) (bk ok bkq okq:Nat) (t u:List UInt8) (hy:i<ny) (hyq:i<nyq) (hcb:ny≤cb) (hcbq:nyq≤cbq) (hny:ny≤4194304) (hnyq:nyq≤4194304) (hkey:∀ W',Grw w W'→W'.cell? ⟨bk,ok+i,none⟩=some (.string ⟨t.toArray⟩)∧W'.cell? ⟨bkq,okq+i,none⟩=some (.string ⟨u.toArray⟩)) (hi:i<nk) (hiq:i<nkq) (hnk:nk≤4194304) (hnkq:nkq≤4194304) (hca:nk≤ca) (hcaq:nkq≤caq) (hcell:∀ W',Grw w W'→W'.cell? ⟨b,o+i*5,none⟩=some (.int .i64 k1)∧W'.cell? ⟨b,o+i*5+1,none⟩=some (.int .i64 n1)∧W'.cell? ⟨b,o+i*5+2,none⟩=some (.string s1)∧W'.cell? ⟨b,o+i*5+3,none⟩=some (.slice A1 na1 ca1)∧W'.cell? ⟨b,o+i*5+4,none⟩=some (.slice B1 nb1 cb1)∧W'.cell? ⟨bq,oq+i*5,none⟩=some (.int .i64 k2)∧W'.cell? ⟨bq,oq+i*5+1,none⟩=some (.int .i64 n2)∧W'.cell? ⟨bq,oq+i*5+2,none⟩=some (.string s2)∧W'.cell? ⟨bq,oq+i*5+3,none⟩=some (.slice A2 na2 ca2)∧W'.cell? ⟨bq,oq+i*5+4,none⟩=some (.slice B2 nb2 cb2)) (hC:∀ W,Grw w W→Calls Tryz.prog 192 #[.agg #[.int .i64 k1,.int .i64 n1,.string s1,.slice A1 na1 ca1,.slice B1 nb1 cb1],.agg #[.int .i64 k2,.int .i64 n2,.string s2,.slice A2 na2 ca2,.slice B2 nb2 cb2]] W (CmpPost r W)) :
  Calls Tryz.prog 209 #[.agg #[.int .i64 6,.int .i64 n,.string s,.slice (some ⟨b,o,none⟩) nk ca,.slice (some ⟨bk,ok,none⟩) ny cb,.int .i64 kq,.int .i64 nq,.string sq,.slice (some ⟨bq,oq,none⟩) nkq caq,.slice (some ⟨bkq,okq,none⟩) nyq cbq],.int .i64 i] w (CmpPost (lexI (cmpB t u) r) w):=by
 have HBW:=aW ((Grw.refl w).alloc (.cells #[.int .i64 6,.int .i64 n,.string s,.slice (some ⟨b,o,none⟩) nk ca,.slice (some ⟨bk,ok,none⟩) ny cb,.int .i64 kq,.int .i64 nq,.string sq,.slice (some ⟨bq,oq,none⟩) nkq caq,.slice (some ⟨bkq,okq,none⟩) nyq cbq] 232));have HBK:=aW (Blk.new w 232 #[.int .i64 6,.int .i64 n,.string s,.slice (some ⟨b,o,none⟩) nk ca,.slice (some ⟨bk,ok,none⟩) ny cb,.int .i64 kq,.int .i64 nq,.string sq,.slice (some ⟨bq,oq,none⟩) nkq caq,.slice (some ⟨bkq,okq,none⟩) nyq cbq]);have HCELL:=aW (fun (W':World) (h:Grw w W')=>(show (W'.cell? ⟨b,o+i*5,none⟩=some (.int .i64 k1)∧W'.cell? ⟨b,o+i*5+1,none⟩=some (.int .i64 n1)∧W'.cell? ⟨b,o+i*5+2,none⟩=some (.string s1)∧W'.cell? ⟨b,o+i*5+3,none⟩=some (.slice A1 na1 ca1)∧W'.cell? ⟨b,o+i*5+4,none⟩=some (.slice B1 nb1 cb1))∧(W'.cell? ⟨bq,oq+i*5,none⟩=some (.int .i64 k2)∧W'.cell? ⟨bq,oq+i*5+1,none⟩=some (.int .i64 n2)∧W'.cell? ⟨bq,oq+i*5+2,none⟩=some (.string s2)∧W'.cell? ⟨bq,oq+i*5+3,none⟩=some (.slice A2 na2 ca2)∧W'.cell? ⟨bq,oq+i*5+4,none⟩=some (.slice B2 nb2 cb2)) by obtain ⟨p0,p1,p2,p3,p4,q0,q1,q2,q3,q4⟩:=hcell W' h;exact ⟨⟨p0,p1,p2,p3,p4⟩,⟨q0,q1,q2,q3,q4⟩⟩));have HKEY:=aW hkey;have HC:=aW hC;obtain ⟨c,hc⟩:∃ c,cmpB t u=c:=⟨_,rfl⟩
 have HS:=aW (fun W=>by have h:=cmpStr_any t u W;rw [hc] at h;exact h);rw [hc];clear hcell hkey hC hc;go_enter Tryz.func209,Tryz.ntmps209;go_wp2;refine wp_region_held_drew (S:=fun w'=>Blk w' w.heap.size 232 #[.int .i64 6,.int .i64 n,.string s,.slice (some ⟨b,o,none⟩) nk ca,.slice (some ⟨bk,ok,none⟩) ny cb,.int .i64 kq,.int .i64 nq,.string sq,.slice (some ⟨bq,oq,none⟩) nkq caq,.slice (some ⟨bkq,okq,none⟩) nyq cbq]∧Grw w w') (by kernel_rfl) (by exact ⟨HBK.out.drew,HBW.out.drew⟩) (fun hHeld=>?_);refine aY 0 11 (.pointer (some ⟨w.heap.size,0,none⟩)) rfl ?_ ?_
 ·intro W hSw;obtain ⟨hS1,hS2⟩:=hSw;obtain ⟨c1,f1,l1⟩:=hS1.rules;obtain ⟨y1,y2⟩:=HKEY.out W hS2;go_simp
 try simp only [pU]
 refine aY 1 12 (.pointer (some ⟨w.heap.size,0,none⟩)) rfl ?_ ?_
 ·intro W hSw;obtain ⟨hS1,hS2⟩:=hSw;obtain ⟨c1,f1,l1⟩:=hS1.rules;obtain ⟨y1,y2⟩:=HKEY.out W hS2;go_simp
 try simp only [pU]
 refine aY 2 13 (.pointer (some ⟨w.heap.size,4,none⟩)) rfl ?_ ?_
 ·intro W hSw;obtain ⟨hS1,hS2⟩:=hSw;obtain ⟨c1,f1,l1⟩:=hS1.rules;obtain ⟨y1,y2⟩:=HKEY.out W hS2;go_simp
 try simp only [pU]
 refine aY 3 14 (.slice (some ⟨bk,ok,none⟩) ny cb) rfl ?_ ?_
 ·intro W hSw;obtain ⟨hS1,hS2⟩:=hSw;obtain ⟨c1,f1,l1⟩:=hS1.rules;obtain ⟨y1,y2⟩:=HKEY.out W hS2;go_simp
 try simp only [pU]
 refine aY 4 15 (.int .i64 i) rfl ?_ ?_
 ·intro W hSw;obtain ⟨hS1,hS2⟩:=hSw;obtain ⟨c1,f1,l1⟩:=hS1.rules;obtain ⟨y1,y2⟩:=HKEY.out W hS2;go_simp
 try simp only [pU]
 refine aY 5 16 (.pointer (some ⟨bk,ok+i,none⟩)) rfl ?_ ?_
 ·intro W hSw;obtain ⟨hS1,hS2⟩:=hSw;obtain ⟨c1,f1,l1⟩:=hS1.rules;obtain ⟨y1,y2⟩:=HKEY.out W hS2;go_simp
 try simp only [pU]
 refine aY 6 17 (.string ⟨t.toArray⟩) rfl ?_ ?_
 ·intro W hSw;obtain ⟨hS1,hS2⟩:=hSw;obtain ⟨c1,f1,l1⟩:=hS1.rules;obtain ⟨y1,y2⟩:=HKEY.out W hS2;go_simp
 try simp only [pU]
 refine aY 7 18 (.pointer (some ⟨w.heap.size,0,none⟩)) rfl ?_ ?_
 ·intro W hSw;obtain ⟨hS1,hS2⟩:=hSw;obtain ⟨c1,f1,l1⟩:=hS1.rules;obtain ⟨y1,y2⟩:=HKEY.out W hS2;go_simp
 try simp only [pU]
 refine aY 8 19 (.pointer (some ⟨w.heap.size,5,none⟩)) rfl ?_ ?_
 ·intro W hSw;obtain ⟨hS1,hS2⟩:=hSw;obtain ⟨c1,f1,l1⟩:=hS1.rules;obtain ⟨y1,y2⟩:=HKEY.out W hS2;go_simp
 try simp only [pU]
 refine aY 9 20 (.pointer (some ⟨w.heap.size,9,none⟩)) rfl ?_ ?_
 ·intro W hSw;obtain ⟨hS1,hS2⟩:=hSw;obtain ⟨c1,f1,l1⟩:=hS1.rules;obtain ⟨y1,y2⟩:=HKEY.out W hS2;go_simp
 try simp only [pU]
 refine aY 10 21 (.slice (some ⟨bkq,okq,none⟩) nyq cbq) rfl ?_ ?_
 ·intro W hSw;obtain ⟨hS1,hS2⟩:=hSw;obtain ⟨c1,f1,l1⟩:=hS1.rules;obtain ⟨y1,y2⟩:=HKEY.out W hS2;go_simp
 try simp only [pU]
 refine aY 11 22 (.int .i64 i) rfl ?_ ?_
 ·intro W hSw;obtain ⟨hS1,hS2⟩:=hSw;obtain ⟨c1,f1,l1⟩:=hS1.rules;obtain ⟨y1,y2⟩:=HKEY.out W hS2;go_simp
 try simp only [pU]
 refine aY 12 23 (.pointer (some ⟨bkq,okq+i,none⟩)) rfl ?_ ?_
 ·intro W hSw;obtain ⟨hS1,hS2⟩:=hSw;obtain ⟨c1,f1,l1⟩:=hS1.rules;obtain ⟨y1,y2⟩:=HKEY.out W hS2;go_simp
 try simp only [pU]
 refine aY 13 24 (.string ⟨u.toArray⟩) rfl ?_ ?_
 ·intro W hSw;obtain ⟨hS1,hS2⟩:=hSw;obtain ⟨c1,f1,l1⟩:=hS1.rules;obtain ⟨y1,y2⟩:=HKEY.out W hS2;go_simp
 try simp only [pU]
 refine aV 14 25 rfl (fun K hK=>?_);go_simp;refine (HS.out _).mono ?_;rintro e w3 ⟨rfl,rfl⟩;have hk3:=HBK.out.drew;have hg3:=HBW.out.drew;refine hK.out _ _ (⟨hk3,hg3⟩) (fun hHeld2=>?_);clear hK K hHeld
 try simp only [pU]
 refine aY 15 5 (.int .i64 c) rfl ?_ ?_
 ·intro W hSw;obtain ⟨hS1,hS2⟩:=hSw;obtain ⟨c1,f1,l1⟩:=hS1.rules;obtain ⟨y1,y2⟩:=HKEY.out W hS2;go_simp
 try simp only [pU]
 refine aX ?_;have HBK3:=aW hk3;have HBW3:=aW hg3;clear hk3 hg3 HBK HBW;by_cases h0:c=0
 ·subst h0;go_wp2;refine wp_region_held_drew (S:=fun w'=>Blk w' w.heap.size 232 #[.int .i64 6,.int .i64 n,.string s,.slice (some ⟨b,o,none⟩) nk ca,.slice (some ⟨bk,ok,none⟩) ny cb,.int .i64 kq,.int .i64 nq,.string sq,.slice (some ⟨bq,oq,none⟩) nkq caq,.slice (some ⟨bkq,okq,none⟩) nyq cbq]∧Grw w w') (by kernel_rfl) (by exact ⟨HBK3.out.drew,HBW3.out.drew⟩) (fun hHeld=>?_);refine aY 0 29 (.pointer (some ⟨w.heap.size,0,none⟩)) rfl ?_ ?_
  ·intro W hSw;obtain ⟨hS1,hS2⟩:=hSw;obtain ⟨c1,f1,l1⟩:=hS1.rules;obtain ⟨⟨p0,p1,p2,p3,p4⟩,⟨q0,q1,q2,q3,q4⟩⟩:=HCELL.out W hS2;go_simp
  try simp only [pU]
  refine aY 1 30 (.pointer (some ⟨w.heap.size,0,none⟩)) rfl ?_ ?_
  ·intro W hSw;obtain ⟨hS1,hS2⟩:=hSw;obtain ⟨c1,f1,l1⟩:=hS1.rules;obtain ⟨⟨p0,p1,p2,p3,p4⟩,⟨q0,q1,q2,q3,q4⟩⟩:=HCELL.out W hS2;go_simp
  try simp only [pU]
  refine aY 2 31 (.pointer (some ⟨w.heap.size,3,none⟩)) rfl ?_ ?_
  ·intro W hSw;obtain ⟨hS1,hS2⟩:=hSw;obtain ⟨c1,f1,l1⟩:=hS1.rules;obtain ⟨⟨p0,p1,p2,p3,p4⟩,⟨q0,q1,q2,q3,q4⟩⟩:=HCELL.out W hS2;go_simp
  try simp only [pU]
  refine aY 3 32 (.slice (some ⟨b,o,none⟩) nk ca) rfl ?_ ?_
  ·intro W hSw;obtain ⟨hS1,hS2⟩:=hSw;obtain ⟨c1,f1,l1⟩:=hS1.rules;obtain ⟨⟨p0,p1,p2,p3,p4⟩,⟨q0,q1,q2,q3,q4⟩⟩:=HCELL.out W hS2;go_simp
  try simp only [pU]
  refine aY 4 33 (.int .i64 i) rfl ?_ ?_
  ·intro W hSw;obtain ⟨hS1,hS2⟩:=hSw;obtain ⟨c1,f1,l1⟩:=hS1.rules;obtain ⟨⟨p0,p1,p2,p3,p4⟩,⟨q0,q1,q2,q3,q4⟩⟩:=HCELL.out W hS2;go_simp
  try simp only [pU]
  refine aY 5 34 (.pointer (some ⟨b,o+i*5,none⟩)) rfl ?_ ?_
  ·intro W hSw;obtain ⟨hS1,hS2⟩:=hSw;obtain ⟨c1,f1,l1⟩:=hS1.rules;obtain ⟨⟨p0,p1,p2,p3,p4⟩,⟨q0,q1,q2,q3,q4⟩⟩:=HCELL.out W hS2;go_simp
  try simp only [pU]
  refine aY 6 35 (.agg #[.int .i64 k1,.int .i64 n1,.string s1,.slice A1 na1 ca1,.slice B1 nb1 cb1]) rfl ?_ ?_
  ·intro W hSw;obtain ⟨hS1,hS2⟩:=hSw;obtain ⟨c1,f1,l1⟩:=hS1.rules;obtain ⟨⟨p0,p1,p2,p3,p4⟩,⟨q0,q1,q2,q3,q4⟩⟩:=HCELL.out W hS2;go_simp
  try simp only [pU]
  refine aY 7 36 (.pointer (some ⟨w.heap.size,0,none⟩)) rfl ?_ ?_
  ·intro W hSw;obtain ⟨hS1,hS2⟩:=hSw;obtain ⟨c1,f1,l1⟩:=hS1.rules;obtain ⟨⟨p0,p1,p2,p3,p4⟩,⟨q0,q1,q2,q3,q4⟩⟩:=HCELL.out W hS2;go_simp
  try simp only [pU]
  refine aY 8 37 (.pointer (some ⟨w.heap.size,5,none⟩)) rfl ?_ ?_
  ·intro W hSw;obtain ⟨hS1,hS2⟩:=hSw;obtain ⟨c1,f1,l1⟩:=hS1.rules;obtain ⟨⟨p0,p1,p2,p3,p4⟩,⟨q0,q1,q2,q3,q4⟩⟩:=HCELL.out W hS2;go_simp
  try simp only [pU]
  refine aY 9 38 (.pointer (some ⟨w.heap.size,8,none⟩)) rfl ?_ ?_
  ·intro W hSw;obtain ⟨hS1,hS2⟩:=hSw;obtain ⟨c1,f1,l1⟩:=hS1.rules;obtain ⟨⟨p0,p1,p2,p3,p4⟩,⟨q0,q1,q2,q3,q4⟩⟩:=HCELL.out W hS2;go_simp
  try simp only [pU]
  refine aY 10 39 (.slice (some ⟨bq,oq,none⟩) nkq caq) rfl ?_ ?_
  ·intro W hSw;obtain ⟨hS1,hS2⟩:=hSw;obtain ⟨c1,f1,l1⟩:=hS1.rules;obtain ⟨⟨p0,p1,p2,p3,p4⟩,⟨q0,q1,q2,q3,q4⟩⟩:=HCELL.out W hS2;go_simp
  try simp only [pU]
  refine aY 11 40 (.int .i64 i) rfl ?_ ?_
  ·intro W hSw;obtain ⟨hS1,hS2⟩:=hSw;obtain ⟨c1,f1,l1⟩:=hS1.rules;obtain ⟨⟨p0,p1,p2,p3,p4⟩,⟨q0,q1,q2,q3,q4⟩⟩:=HCELL.out W hS2;go_simp
  try simp only [pU]
  refine aY 12 41 (.pointer (some ⟨bq,oq+i*5,none⟩)) rfl ?_ ?_
  ·intro W hSw;obtain ⟨hS1,hS2⟩:=hSw;obtain ⟨c1,f1,l1⟩:=hS1.rules;obtain ⟨⟨p0,p1,p2,p3,p4⟩,⟨q0,q1,q2,q3,q4⟩⟩:=HCELL.out W hS2;go_simp
  try simp only [pU]
  refine aY 13 42 (.agg #[.int .i64 k2,.int .i64 n2,.string s2,.slice A2 na2 ca2,.slice B2 nb2 cb2]) rfl ?_ ?_
  ·intro W hSw;obtain ⟨hS1,hS2⟩:=hSw;obtain ⟨c1,f1,l1⟩:=hS1.rules;obtain ⟨⟨p0,p1,p2,p3,p4⟩,⟨q0,q1,q2,q3,q4⟩⟩:=HCELL.out W hS2;go_simp
  try simp only [pU]
  refine aV 14 43 rfl (fun K hK=>?_);go_simp;refine (HC.out _ HBW3.out.drew).mono ?_;rintro e w5 ⟨rfl,hb5⟩;have hk5:=HBK3.out.drew.keep hb5.bel;have hg5:=HBW3.out.drew.trans hb5;refine hK.out _ _ (⟨hk5,hg5⟩) (fun hHeld2=>?_);clear hK K hHeld
  try simp only [pU]
  refine aY 15 4 (.int .i64 r) rfl ?_ ?_
  ·intro W hSw;obtain ⟨hS1,hS2⟩:=hSw;obtain ⟨c1,f1,l1⟩:=hS1.rules;obtain ⟨⟨p0,p1,p2,p3,p4⟩,⟨q0,q1,q2,q3,q4⟩⟩:=HCELL.out W hS2;go_simp
  try simp only [pU]
  refine aX ?_;have HG5:=aW hg5;clear hg5 hb5 hk5;go_wp2;go_ret;exact ⟨rfl,HG5.out⟩
 ·have HLE:=aW (show lexI c r=c by unfold lexI;rw [if_neg h0]);have h1:(c != 0)=true:=by simp [h0]
  have h2:(c == 0)=false:=by simp [h0]
  go_wp2;go_ret;refine ⟨?_,HBW3.out⟩;rw [HLE.out];rfl
theorem lexI_assoc (a b c:Int):lexI a (lexI b c)=lexI (lexI a b) c:=by
 unfold lexI;by_cases h:a=0
 ·rw [if_pos h,if_pos h]
 ·rw [if_neg h,if_neg h,if_neg h]
theorem cmpL_at {o:Bool} {xs ys:List JV} {ks ls:List (List UInt8)} {i:Nat} {x y:JV} (hx:xs[i]? = some x) (hy:ys[i]? = some y) :
  cmpL o (xs.drop i) (ks.drop i) (ys.drop i) (ls.drop i)=lexI (lexI (keyC o (ks.drop i) (ls.drop i)) (cmpJ x y)) (cmpL o (xs.drop (i+1)) (ks.drop (i+1)) (ys.drop (i+1)) (ls.drop (i+1))):=by
 obtain ⟨h1,h2⟩:=List.getElem?_eq_some_iff.1 hx;obtain ⟨h3,h4⟩:=List.getElem?_eq_some_iff.1 hy;rw [List.drop_eq_getElem_cons h1,List.drop_eq_getElem_cons h3,h2,h4,cmpL_cons,lexI_assoc,List.tail_drop,List.tail_drop]
theorem cmpL_done (o:Bool) (xs ys:List JV) (ks ls:List (List UInt8)) {i:Nat} (h:xs.length≤i∨ys.length≤i) (h1:i≤xs.length) (h2:i≤ys.length):cmpL o (xs.drop i) ks (ys.drop i) ls=sgnI ((xs.length:Int)-ys.length):=by
 have e1:(xs.drop i).length=xs.length-i:=List.length_drop;have e2:(ys.drop i).length=ys.length-i:=List.length_drop;cases hx:xs.drop i with
 | nil =>
  rw [hx] at e1;cases hy:ys.drop i with
  | nil=>rw [hy] at e2;rw [cmpL_nn];simp at e1 e2;unfold sgnI;rw [if_neg (by omega),if_neg (by omega)]
  | cons y r=>rw [hy] at e2;rw [cmpL_nc];simp at e1 e2;unfold sgnI;rw [if_pos (by omega)]
 | cons x r =>
  rw [hx] at e1;cases hy:ys.drop i with
  | nil=>rw [hy] at e2;rw [cmpL_cn];simp at e1 e2;unfold sgnI;rw [if_neg (by omega),if_pos (by omega)]
  | cons y r'=>rw [hy] at e2;simp at e1 e2;omega
theorem head_drop {ks:List (List UInt8)} {i:Nat} {t:List UInt8} (h:ks[i]? = some t):(ks.drop i).headD []=t:=by
 obtain ⟨h1,h2⟩:=List.getElem?_eq_some_iff.1 h;rw [List.drop_eq_getElem_cons h1,h2];rfl
theorem cAt_any {k n kq nq:Int} {s sq:List UInt8} {kids kidsq:List JV} {keys keysq:List (List UInt8)} {A B Aq Bq:Option Addr} {ca cb caq cbq:Nat} {css cssq:List (List Value)} {F Fq:Nat→Prop} (w:World)
  (h1:VRs w F css kids) (h2:RdF w F A css.flatten) (h3:RdF w F B (strV keys)) (h1q:VRs w Fq cssq kidsq) (h2q:RdF w Fq Aq cssq.flatten) (h3q:RdF w Fq Bq (strV keysq))
  (hca:kids.length≤ca) (hcb:keys.length≤cb) (hcaq:kidsq.length≤caq) (hcbq:keysq.length≤cbq) (b1:kids.length≤4194304) (b2:keys.length≤4194304) (b3:kidsq.length≤4194304) (b4:keysq.length≤4194304)
  (hkey:k=6→keys.length=kids.length∧keysq.length=kidsq.length) (i:Nat) (x y:JV) (hx:kids[i]? = some x) (hy:kidsq[i]? = some y)
  (hI:∀ W csx csy Fx Fy,VR W Fx csx x→VR W Fy csy y→Calls Tryz.prog 192 #[.agg csx.toArray,.agg csy.toArray] W (CmpPost (cmpJ x y) W)) :
  Calls Tryz.prog 209 #[.agg #[.int .i64 k,.int .i64 n,.string ⟨s.toArray⟩,.slice A kids.length ca,.slice B keys.length cb,.int .i64 kq,.int .i64 nq,.string ⟨sq.toArray⟩,.slice Aq kidsq.length caq,.slice Bq keysq.length cbq],.int .i64 i] w (CmpPost (lexI (keyC (decide (k=6)) (keys.drop i) (keysq.drop i)) (cmpJ x y)) w):=by
 obtain ⟨b,o,k1,n1,s1,A1,na1,ca1,B1,nb1,cb1,rfl,hb,hvx,hz⟩:=kid_cellsG h1 h2 hx;obtain ⟨bq,oq,k2,n2,s2,A2,na2,ca2,B2,nb2,cb2,rfl,hbq,hvy,hzq⟩:=kid_cellsG h1q h2q hy;have hi:=(List.getElem?_eq_some_iff.1 hx).1;have hiq:=(List.getElem?_eq_some_iff.1 hy).1;have hcell:∀ W',Grw w W'→W'.cell? ⟨b,o+i*5,none⟩=some (.int .i64 k1)∧W'.cell? ⟨b,o+i*5+1,none⟩=some (.int .i64 n1)∧W'.cell? ⟨b,o+i*5+2,none⟩=some (.string s1)∧W'.cell? ⟨b,o+i*5+3,none⟩=some (.slice A1 na1 ca1)∧W'.cell? ⟨b,o+i*5+4,none⟩=some (.slice B1 nb1 cb1)∧W'.cell? ⟨bq,oq+i*5,none⟩=some (.int .i64 k2)∧W'.cell? ⟨bq,oq+i*5+1,none⟩=some (.int .i64 n2)∧W'.cell? ⟨bq,oq+i*5+2,none⟩=some (.string s2)∧W'.cell? ⟨bq,oq+i*5+3,none⟩=some (.slice A2 na2 ca2)∧W'.cell? ⟨bq,oq+i*5+4,none⟩=some (.slice B2 nb2 cb2):=fun W' h=>by
  obtain ⟨p0,p1,p2,p3,p4⟩:=hz W' h.1;obtain ⟨q0,q1,q2,q3,q4⟩:=hzq W' h.1;exact ⟨p0,p1,p2,p3,p4,q0,q1,q2,q3,q4⟩
 have hC:∀ W,Grw w W→Calls Tryz.prog 192 #[.agg #[.int .i64 k1,.int .i64 n1,.string s1,.slice A1 na1 ca1,.slice B1 nb1 cb1],.agg #[.int .i64 k2,.int .i64 n2,.string s2,.slice A2 na2 ca2,.slice B2 nb2 cb2]] W (CmpPost (cmpJ x y) W):=fun W h=>hI W _ _ F Fq (hvx.bel h.1) (hvy.bel h.1)
 by_cases hk6:k=6
 ·obtain ⟨e1,e2⟩:=hkey hk6;obtain ⟨t,ht⟩:∃ t,keys[i]? = some t:=⟨_,List.getElem?_eq_getElem (by omega)⟩
  obtain ⟨u,hu⟩:∃ u,keysq[i]? = some u:=⟨_,List.getElem?_eq_getElem (by omega)⟩
  obtain ⟨bk,ok,rfl,hbk⟩:=strV_some h3 (by omega);obtain ⟨bkq,okq,rfl,hbkq⟩:=strV_some h3q (by omega);have hky2:∀ W',Grw w W'→W'.cell? ⟨bk,ok+i,none⟩=some (.string ⟨t.toArray⟩)∧W'.cell? ⟨bkq,okq+i,none⟩=some (.string ⟨u.toArray⟩):=fun W' h =>
   ⟨strV_cell (n:=0) ((h3.mono fun _ _ _=>trivial).keep (KeepF.of_below h.1)) ht,strV_cell (n:=0) ((h3q.mono fun _ _ _=>trivial).keep (KeepF.of_below h.1)) hu⟩
  have e:keyC (decide (k=6)) (keys.drop i) (keysq.drop i)=cmpB t u:=by unfold keyC;rw [decide_eq_true hk6,if_pos rfl,head_drop ht,head_drop hu]
  rw [e];subst hk6;exact cAt_obj n kq nq _ _ b o _ ca _ cb bq oq _ caq _ cbq i k1 n1 k2 n2 s1 s2 A1 B1 A2 B2 na1 ca1 nb1 cb1 na2 ca2 nb2 cb2 (cmpJ x y) w bk ok bkq okq t u (by omega) (by omega) hcb hcbq b2 b4 hky2 hi hiq b1 b3 hca hcaq hcell hC
 ·have e:keyC (decide (k=6)) (keys.drop i) (keysq.drop i)=0:=by unfold keyC;rw [decide_eq_false hk6];rfl
  rw [e];exact cAt_list k n kq nq _ _ b o _ ca _ cb bq oq _ caq _ cbq i k1 n1 k2 n2 s1 s2 A1 B1 A2 B2 na1 ca1 nb1 cb1 na2 ca2 nb2 cb2 (cmpJ x y) w B Bq hk6 hi hiq b1 b3 hca hcaq hcell hC
theorem cKids_any {k n kq nq:Int} {s sq:List UInt8} {kids kidsq:List JV} {keys keysq:List (List UInt8)} {A B Aq Bq:Option Addr} {ca cb caq cbq:Nat} {css cssq:List (List Value)} {F Fq:Nat→Prop} (w:World)
  (h1:VRs w F css kids) (h2:RdF w F A css.flatten) (h3:RdF w F B (strV keys)) (h1q:VRs w Fq cssq kidsq) (h2q:RdF w Fq Aq cssq.flatten) (h3q:RdF w Fq Bq (strV keysq))
  (hca:kids.length≤ca) (hcb:keys.length≤cb) (hcaq:kidsq.length≤caq) (hcbq:keysq.length≤cbq) (b1:kids.length≤4194304) (b2:keys.length≤4194304) (b3:kidsq.length≤4194304) (b4:keysq.length≤4194304)
  (hkey:k=6→keys.length=kids.length∧keysq.length=kidsq.length)
  (hI:∀ x ∈ kids,∀ y ∈ kidsq,∀ W csx csy Fx Fy,VR W Fx csx x→VR W Fy csy y→Calls Tryz.prog 192 #[.agg csx.toArray,.agg csy.toArray] W (CmpPost (cmpJ x y) W)) :
  Calls Tryz.prog 204 #[.agg #[.int .i64 k,.int .i64 n,.string ⟨s.toArray⟩,.slice A kids.length ca,.slice B keys.length cb,.int .i64 kq,.int .i64 nq,.string ⟨sq.toArray⟩,.slice Aq kidsq.length caq,.slice Bq keysq.length cbq]] w (CmpPost (cmpL (decide (k=6)) kids keys kidsq keysq) w):=by
 have HAT:=aW (fun (W:World) (h:Grw w W) (i:Nat) (x y:JV) (hx:kids[i]? = some x) (hy:kidsq[i]? = some y)=>cAt_any (n:=n) (kq:=kq) (nq:=nq) (s:=s) (sq:=sq) W (h1.keep (KeepF.of_below h.1)) (h2.keep (KeepF.of_below h.1)) (h3.keep (KeepF.of_below h.1)) (h1q.keep (KeepF.of_below h.1)) (h2q.keep (KeepF.of_below h.1)) (h3q.keep (KeepF.of_below h.1)) hca hcb hcaq hcbq b1 b2 b3 b4 hkey i x y hx hy (hI x (List.mem_of_getElem? hx) y (List.mem_of_getElem? hy)));have HSG:=aW (fun n W=>cSign_any n W);obtain ⟨T,hT⟩:∃ T,cmpL (decide (k=6)) kids keys kidsq keysq=T:=⟨_,rfl⟩
 rw [hT];have HT:=aW hT;have HDONE:=aW (fun (i:Nat)=>cmpL_done (decide (k=6)) kids kidsq (keys.drop i) (keysq.drop i) (i:=i));obtain ⟨nk,hnk⟩:∃ nk,kids.length=nk:=⟨_,rfl⟩
 obtain ⟨ny,hny⟩:∃ ny,keys.length=ny:=⟨_,rfl⟩
 obtain ⟨nkq,hnkq⟩:∃ nkq,kidsq.length=nkq:=⟨_,rfl⟩
 obtain ⟨nyq,hnyq⟩:∃ nyq,keysq.length=nyq:=⟨_,rfl⟩
 have HNK:=aW hnk;have HNKQ:=aW hnkq;rw [hnk,hny,hnkq,hnyq] at HAT;rw [hnk,hnkq] at HDONE;rw [hnk] at b1 ⊢;rw [hnkq] at b3 ⊢;rw [hny,hnyq];have HBW:=aW ((Grw.refl w).alloc (.cells #[.int .i64 k,.int .i64 n,.string ⟨s.toArray⟩,.slice A nk ca,.slice B ny cb,.int .i64 kq,.int .i64 nq,.string ⟨sq.toArray⟩,.slice Aq nkq caq,.slice Bq nyq cbq] 232));have HBK:=aW (Blk.new w 232 #[.int .i64 k,.int .i64 n,.string ⟨s.toArray⟩,.slice A nk ca,.slice B ny cb,.int .i64 kq,.int .i64 nq,.string ⟨sq.toArray⟩,.slice Aq nkq caq,.slice Bq nyq cbq]);have hmf:∀ (fn:Fn) (first cap:Array Value) (w:World),(Instr.makeFunc fn first cap).run Tryz.prog w=.ok (.func fn first cap) w:=fun _ _ _ _=>rfl
 clear h1 h2 h3 h1q h2q h3q hca hcb hcaq hcbq hkey hI hT hnk hny hnkq hnyq b2 b4;obtain ⟨nm,hnm⟩:∃ nm:Nat,nm=min nk nkq:=⟨_,rfl⟩
 have hcase:((nk:Int)≤nkq∧¬ (nkq:Int)<nk∧nk=nm)∨((nkq:Int)<nk∧¬ (nk:Int)≤nkq∧nkq=nm):=by omega
 have hm1:nm≤nk:=by omega
 have hm2:nm≤nkq:=by omega
 have hm3:nk≤nm∨nkq≤nm:=by omega
 clear hnm;rcases hcase with ⟨hlq,hlq2,rfl⟩ | ⟨hlq,hlq2,rfl⟩
 ·go_enter Tryz.func204,Tryz.ntmps204;go_wp2;go_step3;go_wp2;go_step3;go_wp2;go_loopg [4,21] nk (fun gk s4 s21 wr => ∃ i:Nat,i≤nk∧gk=nk-i∧s4=.int .i64 0∧s21=.int .i64 i∧Hid (T=cmpL (decide (k=6)) (kids.drop i) (keys.drop i) (kidsq.drop i) (keysq.drop i))∧Hid (Blk wr w.heap.size 232 #[.int .i64 k,.int .i64 n,.string ⟨s.toArray⟩,.slice A nk ca,.slice B ny cb,.int .i64 kq,.int .i64 nq,.string ⟨sq.toArray⟩,.slice Aq nkq caq,.slice Bq nyq cbq])∧Hid (Grw w wr))
  case atStart=>exact ⟨0,Nat.zero_le _,rfl,by go_num,by go_num,aW (by rw [List.drop_zero,List.drop_zero,List.drop_zero,List.drop_zero,HT.out]),HBK,HBW⟩
  case round =>
   obtain ⟨i,hi,hgk,rfl,rfl,HQ,HB1,HW1⟩:=hrel;have HG:=aW hgk;clear hgk;by_cases hlt:i<nk
   ·obtain ⟨x,hx⟩:∃ x,kids[i]? = some x:=⟨_,List.getElem?_eq_getElem (by rw [HNK.out];omega)⟩
    obtain ⟨y,hy⟩:∃ y,kidsq[i]? = some y:=⟨_,List.getElem?_eq_getElem (by rw [HNKQ.out];omega)⟩
    have hat:=HAT.out wr HW1.out i x y hx hy;have hst:=cmpL_at (o:=decide (k=6)) (ks:=keys) (ls:=keysq) hx hy;obtain ⟨c,hc⟩:∃ c,lexI (keyC (decide (k=6)) (keys.drop i) (keysq.drop i)) (cmpJ x y)=c:=⟨_,rfl⟩
    rw [hc] at hat hst;have HC:=aW hat;have HST:=aW hst;clear hat hst hc hx hy;go_wp2_with fail;refine HC.out.mono ?_;rintro e w1 ⟨rfl,hg1⟩;have HW2:=aW (HW1.out.trans hg1);have HB2:=aW (HB1.out.keep hg1.1);clear hg1;by_cases h0:c=0
    ·subst h0;have HQ2:=aW (show T=cmpL (decide (k=6)) (kids.drop (i+1)) (keys.drop (i+1)) (kidsq.drop (i+1)) (keysq.drop (i+1)) by rw [HQ.out,HST.out];rfl);go_wp2;go_roundg (nk-(i+1))
     case measure=>rw [HG.out];omega
     case rel=>exact ⟨i+1,hlt,rfl,by go_num,by go_num,HQ2,HB2,HW2⟩
    ·have hT0:T=c:=by rw [HQ.out,HST.out];unfold lexI;rw [if_neg h0]
     have h1:(c != 0)=true:=by simp [h0]
     have h2:(c == 0)=false:=by simp [h0]
     have HT0:=aW hT0;clear hT0;go_wp2;rw [Exit.noGoto_ret];go_ret;exact ⟨by rw [HT0.out];rfl,HW2.out⟩
   ·obtain rfl:i=nk:=by omega
    obtain ⟨c1,f1,l1⟩:=HB1.out.rules;have hT0:=HDONE.out i (by omega) (by omega) (by omega);rw [← HQ.out] at hT0;have HT0:=aW hT0;clear hT0;go_wp2_with fail;refine (HSG.out _ _).mono ?_;rintro e w1 ⟨rfl,rfl⟩;go_wp2;rw [Exit.noGoto_ret];go_ret;exact ⟨by rw [HT0.out];rfl,HW1.out⟩
 ·go_enter Tryz.func204,Tryz.ntmps204;go_wp2;go_step3;go_wp2;go_step3;go_wp2;go_loopg [4,21] nkq (fun gk s4 s21 wr => ∃ i:Nat,i≤nkq∧gk=nkq-i∧s4=.int .i64 0∧s21=.int .i64 i∧Hid (T=cmpL (decide (k=6)) (kids.drop i) (keys.drop i) (kidsq.drop i) (keysq.drop i))∧Hid (Blk wr w.heap.size 232 #[.int .i64 k,.int .i64 n,.string ⟨s.toArray⟩,.slice A nk ca,.slice B ny cb,.int .i64 kq,.int .i64 nq,.string ⟨sq.toArray⟩,.slice Aq nkq caq,.slice Bq nyq cbq])∧Hid (Grw w wr))
  case atStart=>exact ⟨0,Nat.zero_le _,rfl,by go_num,by go_num,aW (by rw [List.drop_zero,List.drop_zero,List.drop_zero,List.drop_zero,HT.out]),HBK,HBW⟩
  case round =>
   obtain ⟨i,hi,hgk,rfl,rfl,HQ,HB1,HW1⟩:=hrel;have HG:=aW hgk;clear hgk;by_cases hlt:i<nkq
   ·obtain ⟨x,hx⟩:∃ x,kids[i]? = some x:=⟨_,List.getElem?_eq_getElem (by rw [HNK.out];omega)⟩
    obtain ⟨y,hy⟩:∃ y,kidsq[i]? = some y:=⟨_,List.getElem?_eq_getElem (by rw [HNKQ.out];omega)⟩
    have hat:=HAT.out wr HW1.out i x y hx hy;have hst:=cmpL_at (o:=decide (k=6)) (ks:=keys) (ls:=keysq) hx hy;obtain ⟨c,hc⟩:∃ c,lexI (keyC (decide (k=6)) (keys.drop i) (keysq.drop i)) (cmpJ x y)=c:=⟨_,rfl⟩
    rw [hc] at hat hst;have HC:=aW hat;have HST:=aW hst;clear hat hst hc hx hy;go_wp2_with fail;refine HC.out.mono ?_;rintro e w1 ⟨rfl,hg1⟩;have HW2:=aW (HW1.out.trans hg1);have HB2:=aW (HB1.out.keep hg1.1);clear hg1;by_cases h0:c=0
    ·subst h0;have HQ2:=aW (show T=cmpL (decide (k=6)) (kids.drop (i+1)) (keys.drop (i+1)) (kidsq.drop (i+1)) (keysq.drop (i+1)) by rw [HQ.out,HST.out];rfl);go_wp2;go_roundg (nkq-(i+1))
     case measure=>rw [HG.out];omega
     case rel=>exact ⟨i+1,hlt,rfl,by go_num,by go_num,HQ2,HB2,HW2⟩
    ·have hT0:T=c:=by rw [HQ.out,HST.out];unfold lexI;rw [if_neg h0]
     have h1:(c != 0)=true:=by simp [h0]
     have h2:(c == 0)=false:=by simp [h0]
     have HT0:=aW hT0;clear hT0;go_wp2;rw [Exit.noGoto_ret];go_ret;exact ⟨by rw [HT0.out];rfl,HW2.out⟩
   ·obtain rfl:i=nkq:=by omega
    obtain ⟨c1,f1,l1⟩:=HB1.out.rules;have hT0:=HDONE.out i (by omega) (by omega) (by omega);rw [← HQ.out] at hT0;have HT0:=aW hT0;clear hT0;go_wp2_with fail;refine (HSG.out _ _).mono ?_;rintro e w1 ⟨rfl,rfl⟩;go_wp2;rw [Exit.noGoto_ret];go_ret;exact ⟨by rw [HT0.out];rfl,HW1.out⟩
end Go.Proofs.YtgolomgmnanbpaaGreatDoor
