import Derived.Test.YtgolomgmnanbpaaGreatDoorV10
import Derived.Sort.Grow
import Derived.Lib.Bytealg
open Go.Value renaming int → Zi, slice → Zs, string → Zt, pointer → Zp
open Go.IntKind renaming i64 → Zq
set_option maxRecDepth 100000
set_option maxHeartbeats 16000000
set_option linter.unusedVariables false
set_option linter.unusedSimpArgs false
namespace Go.Proofs.YtgolomgmnanbpaaGreatDoor
section
open Go.RowKit
attribute [local go_sem] aa ac ae ab
def Grw (w w':World):Prop:=Below w.heap.size w w'/\w.drawn<=w'.drawn
section
variable {w w' w2:World}
theorem Grw.refl (w:World):Grw w w:=⟨Below.refl _ _,Nat.le_refl _⟩
theorem Grw.trans (h:Grw w w') (k:Grw w' w2):Grw w w2:=⟨h.1.trans (k.1.mono h.1.size),Nat.le_trans h.2 k.2⟩
theorem Grw.alloc (h:Grw w w') (o:Obj):Grw w (w'.alloc o):=⟨h.1.alloc h.1.size o,h.2⟩
theorem Grw.drew (h:Grw w w'):Grw w w'.drew:=⟨h.1.drew,Nat.le_succ_of_le h.2⟩
theorem Grw.drewN (h:Grw w w') (n:Nat):Grw w (w'.drewN n):=⟨av h.1 n,Nat.le_trans h.2 (Nat.le_add_right _ _)⟩
theorem Grw.bel (h:Grw w w'):Below w.heap.size w w':=h.1
end
theorem fg:∀ s t:List UInt8,Lib.compareBytes s t=cK s t
 | [],[]=>rfl
 | [],b::t=>by unfold Lib.compareBytes cK;rw [if_neg (by simp),if_pos (dm b t)]
 | a::s,[]=>by unfold Lib.compareBytes cK;rw [if_neg (by simp),if_neg (by rw [fM];decide)]
 |a::s,b::t=>by
  unfold Lib.compareBytes;rw [fg s t];unfold cK;by_cases h1:a<b
  ·have hne:a≠b:=by rintro rfl;have:=UInt8.lt_iff_toNat_lt.1 h1;omega
   rw [if_pos h1,if_neg (by intro e;injection e with e _;exact hne e),if_pos ((dr a b s t).2 (.inl h1))]
  ·rw [if_neg h1];by_cases h2:b<a
   ·have hne:a≠b:=by rintro rfl;exact h1 h2
    rw [if_pos h2,if_neg (by intro e;injection e with e _;exact hne e),if_neg (λ e=>((dr a b s t).1 e).elim h1 (λ h=>hne h.1))]
   ·have he:a=b:=by
     apply UInt8.toNat_inj.1;have a1:¬ a.toNat<b.toNat:=λ h=>h1 (UInt8.lt_iff_toNat_lt.2 h)
     have a2:¬ b.toNat<a.toNat:=λ h=>h2 (UInt8.lt_iff_toNat_lt.2 h)
     omega
    subst he;rw [if_neg h2];by_cases h3:s=t
    ·rw [if_pos h3,if_pos (by rw [h3])]
    ·have e1:¬ (a::s=a::t):=by intro e;injection e with _ e;exact h3 e
     rw [if_neg h3,if_neg e1];by_cases h4:ltB s t=true
     ·rw [if_pos h4,if_pos ((dr a a s t).2 (.inr ⟨rfl,h4⟩))]
     ·rw [if_neg h4,if_neg (λ e=>((dr a a s t).1 e).elim h2 (λ h=>h4 h.2))]
theorem mM (s t:List UInt8) (w:World):Calls Tryz.prog 208 #[Zt ⟨s.toArray⟩,Zt ⟨t.toArray⟩] w λ e w'=>e=.returned (Zi Zq (cK s t))/\w=w':=by
 have he:Lib.compareBytes (⟨s.toArray⟩:ByteArray).data.toList (⟨t.toArray⟩:ByteArray).data.toList=cK s t:=by simp only [List.toList_toArray];exact fg s t
 have HE:=aW he;clear he;go_enter Tryz.func208,Tryz.ntmps208;go_wp2;rw [run_callFunc_extern Tryz.func210 (by kernel_rfl) (by kernel_rfl) (by kernel_rfl) (e:=Extern.BytealgCompare.compare) (by kernel_rfl),Lib.run_compareString,HE.out];simp only [Result.andThen];rw [Oper.upon_value];go_wp2;go_ret;exact ⟨rfl,rfl⟩
theorem jJ (s t:List UInt8) (w:World):Calls Tryz.prog 203 #[Zt ⟨s.toArray⟩,Zt ⟨t.toArray⟩] w λ e w'=>e=.returned (Zi Zq (cK s t))/\w=w':=by
 have HC:=aW (λ W=>mM s t W);go_enter Tryz.func203,Tryz.ntmps203;go_wp2_with fail;refine (HC.out _).mono ?_;rintro e w1 ⟨rfl,rfl⟩;go_wp2;go_ret;exact ⟨rfl,rfl⟩
theorem ll (n:Int) (w:World):Calls Tryz.prog 202 #[Zi Zq n] w λ e w'=>e=.returned (Zi Zq (di n))/\w=w':=by
 rcases (show n < -1∨n = -1∨n=0∨n=1∨1<n by omega) with h | rfl | rfl | rfl | h
 ·have e:di n = -1:=by unfold di;rw [if_pos (by omega)]
  rw [e];have h1:n<1:=by omega
  go_enter Tryz.func202,Tryz.ntmps202;go_wp2;go_ret;exact ⟨rfl,rfl⟩
 ·go_enter Tryz.func202,Tryz.ntmps202;go_wp2;go_ret;exact ⟨rfl,rfl⟩
 ·go_enter Tryz.func202,Tryz.ntmps202;go_wp2;go_ret;exact ⟨rfl,rfl⟩
 ·go_enter Tryz.func202,Tryz.ntmps202;go_wp2;go_ret;exact ⟨rfl,rfl⟩
 ·have e:di n=1:=by unfold di;rw [if_neg (by omega),if_pos (by omega)]
  rw [e];have h1:¬ n<1:=by omega
  go_enter Tryz.func202,Tryz.ntmps202;go_wp2;go_ret;exact ⟨rfl,rfl⟩
theorem cY (w:World):Calls Tryz.prog 207 #[] w λ e w'=>e=.returned (.agg #[Zi Zq 0,Zi Zq 0,Zi Zq 1,Zi Zq 3,Zi Zq 4,Zi Zq 5,Zi Zq 6])/\Grw w w':=by
 have hb:=(Grw.refl w).alloc (.cells #[Zi Zq 0,Zi Zq 0,Zi Zq 1,Zi Zq 3,Zi Zq 4,Zi Zq 5,Zi Zq 6] 235);have HB:=aW hb;clear hb;go_enter Tryz.func207,Tryz.ntmps207;go_wp2;refine bodyPost_ret (v:=.agg #[Zi Zq 0,Zi Zq 0,Zi Zq 1,Zi Zq 3,Zi Zq 4,Zi Zq 5,Zi Zq 6]) (by simp only [results,Tryz.results207];go_simp) rfl ?_;exact ⟨rfl,HB.out⟩
theorem uY (n:Int) (s:ByteArray) (nk nb:Nat) (A B:Option Addr) (ca cb:Nat) (w:World):Calls Tryz.prog 201 #[.agg #[Zi Zq 1,Zi Zq n,Zt s,Zs A nk ca,Zs B nb cb]] w λ e w'=>e=.returned (Zi Zq 0)/\Grw w w':=by
 have HBW:=aW ((Grw.refl w).alloc (.cells #[Zi Zq 1,Zi Zq n,Zt s,Zs A nk ca,Zs B nb cb] 25));have HBK:=aW (Blk.new w 25 #[Zi Zq 1,Zi Zq n,Zt s,Zs A nk ca,Zs B nb cb]);go_enter Tryz.func201,Tryz.ntmps201;go_wp2;refine wp_region_held_drew (S:=λ w'=>Blk w' w.heap.size 25 #[Zi Zq 1,Zi Zq n,Zt s,Zs A nk ca,Zs B nb cb]) (by kernel_rfl) (by exact HBK.out.drew) (λ hHeld=>?_);refine aY 1 5 (Zp (some ⟨w.heap.size,0,none⟩)) rfl ?_ ?_
 ·intro W hSw;obtain ⟨c1,f1,l1⟩:=hSw.rules;go_simp
 refine aY 2 6 (Zi Zq 1) rfl ?_ ?_
 ·intro W hSw;obtain ⟨c1,f1,l1⟩:=hSw.rules;go_simp
 refine aV 0 4 rfl (λ K hK=>?_);go_simp;refine (cY _).mono ?_;rintro e w2 ⟨rfl,hb2⟩;have hk2:=HBK.out.drew.keep hb2.bel;have hg2:=HBW.out.drew.trans hb2;refine hK.out _ _ (hk2) (λ hHeld2=>?_);clear hK K hHeld
 try simp only [pU]
 refine aY 3 7 (Zi Zq 0) rfl ?_ ?_
 ·intro W hSw;obtain ⟨c1,f1,l1⟩:=hSw.rules;go_simp
 refine aY 4 3 (Zi Zq 0) rfl ?_ ?_
 ·intro W hSw;obtain ⟨c1,f1,l1⟩:=hSw.rules;go_simp
 refine aX ?_;have HG2:=aW hg2;obtain ⟨c1,f1,l1⟩:=hk2.rules;clear hg2 hb2 hk2;go_wp2;go_ret;exact ⟨rfl,HG2.out⟩
theorem vd (n:Int) (s:ByteArray) (nk nb:Nat) (A B:Option Addr) (ca cb:Nat) (w:World):Calls Tryz.prog 201 #[.agg #[Zi Zq 2,Zi Zq 1,Zt s,Zs A nk ca,Zs B nb cb]] w λ e w'=>e=.returned (Zi Zq 2)/\Grw w w':=by
 have HBW:=aW ((Grw.refl w).alloc (.cells #[Zi Zq 2,Zi Zq 1,Zt s,Zs A nk ca,Zs B nb cb] 25));have HBK:=aW (Blk.new w 25 #[Zi Zq 2,Zi Zq 1,Zt s,Zs A nk ca,Zs B nb cb]);go_enter Tryz.func201,Tryz.ntmps201;go_wp2;refine wp_region_held_drew (S:=λ w'=>Blk w' w.heap.size 25 #[Zi Zq 2,Zi Zq 1,Zt s,Zs A nk ca,Zs B nb cb]) (by kernel_rfl) (by exact HBK.out.drew) (λ hHeld=>?_);refine aY 1 5 (Zp (some ⟨w.heap.size,0,none⟩)) rfl ?_ ?_
 ·intro W hSw;obtain ⟨c1,f1,l1⟩:=hSw.rules;go_simp
 refine aY 2 6 (Zi Zq 2) rfl ?_ ?_
 ·intro W hSw;obtain ⟨c1,f1,l1⟩:=hSw.rules;go_simp
 refine aV 0 4 rfl (λ K hK=>?_);go_simp;refine (cY _).mono ?_;rintro e w2 ⟨rfl,hb2⟩;have hk2:=HBK.out.drew.keep hb2.bel;have hg2:=HBW.out.drew.trans hb2;refine hK.out _ _ (hk2) (λ hHeld2=>?_);clear hK K hHeld
 try simp only [pU]
 refine aY 3 7 (Zi Zq 1) rfl ?_ ?_
 ·intro W hSw;obtain ⟨c1,f1,l1⟩:=hSw.rules;go_simp
 refine aY 4 3 (Zi Zq 1) rfl ?_ ?_
 ·intro W hSw;obtain ⟨c1,f1,l1⟩:=hSw.rules;go_simp
 refine aX ?_;have HG2:=aW hg2;obtain ⟨c1,f1,l1⟩:=hk2.rules;clear hg2 hb2 hk2;go_wp2;go_ret;exact ⟨rfl,HG2.out⟩
theorem ts (n:Int) (s:ByteArray) (nk nb:Nat) (A B:Option Addr) (ca cb:Nat) (w:World) (hn:n≠1):Calls Tryz.prog 201 #[.agg #[Zi Zq 2,Zi Zq n,Zt s,Zs A nk ca,Zs B nb cb]] w λ e w'=>e=.returned (Zi Zq 1)/\Grw w w':=by
 have HBW:=aW ((Grw.refl w).alloc (.cells #[Zi Zq 2,Zi Zq n,Zt s,Zs A nk ca,Zs B nb cb] 25));have HBK:=aW (Blk.new w 25 #[Zi Zq 2,Zi Zq n,Zt s,Zs A nk ca,Zs B nb cb]);have hn1:(n == 1)=false:=by simp [hn]
 go_enter Tryz.func201,Tryz.ntmps201;go_wp2;refine wp_region_held_drew (S:=λ w'=>Blk w' w.heap.size 25 #[Zi Zq 2,Zi Zq n,Zt s,Zs A nk ca,Zs B nb cb]) (by kernel_rfl) (by exact HBK.out.drew) (λ hHeld=>?_);refine aY 1 5 (Zp (some ⟨w.heap.size,0,none⟩)) rfl ?_ ?_
 ·intro W hSw;obtain ⟨c1,f1,l1⟩:=hSw.rules;go_simp
 refine aY 2 6 (Zi Zq 2) rfl ?_ ?_
 ·intro W hSw;obtain ⟨c1,f1,l1⟩:=hSw.rules;go_simp
 refine aV 0 4 rfl (λ K hK=>?_);go_simp;refine (cY _).mono ?_;rintro e w2 ⟨rfl,hb2⟩;have hk2:=HBK.out.drew.keep hb2.bel;have hg2:=HBW.out.drew.trans hb2;refine hK.out _ _ (hk2) (λ hHeld2=>?_);clear hK K hHeld
 try simp only [pU]
 refine aY 3 7 (Zi Zq 1) rfl ?_ ?_
 ·intro W hSw;obtain ⟨c1,f1,l1⟩:=hSw.rules;go_simp
 refine aY 4 3 (Zi Zq 1) rfl ?_ ?_
 ·intro W hSw;obtain ⟨c1,f1,l1⟩:=hSw.rules;go_simp
 refine aX ?_;have HG2:=aW hg2;obtain ⟨c1,f1,l1⟩:=hk2.rules;clear hg2 hb2 hk2;go_wp2;go_ret;exact ⟨rfl,HG2.out⟩
theorem vp (n:Int) (s:ByteArray) (nk nb:Nat) (A B:Option Addr) (ca cb:Nat) (w:World):Calls Tryz.prog 201 #[.agg #[Zi Zq 3,Zi Zq n,Zt s,Zs A nk ca,Zs B nb cb]] w λ e w'=>e=.returned (Zi Zq 3)/\Grw w w':=by
 have HBW:=aW ((Grw.refl w).alloc (.cells #[Zi Zq 3,Zi Zq n,Zt s,Zs A nk ca,Zs B nb cb] 25));have HBK:=aW (Blk.new w 25 #[Zi Zq 3,Zi Zq n,Zt s,Zs A nk ca,Zs B nb cb]);go_enter Tryz.func201,Tryz.ntmps201;go_wp2;refine wp_region_held_drew (S:=λ w'=>Blk w' w.heap.size 25 #[Zi Zq 3,Zi Zq n,Zt s,Zs A nk ca,Zs B nb cb]) (by kernel_rfl) (by exact HBK.out.drew) (λ hHeld=>?_);refine aY 1 5 (Zp (some ⟨w.heap.size,0,none⟩)) rfl ?_ ?_
 ·intro W hSw;obtain ⟨c1,f1,l1⟩:=hSw.rules;go_simp
 refine aY 2 6 (Zi Zq 3) rfl ?_ ?_
 ·intro W hSw;obtain ⟨c1,f1,l1⟩:=hSw.rules;go_simp
 refine aV 0 4 rfl (λ K hK=>?_);go_simp;refine (cY _).mono ?_;rintro e w2 ⟨rfl,hb2⟩;have hk2:=HBK.out.drew.keep hb2.bel;have hg2:=HBW.out.drew.trans hb2;refine hK.out _ _ (hk2) (λ hHeld2=>?_);clear hK K hHeld
 try simp only [pU]
 refine aY 3 7 (Zi Zq 3) rfl ?_ ?_
 ·intro W hSw;obtain ⟨c1,f1,l1⟩:=hSw.rules;go_simp
 refine aY 4 3 (Zi Zq 3) rfl ?_ ?_
 ·intro W hSw;obtain ⟨c1,f1,l1⟩:=hSw.rules;go_simp
 refine aX ?_;have HG2:=aW hg2;obtain ⟨c1,f1,l1⟩:=hk2.rules;clear hg2 hb2 hk2;go_wp2;go_ret;exact ⟨rfl,HG2.out⟩
theorem uy (n:Int) (s:ByteArray) (nk nb:Nat) (A B:Option Addr) (ca cb:Nat) (w:World):Calls Tryz.prog 201 #[.agg #[Zi Zq 4,Zi Zq n,Zt s,Zs A nk ca,Zs B nb cb]] w λ e w'=>e=.returned (Zi Zq 4)/\Grw w w':=by
 have HBW:=aW ((Grw.refl w).alloc (.cells #[Zi Zq 4,Zi Zq n,Zt s,Zs A nk ca,Zs B nb cb] 25));have HBK:=aW (Blk.new w 25 #[Zi Zq 4,Zi Zq n,Zt s,Zs A nk ca,Zs B nb cb]);go_enter Tryz.func201,Tryz.ntmps201;go_wp2;refine wp_region_held_drew (S:=λ w'=>Blk w' w.heap.size 25 #[Zi Zq 4,Zi Zq n,Zt s,Zs A nk ca,Zs B nb cb]) (by kernel_rfl) (by exact HBK.out.drew) (λ hHeld=>?_);refine aY 1 5 (Zp (some ⟨w.heap.size,0,none⟩)) rfl ?_ ?_
 ·intro W hSw;obtain ⟨c1,f1,l1⟩:=hSw.rules;go_simp
 refine aY 2 6 (Zi Zq 4) rfl ?_ ?_
 ·intro W hSw;obtain ⟨c1,f1,l1⟩:=hSw.rules;go_simp
 refine aV 0 4 rfl (λ K hK=>?_);go_simp;refine (cY _).mono ?_;rintro e w2 ⟨rfl,hb2⟩;have hk2:=HBK.out.drew.keep hb2.bel;have hg2:=HBW.out.drew.trans hb2;refine hK.out _ _ (hk2) (λ hHeld2=>?_);clear hK K hHeld
 try simp only [pU]
 refine aY 3 7 (Zi Zq 4) rfl ?_ ?_
 ·intro W hSw;obtain ⟨c1,f1,l1⟩:=hSw.rules;go_simp
 refine aY 4 3 (Zi Zq 4) rfl ?_ ?_
 ·intro W hSw;obtain ⟨c1,f1,l1⟩:=hSw.rules;go_simp
 refine aX ?_;have HG2:=aW hg2;obtain ⟨c1,f1,l1⟩:=hk2.rules;clear hg2 hb2 hk2;go_wp2;go_ret;exact ⟨rfl,HG2.out⟩
theorem vw (n:Int) (s:ByteArray) (nk nb:Nat) (A B:Option Addr) (ca cb:Nat) (w:World):Calls Tryz.prog 201 #[.agg #[Zi Zq 5,Zi Zq n,Zt s,Zs A nk ca,Zs B nb cb]] w λ e w'=>e=.returned (Zi Zq 5)/\Grw w w':=by
 have HBW:=aW ((Grw.refl w).alloc (.cells #[Zi Zq 5,Zi Zq n,Zt s,Zs A nk ca,Zs B nb cb] 25));have HBK:=aW (Blk.new w 25 #[Zi Zq 5,Zi Zq n,Zt s,Zs A nk ca,Zs B nb cb]);go_enter Tryz.func201,Tryz.ntmps201;go_wp2;refine wp_region_held_drew (S:=λ w'=>Blk w' w.heap.size 25 #[Zi Zq 5,Zi Zq n,Zt s,Zs A nk ca,Zs B nb cb]) (by kernel_rfl) (by exact HBK.out.drew) (λ hHeld=>?_);refine aY 1 5 (Zp (some ⟨w.heap.size,0,none⟩)) rfl ?_ ?_
 ·intro W hSw;obtain ⟨c1,f1,l1⟩:=hSw.rules;go_simp
 refine aY 2 6 (Zi Zq 5) rfl ?_ ?_
 ·intro W hSw;obtain ⟨c1,f1,l1⟩:=hSw.rules;go_simp
 refine aV 0 4 rfl (λ K hK=>?_);go_simp;refine (cY _).mono ?_;rintro e w2 ⟨rfl,hb2⟩;have hk2:=HBK.out.drew.keep hb2.bel;have hg2:=HBW.out.drew.trans hb2;refine hK.out _ _ (hk2) (λ hHeld2=>?_);clear hK K hHeld
 try simp only [pU]
 refine aY 3 7 (Zi Zq 5) rfl ?_ ?_
 ·intro W hSw;obtain ⟨c1,f1,l1⟩:=hSw.rules;go_simp
 refine aY 4 3 (Zi Zq 5) rfl ?_ ?_
 ·intro W hSw;obtain ⟨c1,f1,l1⟩:=hSw.rules;go_simp
 refine aX ?_;have HG2:=aW hg2;obtain ⟨c1,f1,l1⟩:=hk2.rules;clear hg2 hb2 hk2;go_wp2;go_ret;exact ⟨rfl,HG2.out⟩
theorem vK (n:Int) (s:ByteArray) (nk nb:Nat) (A B:Option Addr) (ca cb:Nat) (w:World):Calls Tryz.prog 201 #[.agg #[Zi Zq 6,Zi Zq n,Zt s,Zs A nk ca,Zs B nb cb]] w λ e w'=>e=.returned (Zi Zq 6)/\Grw w w':=by
 have HBW:=aW ((Grw.refl w).alloc (.cells #[Zi Zq 6,Zi Zq n,Zt s,Zs A nk ca,Zs B nb cb] 25));have HBK:=aW (Blk.new w 25 #[Zi Zq 6,Zi Zq n,Zt s,Zs A nk ca,Zs B nb cb]);go_enter Tryz.func201,Tryz.ntmps201;go_wp2;refine wp_region_held_drew (S:=λ w'=>Blk w' w.heap.size 25 #[Zi Zq 6,Zi Zq n,Zt s,Zs A nk ca,Zs B nb cb]) (by kernel_rfl) (by exact HBK.out.drew) (λ hHeld=>?_);refine aY 1 5 (Zp (some ⟨w.heap.size,0,none⟩)) rfl ?_ ?_
 ·intro W hSw;obtain ⟨c1,f1,l1⟩:=hSw.rules;go_simp
 refine aY 2 6 (Zi Zq 6) rfl ?_ ?_
 ·intro W hSw;obtain ⟨c1,f1,l1⟩:=hSw.rules;go_simp
 refine aV 0 4 rfl (λ K hK=>?_);go_simp;refine (cY _).mono ?_;rintro e w2 ⟨rfl,hb2⟩;have hk2:=HBK.out.drew.keep hb2.bel;have hg2:=HBW.out.drew.trans hb2;refine hK.out _ _ (hk2) (λ hHeld2=>?_);clear hK K hHeld
 try simp only [pU]
 refine aY 3 7 (Zi Zq 6) rfl ?_ ?_
 ·intro W hSw;obtain ⟨c1,f1,l1⟩:=hSw.rules;go_simp
 refine aY 4 3 (Zi Zq 6) rfl ?_ ?_
 ·intro W hSw;obtain ⟨c1,f1,l1⟩:=hSw.rules;go_simp
 refine aX ?_;have HG2:=aW hg2;obtain ⟨c1,f1,l1⟩:=hk2.rules;clear hg2 hb2 hk2;go_wp2;go_ret;exact ⟨rfl,HG2.out⟩
theorem lh (cs:List Value) (k n:Int) (s:List UInt8) (kids:List JV) (keys:List (List UInt8)) (F:Nat->Prop) (w:World) (hv:VR w F cs (.mk k n s kids keys)) (hk:1<=k/\k<=6) :
  Calls Tryz.prog 201 #[.agg cs.toArray] w λ e w'=>e=.returned (Zi Zq (aT (.mk k n s kids keys)))/\Grw w w':=by
 obtain ⟨A,B,ca,cb,css,rfl,_⟩:=hv.out;have hk7:k=1∨k=2∨k=3∨k=4∨k=5∨k=6:=by omega
 rcases hk7 with rfl | rfl | rfl | rfl | rfl | rfl
 ·rw [aT];exact uY n _ _ _ A B ca cb w
 ·by_cases hn:n=1
  ·subst hn;rw [aT];exact vd 0 _ _ _ A B ca cb w
  ·have:aT (.mk 2 n s kids keys)=1:=by rw [aT];simp [hn]
   rw [this];exact ts n _ _ _ A B ca cb w hn
 ·rw [aT];exact vp n _ _ _ A B ca cb w
 ·rw [aT];exact uy n _ _ _ A B ca cb w
 ·rw [aT];exact vw n _ _ _ A B ca cb w
 ·rw [aT];exact vK n _ _ _ A B ca cb w
def dq (r:Int) (w:World) (e:Ending) (w':World):Prop:=e=.returned (Zi Zq r)/\Grw w w'
theorem r5 (k n kq nq:Int) (s sq:ByteArray) (b o nk ca ny cb bq oq nkq caq nyq cbq i:Nat) (k1 n1 k2 n2:Int) (s1 s2:ByteArray) (A1 B1 A2 B2:Option Addr) (na1 ca1 nb1 cb1 na2 ca2 nb2 cb2:Nat) (r:Int) (w:World) (B Bq:Option Addr) (hk6:k≠6) (hi:i<nk) (hiq:i<nkq) (hnk:nk<=4194304) (hnkq:nkq<=4194304) (hca:nk<=ca) (hcaq:nkq<=caq) (hcell:∀ W',Grw w W'->W'.cell? ⟨b,o+i*5,none⟩=some (Zi Zq k1)/\W'.cell? ⟨b,o+i*5+1,none⟩=some (Zi Zq n1)/\W'.cell? ⟨b,o+i*5+2,none⟩=some (Zt s1)/\W'.cell? ⟨b,o+i*5+3,none⟩=some (Zs A1 na1 ca1)/\W'.cell? ⟨b,o+i*5+4,none⟩=some (Zs B1 nb1 cb1)/\W'.cell? ⟨bq,oq+i*5,none⟩=some (Zi Zq k2)/\W'.cell? ⟨bq,oq+i*5+1,none⟩=some (Zi Zq n2)/\W'.cell? ⟨bq,oq+i*5+2,none⟩=some (Zt s2)/\W'.cell? ⟨bq,oq+i*5+3,none⟩=some (Zs A2 na2 ca2)/\W'.cell? ⟨bq,oq+i*5+4,none⟩=some (Zs B2 nb2 cb2)) (hC:∀ W,Grw w W->Calls Tryz.prog 192 #[.agg #[Zi Zq k1,Zi Zq n1,Zt s1,Zs A1 na1 ca1,Zs B1 nb1 cb1],.agg #[Zi Zq k2,Zi Zq n2,Zt s2,Zs A2 na2 ca2,Zs B2 nb2 cb2]] W (dq r W)) :
  Calls Tryz.prog 209 #[.agg #[Zi Zq k,Zi Zq n,Zt s,Zs (some ⟨b,o,none⟩) nk ca,Zs B ny cb,Zi Zq kq,Zi Zq nq,Zt sq,Zs (some ⟨bq,oq,none⟩) nkq caq,Zs Bq nyq cbq],Zi Zq i] w (dq r w):=by
 have HBW:=aW ((Grw.refl w).alloc (.cells #[Zi Zq k,Zi Zq n,Zt s,Zs (some ⟨b,o,none⟩) nk ca,Zs B ny cb,Zi Zq kq,Zi Zq nq,Zt sq,Zs (some ⟨bq,oq,none⟩) nkq caq,Zs Bq nyq cbq] 232));have HBK:=aW (Blk.new w 232 #[Zi Zq k,Zi Zq n,Zt s,Zs (some ⟨b,o,none⟩) nk ca,Zs B ny cb,Zi Zq kq,Zi Zq nq,Zt sq,Zs (some ⟨bq,oq,none⟩) nkq caq,Zs Bq nyq cbq]);have HCELL:=aW (λ (W':World) (h:Grw w W')=>(show (W'.cell? ⟨b,o+i*5,none⟩=some (Zi Zq k1)/\W'.cell? ⟨b,o+i*5+1,none⟩=some (Zi Zq n1)/\W'.cell? ⟨b,o+i*5+2,none⟩=some (Zt s1)/\W'.cell? ⟨b,o+i*5+3,none⟩=some (Zs A1 na1 ca1)/\W'.cell? ⟨b,o+i*5+4,none⟩=some (Zs B1 nb1 cb1))/\(W'.cell? ⟨bq,oq+i*5,none⟩=some (Zi Zq k2)/\W'.cell? ⟨bq,oq+i*5+1,none⟩=some (Zi Zq n2)/\W'.cell? ⟨bq,oq+i*5+2,none⟩=some (Zt s2)/\W'.cell? ⟨bq,oq+i*5+3,none⟩=some (Zs A2 na2 ca2)/\W'.cell? ⟨bq,oq+i*5+4,none⟩=some (Zs B2 nb2 cb2)) by obtain ⟨p0,p1,p2,p3,p4,q0,q1,q2,q3,q4⟩:=hcell W' h;exact ⟨⟨p0,p1,p2,p3,p4⟩,⟨q0,q1,q2,q3,q4⟩⟩));have HC:=aW hC;have hk1:(k == 6)=false:=by simp [hk6]
 clear hcell hC;go_enter Tryz.func209,Tryz.ntmps209;go_wp2;refine wp_region_held_drew (S:=λ w'=>Blk w' w.heap.size 232 #[Zi Zq k,Zi Zq n,Zt s,Zs (some ⟨b,o,none⟩) nk ca,Zs B ny cb,Zi Zq kq,Zi Zq nq,Zt sq,Zs (some ⟨bq,oq,none⟩) nkq caq,Zs Bq nyq cbq]/\Grw w w') (by kernel_rfl) (by exact ⟨HBK.out.drew,HBW.out.drew⟩) (λ hHeld=>?_);refine aY 0 29 (Zp (some ⟨w.heap.size,0,none⟩)) rfl ?_ ?_
 ·intro W hSw;obtain ⟨hS1,hS2⟩:=hSw;obtain ⟨c1,f1,l1⟩:=hS1.rules;obtain ⟨⟨p0,p1,p2,p3,p4⟩,⟨q0,q1,q2,q3,q4⟩⟩:=HCELL.out W hS2;go_simp
 refine aY 1 30 (Zp (some ⟨w.heap.size,0,none⟩)) rfl ?_ ?_
 ·intro W hSw;obtain ⟨hS1,hS2⟩:=hSw;obtain ⟨c1,f1,l1⟩:=hS1.rules;obtain ⟨⟨p0,p1,p2,p3,p4⟩,⟨q0,q1,q2,q3,q4⟩⟩:=HCELL.out W hS2;go_simp
 refine aY 2 31 (Zp (some ⟨w.heap.size,3,none⟩)) rfl ?_ ?_
 ·intro W hSw;obtain ⟨hS1,hS2⟩:=hSw;obtain ⟨c1,f1,l1⟩:=hS1.rules;obtain ⟨⟨p0,p1,p2,p3,p4⟩,⟨q0,q1,q2,q3,q4⟩⟩:=HCELL.out W hS2;go_simp
 refine aY 3 32 (Zs (some ⟨b,o,none⟩) nk ca) rfl ?_ ?_
 ·intro W hSw;obtain ⟨hS1,hS2⟩:=hSw;obtain ⟨c1,f1,l1⟩:=hS1.rules;obtain ⟨⟨p0,p1,p2,p3,p4⟩,⟨q0,q1,q2,q3,q4⟩⟩:=HCELL.out W hS2;go_simp
 refine aY 4 33 (Zi Zq i) rfl ?_ ?_
 ·intro W hSw;obtain ⟨hS1,hS2⟩:=hSw;obtain ⟨c1,f1,l1⟩:=hS1.rules;obtain ⟨⟨p0,p1,p2,p3,p4⟩,⟨q0,q1,q2,q3,q4⟩⟩:=HCELL.out W hS2;go_simp
 refine aY 5 34 (Zp (some ⟨b,o+i*5,none⟩)) rfl ?_ ?_
 ·intro W hSw;obtain ⟨hS1,hS2⟩:=hSw;obtain ⟨c1,f1,l1⟩:=hS1.rules;obtain ⟨⟨p0,p1,p2,p3,p4⟩,⟨q0,q1,q2,q3,q4⟩⟩:=HCELL.out W hS2;go_simp
 refine aY 6 35 (.agg #[Zi Zq k1,Zi Zq n1,Zt s1,Zs A1 na1 ca1,Zs B1 nb1 cb1]) rfl ?_ ?_
 ·intro W hSw;obtain ⟨hS1,hS2⟩:=hSw;obtain ⟨c1,f1,l1⟩:=hS1.rules;obtain ⟨⟨p0,p1,p2,p3,p4⟩,⟨q0,q1,q2,q3,q4⟩⟩:=HCELL.out W hS2;go_simp
 refine aY 7 36 (Zp (some ⟨w.heap.size,0,none⟩)) rfl ?_ ?_
 ·intro W hSw;obtain ⟨hS1,hS2⟩:=hSw;obtain ⟨c1,f1,l1⟩:=hS1.rules;obtain ⟨⟨p0,p1,p2,p3,p4⟩,⟨q0,q1,q2,q3,q4⟩⟩:=HCELL.out W hS2;go_simp
 refine aY 8 37 (Zp (some ⟨w.heap.size,5,none⟩)) rfl ?_ ?_
 ·intro W hSw;obtain ⟨hS1,hS2⟩:=hSw;obtain ⟨c1,f1,l1⟩:=hS1.rules;obtain ⟨⟨p0,p1,p2,p3,p4⟩,⟨q0,q1,q2,q3,q4⟩⟩:=HCELL.out W hS2;go_simp
 refine aY 9 38 (Zp (some ⟨w.heap.size,8,none⟩)) rfl ?_ ?_
 ·intro W hSw;obtain ⟨hS1,hS2⟩:=hSw;obtain ⟨c1,f1,l1⟩:=hS1.rules;obtain ⟨⟨p0,p1,p2,p3,p4⟩,⟨q0,q1,q2,q3,q4⟩⟩:=HCELL.out W hS2;go_simp
 refine aY 10 39 (Zs (some ⟨bq,oq,none⟩) nkq caq) rfl ?_ ?_
 ·intro W hSw;obtain ⟨hS1,hS2⟩:=hSw;obtain ⟨c1,f1,l1⟩:=hS1.rules;obtain ⟨⟨p0,p1,p2,p3,p4⟩,⟨q0,q1,q2,q3,q4⟩⟩:=HCELL.out W hS2;go_simp
 refine aY 11 40 (Zi Zq i) rfl ?_ ?_
 ·intro W hSw;obtain ⟨hS1,hS2⟩:=hSw;obtain ⟨c1,f1,l1⟩:=hS1.rules;obtain ⟨⟨p0,p1,p2,p3,p4⟩,⟨q0,q1,q2,q3,q4⟩⟩:=HCELL.out W hS2;go_simp
 refine aY 12 41 (Zp (some ⟨bq,oq+i*5,none⟩)) rfl ?_ ?_
 ·intro W hSw;obtain ⟨hS1,hS2⟩:=hSw;obtain ⟨c1,f1,l1⟩:=hS1.rules;obtain ⟨⟨p0,p1,p2,p3,p4⟩,⟨q0,q1,q2,q3,q4⟩⟩:=HCELL.out W hS2;go_simp
 refine aY 13 42 (.agg #[Zi Zq k2,Zi Zq n2,Zt s2,Zs A2 na2 ca2,Zs B2 nb2 cb2]) rfl ?_ ?_
 ·intro W hSw;obtain ⟨hS1,hS2⟩:=hSw;obtain ⟨c1,f1,l1⟩:=hS1.rules;obtain ⟨⟨p0,p1,p2,p3,p4⟩,⟨q0,q1,q2,q3,q4⟩⟩:=HCELL.out W hS2;go_simp
 refine aV 14 43 rfl (λ K hK=>?_);go_simp;refine (HC.out _ HBW.out.drew).mono ?_;rintro e w5 ⟨rfl,hb5⟩;have hk5:=HBK.out.drew.keep hb5.bel;have hg5:=HBW.out.drew.trans hb5;refine hK.out _ _ (⟨hk5,hg5⟩) (λ hHeld2=>?_);clear hK K hHeld
 try simp only [pU]
 refine aY 15 4 (Zi Zq r) rfl ?_ ?_
 ·intro W hSw;obtain ⟨hS1,hS2⟩:=hSw;obtain ⟨c1,f1,l1⟩:=hS1.rules;obtain ⟨⟨p0,p1,p2,p3,p4⟩,⟨q0,q1,q2,q3,q4⟩⟩:=HCELL.out W hS2;go_simp
 refine aX ?_;have HG5:=aW hg5;clear hg5 hb5 hk5;go_wp2;go_ret;exact ⟨rfl,HG5.out⟩
theorem ti (n kq nq:Int) (s sq:ByteArray) (b o nk ca ny cb bq oq nkq caq nyq cbq i:Nat) (k1 n1 k2 n2:Int) (s1 s2:ByteArray) (A1 B1 A2 B2:Option Addr) (na1 ca1 nb1 cb1 na2 ca2 nb2 cb2:Nat) (r:Int) (w:World) (bk ok bkq okq:Nat) (t u:List UInt8) (hy:i<ny) (hyq:i<nyq) (hcb:ny<=cb) (hcbq:nyq<=cbq) (hny:ny<=4194304) (hnyq:nyq<=4194304) (hkey:∀ W',Grw w W'->W'.cell? ⟨bk,ok+i,none⟩=some (Zt ⟨t.toArray⟩)/\W'.cell? ⟨bkq,okq+i,none⟩=some (Zt ⟨u.toArray⟩)) (hi:i<nk) (hiq:i<nkq) (hnk:nk<=4194304) (hnkq:nkq<=4194304) (hca:nk<=ca) (hcaq:nkq<=caq) (hcell:∀ W',Grw w W'->W'.cell? ⟨b,o+i*5,none⟩=some (Zi Zq k1)/\W'.cell? ⟨b,o+i*5+1,none⟩=some (Zi Zq n1)/\W'.cell? ⟨b,o+i*5+2,none⟩=some (Zt s1)/\W'.cell? ⟨b,o+i*5+3,none⟩=some (Zs A1 na1 ca1)/\W'.cell? ⟨b,o+i*5+4,none⟩=some (Zs B1 nb1 cb1)/\W'.cell? ⟨bq,oq+i*5,none⟩=some (Zi Zq k2)/\W'.cell? ⟨bq,oq+i*5+1,none⟩=some (Zi Zq n2)/\W'.cell? ⟨bq,oq+i*5+2,none⟩=some (Zt s2)/\W'.cell? ⟨bq,oq+i*5+3,none⟩=some (Zs A2 na2 ca2)/\W'.cell? ⟨bq,oq+i*5+4,none⟩=some (Zs B2 nb2 cb2)) (hC:∀ W,Grw w W->Calls Tryz.prog 192 #[.agg #[Zi Zq k1,Zi Zq n1,Zt s1,Zs A1 na1 ca1,Zs B1 nb1 cb1],.agg #[Zi Zq k2,Zi Zq n2,Zt s2,Zs A2 na2 ca2,Zs B2 nb2 cb2]] W (dq r W)) :
  Calls Tryz.prog 209 #[.agg #[Zi Zq 6,Zi Zq n,Zt s,Zs (some ⟨b,o,none⟩) nk ca,Zs (some ⟨bk,ok,none⟩) ny cb,Zi Zq kq,Zi Zq nq,Zt sq,Zs (some ⟨bq,oq,none⟩) nkq caq,Zs (some ⟨bkq,okq,none⟩) nyq cbq],Zi Zq i] w (dq (dh (cK t u) r) w):=by
 have HBW:=aW ((Grw.refl w).alloc (.cells #[Zi Zq 6,Zi Zq n,Zt s,Zs (some ⟨b,o,none⟩) nk ca,Zs (some ⟨bk,ok,none⟩) ny cb,Zi Zq kq,Zi Zq nq,Zt sq,Zs (some ⟨bq,oq,none⟩) nkq caq,Zs (some ⟨bkq,okq,none⟩) nyq cbq] 232));have HBK:=aW (Blk.new w 232 #[Zi Zq 6,Zi Zq n,Zt s,Zs (some ⟨b,o,none⟩) nk ca,Zs (some ⟨bk,ok,none⟩) ny cb,Zi Zq kq,Zi Zq nq,Zt sq,Zs (some ⟨bq,oq,none⟩) nkq caq,Zs (some ⟨bkq,okq,none⟩) nyq cbq]);have HCELL:=aW (λ (W':World) (h:Grw w W')=>(show (W'.cell? ⟨b,o+i*5,none⟩=some (Zi Zq k1)/\W'.cell? ⟨b,o+i*5+1,none⟩=some (Zi Zq n1)/\W'.cell? ⟨b,o+i*5+2,none⟩=some (Zt s1)/\W'.cell? ⟨b,o+i*5+3,none⟩=some (Zs A1 na1 ca1)/\W'.cell? ⟨b,o+i*5+4,none⟩=some (Zs B1 nb1 cb1))/\(W'.cell? ⟨bq,oq+i*5,none⟩=some (Zi Zq k2)/\W'.cell? ⟨bq,oq+i*5+1,none⟩=some (Zi Zq n2)/\W'.cell? ⟨bq,oq+i*5+2,none⟩=some (Zt s2)/\W'.cell? ⟨bq,oq+i*5+3,none⟩=some (Zs A2 na2 ca2)/\W'.cell? ⟨bq,oq+i*5+4,none⟩=some (Zs B2 nb2 cb2)) by obtain ⟨p0,p1,p2,p3,p4,q0,q1,q2,q3,q4⟩:=hcell W' h;exact ⟨⟨p0,p1,p2,p3,p4⟩,⟨q0,q1,q2,q3,q4⟩⟩));have HKEY:=aW hkey;have HC:=aW hC;obtain ⟨c,hc⟩:∃ c,cK t u=c:=⟨_,rfl⟩
 have HS:=aW (λ W=>by have h:=jJ t u W;rw [hc] at h;exact h);rw [hc];clear hcell hkey hC hc;go_enter Tryz.func209,Tryz.ntmps209;go_wp2;refine wp_region_held_drew (S:=λ w'=>Blk w' w.heap.size 232 #[Zi Zq 6,Zi Zq n,Zt s,Zs (some ⟨b,o,none⟩) nk ca,Zs (some ⟨bk,ok,none⟩) ny cb,Zi Zq kq,Zi Zq nq,Zt sq,Zs (some ⟨bq,oq,none⟩) nkq caq,Zs (some ⟨bkq,okq,none⟩) nyq cbq]/\Grw w w') (by kernel_rfl) (by exact ⟨HBK.out.drew,HBW.out.drew⟩) (λ hHeld=>?_);refine aY 0 11 (Zp (some ⟨w.heap.size,0,none⟩)) rfl ?_ ?_
 ·intro W hSw;obtain ⟨hS1,hS2⟩:=hSw;obtain ⟨c1,f1,l1⟩:=hS1.rules;obtain ⟨y1,y2⟩:=HKEY.out W hS2;go_simp
 refine aY 1 12 (Zp (some ⟨w.heap.size,0,none⟩)) rfl ?_ ?_
 ·intro W hSw;obtain ⟨hS1,hS2⟩:=hSw;obtain ⟨c1,f1,l1⟩:=hS1.rules;obtain ⟨y1,y2⟩:=HKEY.out W hS2;go_simp
 refine aY 2 13 (Zp (some ⟨w.heap.size,4,none⟩)) rfl ?_ ?_
 ·intro W hSw;obtain ⟨hS1,hS2⟩:=hSw;obtain ⟨c1,f1,l1⟩:=hS1.rules;obtain ⟨y1,y2⟩:=HKEY.out W hS2;go_simp
 refine aY 3 14 (Zs (some ⟨bk,ok,none⟩) ny cb) rfl ?_ ?_
 ·intro W hSw;obtain ⟨hS1,hS2⟩:=hSw;obtain ⟨c1,f1,l1⟩:=hS1.rules;obtain ⟨y1,y2⟩:=HKEY.out W hS2;go_simp
 refine aY 4 15 (Zi Zq i) rfl ?_ ?_
 ·intro W hSw;obtain ⟨hS1,hS2⟩:=hSw;obtain ⟨c1,f1,l1⟩:=hS1.rules;obtain ⟨y1,y2⟩:=HKEY.out W hS2;go_simp
 refine aY 5 16 (Zp (some ⟨bk,ok+i,none⟩)) rfl ?_ ?_
 ·intro W hSw;obtain ⟨hS1,hS2⟩:=hSw;obtain ⟨c1,f1,l1⟩:=hS1.rules;obtain ⟨y1,y2⟩:=HKEY.out W hS2;go_simp
 refine aY 6 17 (Zt ⟨t.toArray⟩) rfl ?_ ?_
 ·intro W hSw;obtain ⟨hS1,hS2⟩:=hSw;obtain ⟨c1,f1,l1⟩:=hS1.rules;obtain ⟨y1,y2⟩:=HKEY.out W hS2;go_simp
 refine aY 7 18 (Zp (some ⟨w.heap.size,0,none⟩)) rfl ?_ ?_
 ·intro W hSw;obtain ⟨hS1,hS2⟩:=hSw;obtain ⟨c1,f1,l1⟩:=hS1.rules;obtain ⟨y1,y2⟩:=HKEY.out W hS2;go_simp
 refine aY 8 19 (Zp (some ⟨w.heap.size,5,none⟩)) rfl ?_ ?_
 ·intro W hSw;obtain ⟨hS1,hS2⟩:=hSw;obtain ⟨c1,f1,l1⟩:=hS1.rules;obtain ⟨y1,y2⟩:=HKEY.out W hS2;go_simp
 refine aY 9 20 (Zp (some ⟨w.heap.size,9,none⟩)) rfl ?_ ?_
 ·intro W hSw;obtain ⟨hS1,hS2⟩:=hSw;obtain ⟨c1,f1,l1⟩:=hS1.rules;obtain ⟨y1,y2⟩:=HKEY.out W hS2;go_simp
 refine aY 10 21 (Zs (some ⟨bkq,okq,none⟩) nyq cbq) rfl ?_ ?_
 ·intro W hSw;obtain ⟨hS1,hS2⟩:=hSw;obtain ⟨c1,f1,l1⟩:=hS1.rules;obtain ⟨y1,y2⟩:=HKEY.out W hS2;go_simp
 refine aY 11 22 (Zi Zq i) rfl ?_ ?_
 ·intro W hSw;obtain ⟨hS1,hS2⟩:=hSw;obtain ⟨c1,f1,l1⟩:=hS1.rules;obtain ⟨y1,y2⟩:=HKEY.out W hS2;go_simp
 refine aY 12 23 (Zp (some ⟨bkq,okq+i,none⟩)) rfl ?_ ?_
 ·intro W hSw;obtain ⟨hS1,hS2⟩:=hSw;obtain ⟨c1,f1,l1⟩:=hS1.rules;obtain ⟨y1,y2⟩:=HKEY.out W hS2;go_simp
 refine aY 13 24 (Zt ⟨u.toArray⟩) rfl ?_ ?_
 ·intro W hSw;obtain ⟨hS1,hS2⟩:=hSw;obtain ⟨c1,f1,l1⟩:=hS1.rules;obtain ⟨y1,y2⟩:=HKEY.out W hS2;go_simp
 refine aV 14 25 rfl (λ K hK=>?_);go_simp;refine (HS.out _).mono ?_;rintro e w3 ⟨rfl,rfl⟩;have hk3:=HBK.out.drew;have hg3:=HBW.out.drew;refine hK.out _ _ (⟨hk3,hg3⟩) (λ hHeld2=>?_);clear hK K hHeld
 try simp only [pU]
 refine aY 15 5 (Zi Zq c) rfl ?_ ?_
 ·intro W hSw;obtain ⟨hS1,hS2⟩:=hSw;obtain ⟨c1,f1,l1⟩:=hS1.rules;obtain ⟨y1,y2⟩:=HKEY.out W hS2;go_simp
 refine aX ?_;have HBK3:=aW hk3;have HBW3:=aW hg3;clear hk3 hg3 HBK HBW;by_cases h0:c=0
 ·subst h0;go_wp2;refine wp_region_held_drew (S:=λ w'=>Blk w' w.heap.size 232 #[Zi Zq 6,Zi Zq n,Zt s,Zs (some ⟨b,o,none⟩) nk ca,Zs (some ⟨bk,ok,none⟩) ny cb,Zi Zq kq,Zi Zq nq,Zt sq,Zs (some ⟨bq,oq,none⟩) nkq caq,Zs (some ⟨bkq,okq,none⟩) nyq cbq]/\Grw w w') (by kernel_rfl) (by exact ⟨HBK3.out.drew,HBW3.out.drew⟩) (λ hHeld=>?_);refine aY 0 29 (Zp (some ⟨w.heap.size,0,none⟩)) rfl ?_ ?_
  ·intro W hSw;obtain ⟨hS1,hS2⟩:=hSw;obtain ⟨c1,f1,l1⟩:=hS1.rules;obtain ⟨⟨p0,p1,p2,p3,p4⟩,⟨q0,q1,q2,q3,q4⟩⟩:=HCELL.out W hS2;go_simp
  refine aY 1 30 (Zp (some ⟨w.heap.size,0,none⟩)) rfl ?_ ?_
  ·intro W hSw;obtain ⟨hS1,hS2⟩:=hSw;obtain ⟨c1,f1,l1⟩:=hS1.rules;obtain ⟨⟨p0,p1,p2,p3,p4⟩,⟨q0,q1,q2,q3,q4⟩⟩:=HCELL.out W hS2;go_simp
  refine aY 2 31 (Zp (some ⟨w.heap.size,3,none⟩)) rfl ?_ ?_
  ·intro W hSw;obtain ⟨hS1,hS2⟩:=hSw;obtain ⟨c1,f1,l1⟩:=hS1.rules;obtain ⟨⟨p0,p1,p2,p3,p4⟩,⟨q0,q1,q2,q3,q4⟩⟩:=HCELL.out W hS2;go_simp
  refine aY 3 32 (Zs (some ⟨b,o,none⟩) nk ca) rfl ?_ ?_
  ·intro W hSw;obtain ⟨hS1,hS2⟩:=hSw;obtain ⟨c1,f1,l1⟩:=hS1.rules;obtain ⟨⟨p0,p1,p2,p3,p4⟩,⟨q0,q1,q2,q3,q4⟩⟩:=HCELL.out W hS2;go_simp
  refine aY 4 33 (Zi Zq i) rfl ?_ ?_
  ·intro W hSw;obtain ⟨hS1,hS2⟩:=hSw;obtain ⟨c1,f1,l1⟩:=hS1.rules;obtain ⟨⟨p0,p1,p2,p3,p4⟩,⟨q0,q1,q2,q3,q4⟩⟩:=HCELL.out W hS2;go_simp
  refine aY 5 34 (Zp (some ⟨b,o+i*5,none⟩)) rfl ?_ ?_
  ·intro W hSw;obtain ⟨hS1,hS2⟩:=hSw;obtain ⟨c1,f1,l1⟩:=hS1.rules;obtain ⟨⟨p0,p1,p2,p3,p4⟩,⟨q0,q1,q2,q3,q4⟩⟩:=HCELL.out W hS2;go_simp
  refine aY 6 35 (.agg #[Zi Zq k1,Zi Zq n1,Zt s1,Zs A1 na1 ca1,Zs B1 nb1 cb1]) rfl ?_ ?_
  ·intro W hSw;obtain ⟨hS1,hS2⟩:=hSw;obtain ⟨c1,f1,l1⟩:=hS1.rules;obtain ⟨⟨p0,p1,p2,p3,p4⟩,⟨q0,q1,q2,q3,q4⟩⟩:=HCELL.out W hS2;go_simp
  refine aY 7 36 (Zp (some ⟨w.heap.size,0,none⟩)) rfl ?_ ?_
  ·intro W hSw;obtain ⟨hS1,hS2⟩:=hSw;obtain ⟨c1,f1,l1⟩:=hS1.rules;obtain ⟨⟨p0,p1,p2,p3,p4⟩,⟨q0,q1,q2,q3,q4⟩⟩:=HCELL.out W hS2;go_simp
  refine aY 8 37 (Zp (some ⟨w.heap.size,5,none⟩)) rfl ?_ ?_
  ·intro W hSw;obtain ⟨hS1,hS2⟩:=hSw;obtain ⟨c1,f1,l1⟩:=hS1.rules;obtain ⟨⟨p0,p1,p2,p3,p4⟩,⟨q0,q1,q2,q3,q4⟩⟩:=HCELL.out W hS2;go_simp
  refine aY 9 38 (Zp (some ⟨w.heap.size,8,none⟩)) rfl ?_ ?_
  ·intro W hSw;obtain ⟨hS1,hS2⟩:=hSw;obtain ⟨c1,f1,l1⟩:=hS1.rules;obtain ⟨⟨p0,p1,p2,p3,p4⟩,⟨q0,q1,q2,q3,q4⟩⟩:=HCELL.out W hS2;go_simp
  refine aY 10 39 (Zs (some ⟨bq,oq,none⟩) nkq caq) rfl ?_ ?_
  ·intro W hSw;obtain ⟨hS1,hS2⟩:=hSw;obtain ⟨c1,f1,l1⟩:=hS1.rules;obtain ⟨⟨p0,p1,p2,p3,p4⟩,⟨q0,q1,q2,q3,q4⟩⟩:=HCELL.out W hS2;go_simp
  refine aY 11 40 (Zi Zq i) rfl ?_ ?_
  ·intro W hSw;obtain ⟨hS1,hS2⟩:=hSw;obtain ⟨c1,f1,l1⟩:=hS1.rules;obtain ⟨⟨p0,p1,p2,p3,p4⟩,⟨q0,q1,q2,q3,q4⟩⟩:=HCELL.out W hS2;go_simp
  refine aY 12 41 (Zp (some ⟨bq,oq+i*5,none⟩)) rfl ?_ ?_
  ·intro W hSw;obtain ⟨hS1,hS2⟩:=hSw;obtain ⟨c1,f1,l1⟩:=hS1.rules;obtain ⟨⟨p0,p1,p2,p3,p4⟩,⟨q0,q1,q2,q3,q4⟩⟩:=HCELL.out W hS2;go_simp
  refine aY 13 42 (.agg #[Zi Zq k2,Zi Zq n2,Zt s2,Zs A2 na2 ca2,Zs B2 nb2 cb2]) rfl ?_ ?_
  ·intro W hSw;obtain ⟨hS1,hS2⟩:=hSw;obtain ⟨c1,f1,l1⟩:=hS1.rules;obtain ⟨⟨p0,p1,p2,p3,p4⟩,⟨q0,q1,q2,q3,q4⟩⟩:=HCELL.out W hS2;go_simp
  refine aV 14 43 rfl (λ K hK=>?_);go_simp;refine (HC.out _ HBW3.out.drew).mono ?_;rintro e w5 ⟨rfl,hb5⟩;have hk5:=HBK3.out.drew.keep hb5.bel;have hg5:=HBW3.out.drew.trans hb5;refine hK.out _ _ (⟨hk5,hg5⟩) (λ hHeld2=>?_);clear hK K hHeld
  try simp only [pU]
  refine aY 15 4 (Zi Zq r) rfl ?_ ?_
  ·intro W hSw;obtain ⟨hS1,hS2⟩:=hSw;obtain ⟨c1,f1,l1⟩:=hS1.rules;obtain ⟨⟨p0,p1,p2,p3,p4⟩,⟨q0,q1,q2,q3,q4⟩⟩:=HCELL.out W hS2;go_simp
  refine aX ?_;have HG5:=aW hg5;clear hg5 hb5 hk5;go_wp2;go_ret;exact ⟨rfl,HG5.out⟩
 ·have HLE:=aW (show dh c r=c by unfold dh;rw [if_neg h0]);have h1:(c != 0)=true:=by simp [h0]
  have h2:(c == 0)=false:=by simp [h0]
  go_wp2;go_ret;refine ⟨?_,HBW3.out⟩;rw [HLE.out];rfl
theorem ph (a b c:Int):dh a (dh b c)=dh (dh a b) c:=by
 unfold dh;by_cases h:a=0
 ·rw [if_pos h,if_pos h]
 ·rw [if_neg h,if_neg h,if_neg h]
theorem lP {o:Bool} {xs ys:List JV} {ks ls:List (List UInt8)} {i:Nat} {x y:JV} (hx:xs[i]? = some x) (hy:ys[i]? = some y) :
  cd o (xs.drop i) (ks.drop i) (ys.drop i) (ls.drop i)=dh (dh (eG o (ks.drop i) (ls.drop i)) (bp x y)) (cd o (xs.drop (i+1)) (ks.drop (i+1)) (ys.drop (i+1)) (ls.drop (i+1))):=by
 obtain ⟨h1,h2⟩:=List.getElem?_eq_some_iff.1 hx;obtain ⟨h3,h4⟩:=List.getElem?_eq_some_iff.1 hy;rw [List.drop_eq_getElem_cons h1,List.drop_eq_getElem_cons h3,h2,h4,fG,ph,List.tail_drop,List.tail_drop]
theorem lr (o:Bool) (xs ys:List JV) (ks ls:List (List UInt8)) {i:Nat} (h:xs.length<=i∨ys.length<=i) (h1:i<=xs.length) (h2:i<=ys.length):cd o (xs.drop i) ks (ys.drop i) ls=di ((xs.length:Int)-ys.length):=by
 have e1:(xs.drop i).length=xs.length-i:=List.length_drop;have e2:(ys.drop i).length=ys.length-i:=List.length_drop;cases hx:xs.drop i with
 |nil =>
  rw [hx] at e1;cases hy:ys.drop i with
  | nil=>rw [hy] at e2;rw [jr];simp at e1 e2;unfold di;rw [if_neg (by omega),if_neg (by omega)]
  | cons y r=>rw [hy] at e2;rw [jf];simp at e1 e2;unfold di;rw [if_pos (by omega)]
 |cons x r =>
  rw [hx] at e1;cases hy:ys.drop i with
  | nil=>rw [hy] at e2;rw [jg];simp at e1 e2;unfold di;rw [if_neg (by omega),if_pos (by omega)]
  | cons y r'=>rw [hy] at e2;simp at e1 e2;omega
theorem fJ {ks:List (List UInt8)} {i:Nat} {t:List UInt8} (h:ks[i]? = some t):(ks.drop i).headD []=t:=by
 obtain ⟨h1,h2⟩:=List.getElem?_eq_some_iff.1 h;rw [List.drop_eq_getElem_cons h1,h2];rfl
theorem tp {k n kq nq:Int} {s sq:List UInt8} {kids kidsq:List JV} {keys keysq:List (List UInt8)} {A B Aq Bq:Option Addr} {ca cb caq cbq:Nat} {css cssq:List (List Value)} {F Fq:Nat->Prop} (w:World)
  (h1:VRs w F css kids) (h2:RdF w F A css.flatten) (h3:RdF w F B (cQ keys)) (h1q:VRs w Fq cssq kidsq) (h2q:RdF w Fq Aq cssq.flatten) (h3q:RdF w Fq Bq (cQ keysq))
  (hca:kids.length<=ca) (hcb:keys.length<=cb) (hcaq:kidsq.length<=caq) (hcbq:keysq.length<=cbq) (b1:kids.length<=4194304) (b2:keys.length<=4194304) (b3:kidsq.length<=4194304) (b4:keysq.length<=4194304)
  (hkey:k=6->keys.length=kids.length/\keysq.length=kidsq.length) (i:Nat) (x y:JV) (hx:kids[i]? = some x) (hy:kidsq[i]? = some y)
  (hI:∀ W csx csy Fx Fy,VR W Fx csx x->VR W Fy csy y->Calls Tryz.prog 192 #[.agg csx.toArray,.agg csy.toArray] W (dq (bp x y) W)) :
  Calls Tryz.prog 209 #[.agg #[Zi Zq k,Zi Zq n,Zt ⟨s.toArray⟩,Zs A kids.length ca,Zs B keys.length cb,Zi Zq kq,Zi Zq nq,Zt ⟨sq.toArray⟩,Zs Aq kidsq.length caq,Zs Bq keysq.length cbq],Zi Zq i] w (dq (dh (eG (decide (k=6)) (keys.drop i) (keysq.drop i)) (bp x y)) w):=by
 obtain ⟨b,o,k1,n1,s1,A1,na1,ca1,B1,nb1,cb1,rfl,hb,hvx,hz⟩:=aS h1 h2 hx;obtain ⟨bq,oq,k2,n2,s2,A2,na2,ca2,B2,nb2,cb2,rfl,hbq,hvy,hzq⟩:=aS h1q h2q hy;have hi:=(List.getElem?_eq_some_iff.1 hx).1;have hiq:=(List.getElem?_eq_some_iff.1 hy).1;have hcell:∀ W',Grw w W'->W'.cell? ⟨b,o+i*5,none⟩=some (Zi Zq k1)/\W'.cell? ⟨b,o+i*5+1,none⟩=some (Zi Zq n1)/\W'.cell? ⟨b,o+i*5+2,none⟩=some (Zt s1)/\W'.cell? ⟨b,o+i*5+3,none⟩=some (Zs A1 na1 ca1)/\W'.cell? ⟨b,o+i*5+4,none⟩=some (Zs B1 nb1 cb1)/\W'.cell? ⟨bq,oq+i*5,none⟩=some (Zi Zq k2)/\W'.cell? ⟨bq,oq+i*5+1,none⟩=some (Zi Zq n2)/\W'.cell? ⟨bq,oq+i*5+2,none⟩=some (Zt s2)/\W'.cell? ⟨bq,oq+i*5+3,none⟩=some (Zs A2 na2 ca2)/\W'.cell? ⟨bq,oq+i*5+4,none⟩=some (Zs B2 nb2 cb2):=λ W' h=>by
  obtain ⟨p0,p1,p2,p3,p4⟩:=hz W' h.1;obtain ⟨q0,q1,q2,q3,q4⟩:=hzq W' h.1;exact ⟨p0,p1,p2,p3,p4,q0,q1,q2,q3,q4⟩
 have hC:∀ W,Grw w W->Calls Tryz.prog 192 #[.agg #[Zi Zq k1,Zi Zq n1,Zt s1,Zs A1 na1 ca1,Zs B1 nb1 cb1],.agg #[Zi Zq k2,Zi Zq n2,Zt s2,Zs A2 na2 ca2,Zs B2 nb2 cb2]] W (dq (bp x y) W):=λ W h=>hI W _ _ F Fq (hvx.bel h.1) (hvy.bel h.1)
 by_cases hk6:k=6
 ·obtain ⟨e1,e2⟩:=hkey hk6;obtain ⟨t,ht⟩:∃ t,keys[i]? = some t:=⟨_,List.getElem?_eq_getElem (by omega)⟩
  obtain ⟨u,hu⟩:∃ u,keysq[i]? = some u:=⟨_,List.getElem?_eq_getElem (by omega)⟩
  obtain ⟨bk,ok,rfl,hbk⟩:=bY h3 (by omega);obtain ⟨bkq,okq,rfl,hbkq⟩:=bY h3q (by omega);have hky2:∀ W',Grw w W'->W'.cell? ⟨bk,ok+i,none⟩=some (Zt ⟨t.toArray⟩)/\W'.cell? ⟨bkq,okq+i,none⟩=some (Zt ⟨u.toArray⟩):=λ W' h =>
   ⟨bB (n:=0) ((h3.mono λ _ _ _=>trivial).keep (af.of_below h.1)) ht,bB (n:=0) ((h3q.mono λ _ _ _=>trivial).keep (af.of_below h.1)) hu⟩
  have e:eG (decide (k=6)) (keys.drop i) (keysq.drop i)=cK t u:=by unfold eG;rw [decide_eq_true hk6,if_pos rfl,fJ ht,fJ hu]
  rw [e];subst hk6;exact ti n kq nq _ _ b o _ ca _ cb bq oq _ caq _ cbq i k1 n1 k2 n2 s1 s2 A1 B1 A2 B2 na1 ca1 nb1 cb1 na2 ca2 nb2 cb2 (bp x y) w bk ok bkq okq t u (by omega) (by omega) hcb hcbq b2 b4 hky2 hi hiq b1 b3 hca hcaq hcell hC
 ·have e:eG (decide (k=6)) (keys.drop i) (keysq.drop i)=0:=by unfold eG;rw [decide_eq_false hk6];rfl
  rw [e];exact r5 k n kq nq _ _ b o _ ca _ cb bq oq _ caq _ cbq i k1 n1 k2 n2 s1 s2 A1 B1 A2 B2 na1 ca1 nb1 cb1 na2 ca2 nb2 cb2 (bp x y) w B Bq hk6 hi hiq b1 b3 hca hcaq hcell hC
theorem qx {k n kq nq:Int} {s sq:List UInt8} {kids kidsq:List JV} {keys keysq:List (List UInt8)} {A B Aq Bq:Option Addr} {ca cb caq cbq:Nat} {css cssq:List (List Value)} {F Fq:Nat->Prop} (w:World)
  (h1:VRs w F css kids) (h2:RdF w F A css.flatten) (h3:RdF w F B (cQ keys)) (h1q:VRs w Fq cssq kidsq) (h2q:RdF w Fq Aq cssq.flatten) (h3q:RdF w Fq Bq (cQ keysq))
  (hca:kids.length<=ca) (hcb:keys.length<=cb) (hcaq:kidsq.length<=caq) (hcbq:keysq.length<=cbq) (b1:kids.length<=4194304) (b2:keys.length<=4194304) (b3:kidsq.length<=4194304) (b4:keysq.length<=4194304)
  (hkey:k=6->keys.length=kids.length/\keysq.length=kidsq.length)
  (hI:∀ x ∈ kids,∀ y ∈ kidsq,∀ W csx csy Fx Fy,VR W Fx csx x->VR W Fy csy y->Calls Tryz.prog 192 #[.agg csx.toArray,.agg csy.toArray] W (dq (bp x y) W)) :
  Calls Tryz.prog 204 #[.agg #[Zi Zq k,Zi Zq n,Zt ⟨s.toArray⟩,Zs A kids.length ca,Zs B keys.length cb,Zi Zq kq,Zi Zq nq,Zt ⟨sq.toArray⟩,Zs Aq kidsq.length caq,Zs Bq keysq.length cbq]] w (dq (cd (decide (k=6)) kids keys kidsq keysq) w):=by
 have HAT:=aW (λ (W:World) (h:Grw w W) (i:Nat) (x y:JV) (hx:kids[i]? = some x) (hy:kidsq[i]? = some y)=>tp (n:=n) (kq:=kq) (nq:=nq) (s:=s) (sq:=sq) W (h1.keep (af.of_below h.1)) (h2.keep (af.of_below h.1)) (h3.keep (af.of_below h.1)) (h1q.keep (af.of_below h.1)) (h2q.keep (af.of_below h.1)) (h3q.keep (af.of_below h.1)) hca hcb hcaq hcbq b1 b2 b3 b4 hkey i x y hx hy (hI x (List.mem_of_getElem? hx) y (List.mem_of_getElem? hy)));have HSG:=aW (λ n W=>ll n W);obtain ⟨T,hT⟩:∃ T,cd (decide (k=6)) kids keys kidsq keysq=T:=⟨_,rfl⟩
 rw [hT];have HT:=aW hT;have HDONE:=aW (λ (i:Nat)=>lr (decide (k=6)) kids kidsq (keys.drop i) (keysq.drop i) (i:=i));obtain ⟨nk,hnk⟩:∃ nk,kids.length=nk:=⟨_,rfl⟩
 obtain ⟨ny,hny⟩:∃ ny,keys.length=ny:=⟨_,rfl⟩
 obtain ⟨nkq,hnkq⟩:∃ nkq,kidsq.length=nkq:=⟨_,rfl⟩
 obtain ⟨nyq,hnyq⟩:∃ nyq,keysq.length=nyq:=⟨_,rfl⟩
 have HNK:=aW hnk;have HNKQ:=aW hnkq;rw [hnk,hny,hnkq,hnyq] at HAT;rw [hnk,hnkq] at HDONE;rw [hnk] at b1 ⊢;rw [hnkq] at b3 ⊢;rw [hny,hnyq];have HBW:=aW ((Grw.refl w).alloc (.cells #[Zi Zq k,Zi Zq n,Zt ⟨s.toArray⟩,Zs A nk ca,Zs B ny cb,Zi Zq kq,Zi Zq nq,Zt ⟨sq.toArray⟩,Zs Aq nkq caq,Zs Bq nyq cbq] 232));have HBK:=aW (Blk.new w 232 #[Zi Zq k,Zi Zq n,Zt ⟨s.toArray⟩,Zs A nk ca,Zs B ny cb,Zi Zq kq,Zi Zq nq,Zt ⟨sq.toArray⟩,Zs Aq nkq caq,Zs Bq nyq cbq]);have hmf:∀ (fn:Fn) (first cap:Array Value) (w:World),(Instr.makeFunc fn first cap).run Tryz.prog w=.ok (.func fn first cap) w:=λ _ _ _ _=>rfl
 clear h1 h2 h3 h1q h2q h3q hca hcb hcaq hcbq hkey hI hT hnk hny hnkq hnyq b2 b4;obtain ⟨nm,hnm⟩:∃ nm:Nat,nm=min nk nkq:=⟨_,rfl⟩
 have hcase:((nk:Int)<=nkq/\¬ (nkq:Int)<nk/\nk=nm)∨((nkq:Int)<nk/\¬ (nk:Int)<=nkq/\nkq=nm):=by omega
 have hm1:nm<=nk:=by omega
 have hm2:nm<=nkq:=by omega
 have hm3:nk<=nm∨nkq<=nm:=by omega
 clear hnm;rcases hcase with ⟨hlq,hlq2,rfl⟩ | ⟨hlq,hlq2,rfl⟩
 ·go_enter Tryz.func204,Tryz.ntmps204;go_wp2;go_step3;go_wp2;go_step3;go_wp2;go_loopg [4,21] nk (λ gk s4 s21 wr => ∃ i:Nat,i<=nk/\gk=nk-i/\s4=Zi Zq 0/\s21=Zi Zq i/\Hid (T=cd (decide (k=6)) (kids.drop i) (keys.drop i) (kidsq.drop i) (keysq.drop i))/\Hid (Blk wr w.heap.size 232 #[Zi Zq k,Zi Zq n,Zt ⟨s.toArray⟩,Zs A nk ca,Zs B ny cb,Zi Zq kq,Zi Zq nq,Zt ⟨sq.toArray⟩,Zs Aq nkq caq,Zs Bq nyq cbq])/\Hid (Grw w wr))
  case atStart=>exact ⟨0,Nat.zero_le _,rfl,by go_num,by go_num,aW (by rw [List.drop_zero,List.drop_zero,List.drop_zero,List.drop_zero,HT.out]),HBK,HBW⟩
  case round =>
   obtain ⟨i,hi,hgk,rfl,rfl,HQ,HB1,HW1⟩:=hrel;have HG:=aW hgk;clear hgk;by_cases hlt:i<nk
   ·obtain ⟨x,hx⟩:∃ x,kids[i]? = some x:=⟨_,List.getElem?_eq_getElem (by rw [HNK.out];omega)⟩
    obtain ⟨y,hy⟩:∃ y,kidsq[i]? = some y:=⟨_,List.getElem?_eq_getElem (by rw [HNKQ.out];omega)⟩
    have hat:=HAT.out wr HW1.out i x y hx hy;have hst:=lP (o:=decide (k=6)) (ks:=keys) (ls:=keysq) hx hy;obtain ⟨c,hc⟩:∃ c,dh (eG (decide (k=6)) (keys.drop i) (keysq.drop i)) (bp x y)=c:=⟨_,rfl⟩
    rw [hc] at hat hst;have HC:=aW hat;have HST:=aW hst;clear hat hst hc hx hy;go_wp2_with fail;refine HC.out.mono ?_;rintro e w1 ⟨rfl,hg1⟩;have HW2:=aW (HW1.out.trans hg1);have HB2:=aW (HB1.out.keep hg1.1);clear hg1;by_cases h0:c=0
    ·subst h0;have HQ2:=aW (show T=cd (decide (k=6)) (kids.drop (i+1)) (keys.drop (i+1)) (kidsq.drop (i+1)) (keysq.drop (i+1)) by rw [HQ.out,HST.out];rfl);go_wp2;go_roundg (nk-(i+1))
     case measure=>rw [HG.out];omega
     case rel=>exact ⟨i+1,hlt,rfl,by go_num,by go_num,HQ2,HB2,HW2⟩
    ·have hT0:T=c:=by rw [HQ.out,HST.out];unfold dh;rw [if_neg h0]
     have h1:(c != 0)=true:=by simp [h0]
     have h2:(c == 0)=false:=by simp [h0]
     have HT0:=aW hT0;clear hT0;go_wp2;rw [Exit.noGoto_ret];go_ret;exact ⟨by rw [HT0.out];rfl,HW2.out⟩
   ·obtain rfl:i=nk:=by omega
    obtain ⟨c1,f1,l1⟩:=HB1.out.rules;have hT0:=HDONE.out i (by omega) (by omega) (by omega);rw [← HQ.out] at hT0;have HT0:=aW hT0;clear hT0;go_wp2_with fail;refine (HSG.out _ _).mono ?_;rintro e w1 ⟨rfl,rfl⟩;go_wp2;rw [Exit.noGoto_ret];go_ret;exact ⟨by rw [HT0.out];rfl,HW1.out⟩
 ·go_enter Tryz.func204,Tryz.ntmps204;go_wp2;go_step3;go_wp2;go_step3;go_wp2;go_loopg [4,21] nkq (λ gk s4 s21 wr => ∃ i:Nat,i<=nkq/\gk=nkq-i/\s4=Zi Zq 0/\s21=Zi Zq i/\Hid (T=cd (decide (k=6)) (kids.drop i) (keys.drop i) (kidsq.drop i) (keysq.drop i))/\Hid (Blk wr w.heap.size 232 #[Zi Zq k,Zi Zq n,Zt ⟨s.toArray⟩,Zs A nk ca,Zs B ny cb,Zi Zq kq,Zi Zq nq,Zt ⟨sq.toArray⟩,Zs Aq nkq caq,Zs Bq nyq cbq])/\Hid (Grw w wr))
  case atStart=>exact ⟨0,Nat.zero_le _,rfl,by go_num,by go_num,aW (by rw [List.drop_zero,List.drop_zero,List.drop_zero,List.drop_zero,HT.out]),HBK,HBW⟩
  case round =>
   obtain ⟨i,hi,hgk,rfl,rfl,HQ,HB1,HW1⟩:=hrel;have HG:=aW hgk;clear hgk;by_cases hlt:i<nkq
   ·obtain ⟨x,hx⟩:∃ x,kids[i]? = some x:=⟨_,List.getElem?_eq_getElem (by rw [HNK.out];omega)⟩
    obtain ⟨y,hy⟩:∃ y,kidsq[i]? = some y:=⟨_,List.getElem?_eq_getElem (by rw [HNKQ.out];omega)⟩
    have hat:=HAT.out wr HW1.out i x y hx hy;have hst:=lP (o:=decide (k=6)) (ks:=keys) (ls:=keysq) hx hy;obtain ⟨c,hc⟩:∃ c,dh (eG (decide (k=6)) (keys.drop i) (keysq.drop i)) (bp x y)=c:=⟨_,rfl⟩
    rw [hc] at hat hst;have HC:=aW hat;have HST:=aW hst;clear hat hst hc hx hy;go_wp2_with fail;refine HC.out.mono ?_;rintro e w1 ⟨rfl,hg1⟩;have HW2:=aW (HW1.out.trans hg1);have HB2:=aW (HB1.out.keep hg1.1);clear hg1;by_cases h0:c=0
    ·subst h0;have HQ2:=aW (show T=cd (decide (k=6)) (kids.drop (i+1)) (keys.drop (i+1)) (kidsq.drop (i+1)) (keysq.drop (i+1)) by rw [HQ.out,HST.out];rfl);go_wp2;go_roundg (nkq-(i+1))
     case measure=>rw [HG.out];omega
     case rel=>exact ⟨i+1,hlt,rfl,by go_num,by go_num,HQ2,HB2,HW2⟩
    ·have hT0:T=c:=by rw [HQ.out,HST.out];unfold dh;rw [if_neg h0]
     have h1:(c != 0)=true:=by simp [h0]
     have h2:(c == 0)=false:=by simp [h0]
     have HT0:=aW hT0;clear hT0;go_wp2;rw [Exit.noGoto_ret];go_ret;exact ⟨by rw [HT0.out];rfl,HW2.out⟩
   ·obtain rfl:i=nkq:=by omega
    obtain ⟨c1,f1,l1⟩:=HB1.out.rules;have hT0:=HDONE.out i (by omega) (by omega) (by omega);rw [← HQ.out] at hT0;have HT0:=aW hT0;clear hT0;go_wp2_with fail;refine (HSG.out _ _).mono ?_;rintro e w1 ⟨rfl,rfl⟩;go_wp2;rw [Exit.noGoto_ret];go_ret;exact ⟨by rw [HT0.out];rfl,HW1.out⟩
end
end Go.Proofs.YtgolomgmnanbpaaGreatDoor
