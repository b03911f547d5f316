import Derived.Test.YtgmnmnnoahdjnaaGreatDoorC33
import Derived.Shelf.SlGeneric
import Derived.Shelf.Sort.Plain
import Derived.Shelf.Slices.CompactS
import Derived.Shelf.Slices.In.SortNone
import Derived.Sort.OwnSorted
import Derived.Lib.OwnBridge
import Derived.Test.YtgmnmnnoahdjnaaGreatDoorC34
open Go.Value renaming int → Zi, slice → Zs, string → Zt, pointer → Zp
open Go.IntKind renaming i64 → Zq
set_option maxRecDepth 100000
set_option maxHeartbeats 16000000
set_option linter.unusedVariables false
set_option linter.unusedSimpArgs false
namespace Go.Proofs.YtgmnmnnoahdjnaaGreatDoor
section
open Go.RowKit Go.Shelf
attribute [local go_sem] aa ac ae ab Oper.semAt_some
attribute [local go_sem] ew ev
theorem jt {n:Nat} {f:FuncId} {args:Array Value} {w:World} {R:Ending->World->Prop} (h:CallsIn fb n Tryz.prog f args w R):Calls Tryz.prog f args w R:=h.calls λ k d hd=>by cases hd
/-- a loop's name that stands for something already,or a loop too many -/
theorem zq (m:Nat) (l:List (List UInt8)) (t:List UInt8) (A:Option Addr) (n ca:Nat) (w:World) (hl:l.length=n) (hn:n<=4194304) (hR:Rd w A (bY l)) :
  CallsIn fb m Tryz.prog 60 #[Zt ⟨t.toArray⟩,Zs A n ca] w (CkP (if giv t=true∨t ∈ l then some 341 else if 2<=n then some 342 else none) w):=by
 obtain ⟨a,ha⟩:∃ a,(t == [100,111,99])=a:=⟨_,rfl⟩
 obtain ⟨b,hb⟩:∃ b,(t == [105,100])=b:=⟨_,rfl⟩
 obtain ⟨c,hc⟩:∃ c:Bool,c=true ↔ t ∈ l:=by
  by_cases h:t ∈ l
  ·exact ⟨true,by simp [h]⟩
  ·exact ⟨false,by simp [h]⟩
 have HGV:=aW (d9 (m:=m-1) (sU ⟨t.toArray⟩ w a b (by rw [je t [100,111,99]];exact ha) (by rw [je t [105,100]];exact hb)));have HH:=aW (d9 (m:=m-1) (vr l t A n ca w hl hn hR c hc));have hgv:giv t=(a || b):=by unfold giv;rw [ha,hb]
 have hif:(if giv t=true∨t ∈ l then some (341:Int) else if 2<=n then some 342 else none)=(if (a || b)=true∨c=true then some 341 else if 2<=n then some 342 else none):=by simp only [hgv,hc]
 rw [hif];clear hif hgv hc ha hb hR hl;obtain ⟨gv,hgv⟩:∃ z,(a || b)=z:=⟨_,rfl⟩
 rw [hgv] at HGV ⊢;clear hgv;refine callsIn_of_wp Tryz.func60 rfl (aI (by kernel_rfl)) ?_ rfl;simp only [Tryz.ntmps60,List.size_toArray,List.length_cons,List.length_nil,Nat.reduceAdd,Nat.reduceSub,Array.replicate_succ,Array.replicate_zero,List.push_toArray,List.append_toArray,List.nil_append,List.cons_append];cases gv
 ·cases c
  ·rw [if_neg (by simp)];by_cases h2:2<=n
   ·rw [if_pos h2];have h2':(2:Int)<=(n:Int):=by omega
    clear h2;gi_wp2;refine ⟨aI (by kernel_rfl),HGV.out.mono ?_⟩;rintro e w2 ⟨rfl,rfl⟩;gi_wp2;refine ⟨aI (by kernel_rfl),HH.out.mono ?_⟩;rintro e w3 ⟨rfl,rfl⟩;gi_wp2;exact ⟨rfl,rfl,rfl⟩
   ·rw [if_neg h2];have h2':¬ (2:Int)<=(n:Int):=by omega
    clear h2;gi_wp2;refine ⟨aI (by kernel_rfl),HGV.out.mono ?_⟩;rintro e w2 ⟨rfl,rfl⟩;gi_wp2;refine ⟨aI (by kernel_rfl),HH.out.mono ?_⟩;rintro e w3 ⟨rfl,rfl⟩;gi_wp2;go_end0;exact ⟨rfl,rfl⟩
  ·rw [if_pos (by simp)];gi_wp2;refine ⟨aI (by kernel_rfl),HGV.out.mono ?_⟩;rintro e w2 ⟨rfl,rfl⟩;gi_wp2;refine ⟨aI (by kernel_rfl),HH.out.mono ?_⟩;rintro e w3 ⟨rfl,rfl⟩;gi_wp2;exact ⟨rfl,rfl,rfl⟩
 ·rw [if_pos (by simp)];gi_wp2;refine ⟨aI (by kernel_rfl),HGV.out.mono ?_⟩;rintro e w2 ⟨rfl,rfl⟩;gi_wp2;refine ⟨aI (by kernel_rfl),?_⟩;gi_wp2;exact ⟨rfl,rfl,rfl⟩
def ckX:GoX Unit:={ g:=ckG,ob:=none,Sx:=λ _ _=>True,ms:=λ _=>0,f1:=58,f2:=60,b1:=#[],b2:=#[] }
theorem zv:ckX.Ok:=by
 refine ⟨⟨λ _ _ _ _ _=>trivial,λ _ _ _ _ h=>absurd h gH⟩,λ _ _ _ _ _=>Nat.zero_le _,λ _ _ _ _ _=>Nat.zero_le _,?_,?_,enters_of Tryz.func58 (by kernel_rfl) rfl,enters_of Tryz.func60 (by kernel_rfl) rfl⟩
 ·intro m st t bd A n ca W _ _ hl hn hr;refine CallsIn.mono (zt m bd t A n ca W hl hn hr.rd) ?_;rintro e w' ⟨rfl,he⟩;refine ⟨.refl _ _,?_⟩;by_cases h:giv t=true∨t ∈ bd
  ·rw [show ckX.g.nm st t bd=.ok () from if_pos h];rw [if_pos h] at he;exact ⟨he,trivial⟩
  ·rw [show ckX.g.nm st t bd=.error 340 from if_neg h];rw [if_neg h] at he;exact ⟨he,(),trivial⟩
 ·intro m st t bd A n ca W _ _ hl hn hr;refine CallsIn.mono (zq m bd t A n ca W hl hn hr.rd) ?_;rintro e w' ⟨rfl,he⟩;refine ⟨.refl _ _,?_⟩;by_cases h:giv t=true∨t ∈ bd
  ·rw [show ckX.g.lp st t bd=.error 341 from if_pos h];rw [if_pos h] at he;exact ⟨he,(),trivial⟩
  ·rw [if_neg h] at he;by_cases h2:2<=n
   ·rw [show ckX.g.lp st t bd=.error 342 from (if_neg h).trans (if_pos (by rw [hl];exact h2))];rw [if_pos h2] at he;exact ⟨he,(),trivial⟩
   ·rw [show ckX.g.lp st t bd=.ok () from (if_neg h).trans (if_neg (by rw [hl];exact h2))];rw [if_neg h2] at he;exact ⟨he,trivial⟩
theorem pW (p:Addr) (w:World) :
  CallsD Tryz.prog 57 #[Zp (some p)] .returning w λ e u' w'=>e=.returned (.tuple #[])/\u'=.returning/\w'=w:=by
 refine callsD_of_wpS Tryz.func57 rfl λ c₀ cs hu=>?_
 simp only [Tryz.ntmps57,List.size_toArray,List.length_cons,List.length_nil,Nat.reduceAdd,Nat.reduceSub,Array.replicate_succ,Array.replicate_zero,List.push_toArray,List.append_toArray,List.nil_append,List.cons_append];apply wpS_seq;apply wpS_region;simp [wpOpsS,go_sem,recoverD,hu,Exit.thenS];refine wpS_of_wp ?_;go_wp2;cases c₀
 simp_all [bodyPostS,results,Tryz.results57]
theorem rB (b:Nat) (x:Int) (c:Value) (w:World) (hp:w.cell? ⟨b,0,none⟩=some c) (hz:w.frozen? ⟨b,0,none⟩=false) :
  CallsD Tryz.prog 57 #[Zp (some ⟨b,0,none⟩)] (.panicking [{ v:=.iface 90 (Zi Zq x),recovered:=false }]) w λ e u' w' =>
   e=.returned (.tuple #[])/\u'=.panicking [{ v:=.iface 90 (Zi Zq x),recovered:=true }]/\w'=w.setCell ⟨b,0,none⟩ (Zi Zq x):=by
 have hta:∀ w:World,(Instr.typeAssert (.iface 90 (Zi Zq x)) 20 90 true).run Tryz.prog w=.ok (.tuple #[Zi Zq x,.bool true]) w:=λ _=>by kernel_rfl
 refine callsD_of_wpS Tryz.func57 rfl λ c₀ cs hu=>?_
 simp only [Tryz.ntmps57,List.size_toArray,List.length_cons,List.length_nil,Nat.reduceAdd,Nat.reduceSub,Array.replicate_succ,Array.replicate_zero,List.push_toArray,List.append_toArray,List.nil_append,List.cons_append];apply wpS_seq;apply wpS_region;simp [wpOpsS,go_sem,recoverD,hu,Exit.thenS];refine wpS_of_wp ?_;go_wp2;simp [bodyPostS,results,Tryz.results57]
theorem xN (l:List SJ) (css:List (List Value)) (A:Option Addr) (n ca:Nat) (F:Nat->Prop) (w:World) (hG:GOE w) (hS:SRs w F css l) (hln:l.length=n) (hnc:n<=ca) (hR:RdF w F A css.flatten) (hC:aK l) (hs:aA l<4194304) :
  Calls Tryz.prog 27 #[.agg #[Zs A n ca]] w (rx (dQ l) w):=by
 have hmf:∀ (fn:Fn) (first cap:Array Value) (w:World),(Instr.makeFunc fn first cap).run Tryz.prog w=.ok (.func fn first cap) w:=λ _ _ _ _=>rfl
 have hn4:n<=4194304:=by have:=fx l;omega
 have HM:=aW (λ (W:World) (h:Below w.heap.size w W)=>lX l css A n ca F W (hG.keep h) (RR.imp hS λ c x hc=>hc.bel h) hln hnc (hR.keep (ah.of_below h)) hC hn4);have HST:=aW (λ (W:World) (gb:Nat) (h:Below w.heap.size w W) (hgb:Blk W gb 95 #[.func (.func 58) #[] #[],.func (.func 60) #[] #[]]) =>
  jt (lE zv (aA l+1) l [] css A n ca none 0 0 () W gb (Nat.lt_succ_self _) (RR.imp hS λ c x hc=>(hc.bel h).mono λ _ _ _=>gH) hln hnc ((hR.keep (ah.of_below h)).mono λ _ _ _=>gH) rfl (by omega) (Nat.le_refl _) (.inl ⟨rfl,rfl⟩) RdF.nil hgb gH trivial (by show 0+aA l<=_;omega)))
 obtain ⟨B1,hB1⟩:∃ b,w.heap.size+1=b:=⟨_,rfl⟩
 have HH0:=aW ((((aT.nil w).push 24 #[Zs A n ca] (g:=w.heap.size) rfl).push 27 #[Zi Zq 0] (g:=B1) (by simp [hB1])));have HB1:=aW hB1;have HCK:=aW (show dQ l=if fG l=true then iu (gvL ckG [] l ()) else 332 from rfl);have hne1:B1≠w.heap.size:=by omega
 have hne2:w.heap.size≠B1:=by omega
 clear hG hS hln hnc hR hC hs;cases hm:fG l
 ·have hq:eq l=332:=by unfold eq;rw [hm];rfl
  rw [hq] at HM;have hc9:dQ l=332:=by rw [HCK.out,hm];rfl
  rw [hc9];clear hq hc9 hm HCK
  go_enter_defers Tryz.func27,Tryz.ntmps27
  go_wp2_with fail;refine (HM.out _ HH0.out.1).mono ?_;rintro e w1 ⟨rfl,hb1⟩;have HH1:=aW (HH0.out.keep hb1);have h9:=HH1.out.b0.set_ 0 (Zi Zq 332);have hbe:Below w.heap.size w (w1.setCell ⟨B1,0,none⟩ (Zi Zq 332)):=HH1.out.1.setCell (p:=⟨B1,0,none⟩) (by show w.heap.size<=B1;omega) _;have HE:=aW (And.intro h9 hbe);obtain ⟨c0,f0,l0⟩:=HH1.out.b0.rules;clear hb1 h9 hbe;go_wp2;obtain ⟨d0,d1,d2⟩:=HE.out.1.rules;refine ⟨Zi Zq 332,?_,rfl,HE.out.2⟩;simp only [results,Tryz.results27];go_simp
 ·have hq:eq l=0:=by unfold eq;rw [hm];rfl
  rw [hq] at HM;have hc9:dQ l=iu (gvL ckG [] l ()):=by rw [HCK.out,hm];rfl
  rw [hc9];clear hq hc9 hm HCK
  go_enter_defers Tryz.func27,Tryz.ntmps27
  go_wp2_with fail;refine (HM.out _ HH0.out.1).mono ?_;rintro e w1 ⟨rfl,hb1⟩;have HH1:=aW (HH0.out.keep hb1);obtain ⟨c0,f0,l0⟩:=HH1.out.b1.rules;obtain ⟨W2,hW2⟩:∃ W2,w1.alloc (.cells #[.func (.func 58) #[] #[],.func (.func 60) #[] #[]] 95)=W2:=⟨_,rfl⟩
  have hbk:Blk W2 w1.heap.size 95 #[.func (.func 58) #[] #[],.func (.func 60) #[] #[]]:=by rw [← hW2];exact Blk.new _ _ _
  have hb2:Below w1.heap.size w1 W2:=by rw [← hW2];exact (Below.refl _ _).alloc (Nat.le_refl _) _
  have HH2:=aW (HH1.out.keep hb2);have HC:=aW (HST.out W2 w1.heap.size HH2.out.1 hbk);have HW2:=aW hW2;clear hW2 hbk hb2 hb1;go_wp2_with fail;rw [HW2.out];refine HC.out.mono ?_;rintro e w3 ⟨hf,hc⟩;have hb3:Below W2.heap.size W2 w3:=FrO.below hf;have HH3:=aW (HH2.out.keep hb3);obtain ⟨d0,d1,d2⟩:=HH3.out.b0.rules;clear c0 f0 l0 hb3 hf;cases hr:gvL ckG [] l () with
  |error x =>
   have hc:e=.panicked [{ v:=.iface 90 (Zi Zq x),recovered:=false }]/\∃ st,ckX.Sx st w3:=by
    have h9:=hc;rw [show gvL ckX.g [] l ()=.error x from hr] at h9;exact h9
   obtain ⟨rfl,_⟩:=hc;refine leaves_cons (f:=57) (args:=#[Zp (some ⟨B1,0,none⟩)]) (by simp) (by simp [go_sem]) ?_;refine (rB B1 x _ w3 (d0 0) (d1 0)).mono ?_;rintro e u' w4 ⟨rfl,rfl,rfl⟩;have h9:=HH3.out.b0.set_ 0 (Zi Zq x);obtain ⟨e0,e1,e2⟩:=h9.rules;refine ⟨Zi Zq x,?_,rfl,HH3.out.1.setCell (p:=⟨B1,0,none⟩) (by show w.heap.size<=B1;have:=HB1.out;omega) _⟩;simp only [results,Tryz.results27];go_simp
  |ok st =>
   have hc:e=.returned (.tuple #[])/\ckX.Sx st w3:=by
    have h9:=hc;rw [show gvL ckX.g [] l ()=.ok st from hr] at h9;exact h9
   obtain ⟨rfl,_⟩:=hc;have h9:=HH3.out.b0.set_ 0 (Zi Zq 0);have hbe:Below w.heap.size w (w3.setCell ⟨B1,0,none⟩ (Zi Zq 0)):=HH3.out.1.setCell (p:=⟨B1,0,none⟩) (by show w.heap.size<=B1;have:=HB1.out;omega) _;have HE:=aW (And.intro h9 hbe);clear h9 hbe;go_wp2;refine leaves_cons (f:=57) (args:=#[Zp (some ⟨B1,0,none⟩)]) (by simp) (by simp [go_sem]) ?_;refine (pW ⟨B1,0,none⟩ _).mono ?_;rintro e u' w4 ⟨rfl,rfl,rfl⟩;obtain ⟨e0,e1,e2⟩:=HE.out.1.rules;refine ⟨Zi Zq 0,?_,by rw [hr];rfl,HE.out.2⟩;simp only [results,Tryz.results27];go_simp
end
end Go.Proofs.YtgmnmnnoahdjnaaGreatDoor
namespace Go.Proofs
open Go.Shelf
shelf_lay Lays.n190 Nm 190 at Tryz as Tryz.laysSortS
shelf_lay Lays.n194 Nm 194 at Tryz as Tryz.laysCompS
end Go.Proofs
namespace Go.Proofs.YtgmnmnnoahdjnaaGreatDoor
open Go.RowKit Go.Shelf Go.Sort
attribute [local go_sem] aa ac ae ab
theorem yA (l:List (List UInt8)) (base:Nat) (row:Value) (n:Nat) (w:World) (hl:l.length=n) (hn:n<=16777216) (hO:w.ownsRow base 9 1 row n (bY l)) (hb:base<=w.heap.size) :
  Calls Tryz.prog 37 #[row] w λ e w'=>e=.returned (.tuple #[])/\w'.ownsRow base 9 1 row n (bY (l.mergeSort λ x y=>decide (x<=y)))/\Below base w w':=by
 subst hl;rcases hO.2 with ⟨rfl,h0⟩ | ⟨g,cap,cur,rfl,hbase,hh,h1,h2,h3,h4⟩
 ·have:l=[]:=List.eq_nil_of_length_eq_zero h0;subst this;refine (Any.slices_Sort_string_none Tryz.laysSortS none 0 w).mono ?_;rintro e w' ⟨rfl,rfl⟩;exact ⟨rfl,by simpa using hO,Below.refl _ _⟩
 ·have hg:g<w.heap.size:=(Array.getElem?_eq_some_iff.1 hh).1;have hH:Holds encStr w g 0 l.toArray:=holds_of_block hh (by rw [Nat.mul_one] at h4;exact h4);refine (Any.slices_Sort_string Tryz.laysSortS g 0 cap l w hH hg (by omega)).mono ?_;rintro e w' ⟨rfl,q,os,rfl⟩;have hlen:(l.mergeSort λ x y=>decide (x<=y)).length=l.length:=List.length_mergeSort l;exact ⟨rfl,ownsRow_sorted hlen hbase hh h1 h2 h3,(Below.refl base w).grown (grownBy_sorted _) hb λ k e=>by cases e;exact hbase⟩
theorem xT (l:List (List UInt8)) (base:Nat) (row:Value) (n:Nat) (w:World) (hl:l.length=n) (hn:n<=16777216) (hO:w.ownsRow base 9 1 row n (bY l)) (hb:base<=w.heap.size) :
  Calls Tryz.prog 38 #[row] w λ e w' => ∃ v,e=.returned v/\w'.ownsRow base 9 1 v (Lib.compact l).length (bY (Lib.compact l))/\Below base w w':=by
 subst hl;have hO':=hO;rcases hO.2 with ⟨rfl,h0⟩ | ⟨g,cap,cur,rfl,hbase,hh,h1,h2,h3,h4⟩
 ·have:l=[]:=List.eq_nil_of_length_eq_zero h0;subst this;refine (Any.slices_Compact_string_empty Tryz.laysCompS none 0 w).mono ?_;rintro e w' ⟨rfl,rfl⟩;exact ⟨_,rfl,World.ownsRow_nil _ _ _ _,Below.refl _ _⟩
 ·have hg:g<w.heap.size:=(Array.getElem?_eq_some_iff.1 hh).1;have hH:Holds encStr w g 0 l.toArray:=holds_of_block hh (by rw [Nat.mul_one] at h4;exact h4);refine (Any.slices_Compact_string Tryz.laysCompS g 0 cap l w hH (by omega) h1).mono ?_;rintro e w' ⟨rfl,q,rfl⟩;have hle:(Lib.compact l).length<=l.length:=by
   unfold Lib.compact Lib.compactUpTo;rw [List.length_map];exact Nat.le_trans (List.length_filter_le _ _) (by rw [List.length_range];exact Nat.le_refl _)
  have h9:=Lib.ownsRow_putRow (enc:=encStr) (q:=q) (k:=(Lib.compact l).length) (ys:=Lib.compact l++List.replicate (l.length-(Lib.compact l).length) []) hO' (by simp;omega) hle;rw [List.take_left] at h9;exact ⟨_,rfl,h9,Lib.below_putRow (Below.refl base w) hbase⟩
/-- vcheck.sorted -/
theorem vu (l:List (List UInt8)) (base:Nat) (row:Value) (n:Nat) (w:World) (hl:l.length=n) (hn:n<=16777216) (hO:w.ownsRow base 9 1 row n (bY l)) (hb:base<=w.heap.size) :
  Calls Tryz.prog 65 #[row] w λ e w' => ∃ v,e=.returned v/\w'.ownsRow base 9 1 v (mO l).length (bY (mO l))/\Below base w w':=by
 have HS:=aW (yA l base row n w hl hn hO hb);have HC:=aW (λ (w':World) (h:w'.ownsRow base 9 1 row n (bY (l.mergeSort λ x y=>decide (x<=y)))) (hb:base<=w'.heap.size)=>xT (l.mergeSort λ x y=>decide (x<=y)) base row n w' (by rw [List.length_mergeSort];exact hl) hn h hb);have HB:=aW hb;clear hO hl hn hb;go_enter Tryz.func65,Tryz.ntmps65;go_wp2_with fail;refine HS.out.mono ?_;rintro e w1 ⟨rfl,ho,hb1⟩;have HC1:=aW (HC.out w1 ho (Nat.le_trans HB.out hb1.size));have HB1:=aW hb1;clear ho hb1;go_wp2_with fail;refine HC1.out.mono ?_;rintro e w2 ⟨v,rfl,ho,hb2⟩;go_wp2;go_ret;exact ⟨v,rfl,ho,HB1.out.trans hb2⟩
end Go.Proofs.YtgmnmnnoahdjnaaGreatDoor
namespace Go.Proofs.YtgmnmnnoahdjnaaGreatDoor
section
open Go.RowKit
attribute [local go_sem] aa ac ae ab
theorem lJ {k:Int} (h:5<=k/\k<=15):∃ t,ofJ k=(t,k,(a8 k:Int))/\t≠[]/\ay (opK k)=t:=by
 obtain rfl | rfl | rfl | rfl | rfl | rfl | rfl | rfl | rfl | rfl | rfl:k=5∨k=6∨k=7∨k=8∨k=9∨k=10∨k=11∨k=12∨k=13∨k=14∨k=15:=by omega
 all_goals exact ⟨_,by rfl,by decide,by rfl⟩
def oL (n:Nat) (w:World) (e:Ending) (w':World):Prop:=e=.returned (Zi Zq n)/\Below w.heap.size w w'
theorem iq (k k1 n1:Int) (s1:ByteArray) (A1:Option Addr) (na1 ca1:Nat) (B1:Option Addr) (nb1 cb1:Nat) (s:ByteArray) (A:Option Addr) (nk ca:Nat) (w:World) (hG:GOE w) :
  Calls Tryz.prog 112 #[.agg #[Zi Zq k,Zi Zq k1,Zi Zq n1,Zt s1,Zs A1 na1 ca1,Zs B1 nb1 cb1,Zt s,Zs A nk ca]] w (oL (a8 k) w):=by
 have HH0:=aW ((aT.nil w).push 45 #[Zi Zq k,Zi Zq k1,Zi Zq n1,Zt s1,Zs A1 na1 ca1,Zs B1 nb1 cb1,Zt s,Zs A nk ca] (g:=w.heap.size) rfl);have HOF:=aW (λ W (h:Below w.heap.size w W)=>eOf k W (hG.keep h));have HG:=aW (λ W (h:Below w.heap.size w W)=>hG.keep h);unfold OfP at HOF;clear hG;by_cases h3:k=3
 ·have HL:=aW (show a8 k=8 by subst h3;rfl);subst h3;obtain ⟨c0,f0,l0⟩:=HH0.out.b0.rules;go_enter Tryz.func112,Tryz.ntmps112;go_wp2;go_ret;exact ⟨by rw [HL.out];rfl,HH0.out.1⟩
 have e3:(k == 3)=false:=by simpa using h3
 by_cases hop:5<=k/\k<=15
 ·obtain ⟨t,hof,hne,_⟩:=lJ hop;rw [hof] at HOF;unfold cT at HOF;simp only at HOF;obtain ⟨T,hT⟩:∃ T:ByteArray,⟨t.toArray⟩=T:=⟨_,rfl⟩
  obtain ⟨L,hL⟩:∃ L,a8 k=L:=⟨_,rfl⟩
  rw [hL,hT] at HOF;rw [hL];have hk0:(k == 0)=false:=by rw [beq_eq_false_iff_ne];omega
  have HOP:=aW hop;clear hop hof hne hL hT h3;obtain ⟨c0,f0,l0⟩:=HH0.out.b0.rules;go_enter Tryz.func112,Tryz.ntmps112;go_upto_region 3 with fail;have HGD:=aW (HG.out _ HH0.out.drew.1);have gl:=HGD.out.lt;have d0:=HH0.out.drew.b0.cell 0;simp at d0;have z0:=HGD.out.c0;have z1:=HGD.out.c1;have z2:=HGD.out.c2;go_region_held3 (λ w'=>w'.cell? ⟨w.heap.size,0,none⟩=some (Zi Zq k)/\w'.cell? ⟨0,0,none⟩=some (Zt ⟨#[]⟩)/\w'.cell? ⟨0,1,none⟩=some (Zi Zq 0)/\w'.cell? ⟨0,2,none⟩=some (Zi Zq 0)) (go_keep) ((go_at_call 113;refine (HOF.out _ HH0.out.drew.1).mono ?_;rintro e w3 ⟨rfl,hb3⟩;have hx3:=HH0.out.drew.keep hb3;have e0:=hx3.b0.cell 0;simp at e0;have hg3:=HGD.out.keep hb3;have y0:=hg3.c0;have y1:=hg3.c1;have y2:=hg3.c2));obtain ⟨c1,f1,l1⟩:=hx3.b0.rules;go_wp2_with (go_at_call 113;refine (HOF.out _ hx3.1).mono ?_;rintro e w4 ⟨rfl,hb4⟩);go_ret;exact ⟨rfl,hx3.1.trans (hb4.mono hx3.1.size)⟩
 ·have HL:=aW (show a8 k=9 by unfold a8;simp only [h3,if_false];repeat rw [if_neg (by omega)]);rw [HL.out];rw [kF hop] at HOF;unfold cT fH at HOF;simp only at HOF;clear hop h3;obtain ⟨c0,f0,l0⟩:=HH0.out.b0.rules;go_enter Tryz.func112,Tryz.ntmps112;go_upto_region 3 with fail;have HGD:=aW (HG.out _ HH0.out.drew.1);have gl:=HGD.out.lt;have d0:=HH0.out.drew.b0.cell 0;simp at d0;have z0:=HGD.out.c0;have z1:=HGD.out.c1;have z2:=HGD.out.c2;go_region_held3 (λ w'=>w'.cell? ⟨w.heap.size,0,none⟩=some (Zi Zq k)/\w'.cell? ⟨0,0,none⟩=some (Zt ⟨#[]⟩)/\w'.cell? ⟨0,1,none⟩=some (Zi Zq 0)/\w'.cell? ⟨0,2,none⟩=some (Zi Zq 0)) (go_keep) ((go_at_call 113;refine (HOF.out _ HH0.out.drew.1).mono ?_;rintro e w3 ⟨rfl,hb3⟩;have hx3:=HH0.out.drew.keep hb3;have e0:=hx3.b0.cell 0;simp at e0;have hg3:=HGD.out.keep hb3;have y0:=hg3.c0;have y1:=hg3.c1;have y2:=hg3.c2));go_wp2;go_ret;exact ⟨rfl,hx3.1⟩
theorem RdF.of_blkP {W:World} {F:Nat->Prop} {b:Nat} {t:TypeId} {xs:List Value} (h:Blk W b t xs.toArray) (hF:F b):RdF W F (some ⟨b,0,none⟩) xs :=
 λ _=>⟨b,0,rfl,h.lt,hF,λ i hi=>by rw [h.cell,Nat.zero_add,List.getElem?_toArray,List.getElem?_eq_getElem hi]⟩
theorem pp {W:World} {g n:Nat} {row:Value} {out:List UInt8} {num:Bool} (hW:WP W g row n out num) (o:Obj):PbM g row (W.alloc o) W.heap.size :=
 ⟨by rw [World.size_alloc];omega,by have:=hW.blk.lt;omega,λ e=>by have:=(hW.ge _ e.symm).2;omega⟩
theorem iM (s:List UInt8) (W:World) (p g:Nat) (row:Value) (n:Nat) (out:List UInt8) (num:Bool) (hW:WP W g row n out num) (hp:p=W.heap.size) (hs:s≠[]) (hl:n+(s.length+1)<=100000000000) :
  Calls Tryz.prog 73 #[Zp (some ⟨g,0,none⟩),Zs (some ⟨p,0,none⟩) 1 1] (W.alloc (.cells #[Zt ⟨s.toArray⟩] 9)) (gM g row (bc (out,num) s) W):=by
 subst hp;have hb:=(Below.refl W.heap.size W).alloc (Nat.le_refl _) (.cells #[Zt ⟨s.toArray⟩] 9);refine (xA [s] (some ⟨W.heap.size,0,none⟩) 1 1 _ g row n out num (hW.keep hb) (RdF.of_blkP (Blk.new W 9 #[Zt ⟨s.toArray⟩]) (pp hW _)) rfl (by decide) (by simpa using hs) (by simpa using hl)).mono ?_;rintro e w' ⟨rfl,row',n',h1,h2⟩;exact ⟨rfl,row',n',h1,(MG.bel hb).trans h2⟩
theorem Av (s t:List UInt8) (W:World) (p g:Nat) (row:Value) (n:Nat) (out:List UInt8) (num:Bool) (hW:WP W g row n out num) (hp:p=W.heap.size) (hs:s≠[]) (ht:t≠[]) (hl:n+((s.length+1)+(t.length+1))<=100000000000) :
  Calls Tryz.prog 73 #[Zp (some ⟨g,0,none⟩),Zs (some ⟨p,0,none⟩) 2 2] (W.alloc (.cells #[Zt ⟨s.toArray⟩,Zt ⟨t.toArray⟩] 9)) (gM g row (bc (bc (out,num) s) t) W):=by
 subst hp;have hb:=(Below.refl W.heap.size W).alloc (Nat.le_refl _) (.cells #[Zt ⟨s.toArray⟩,Zt ⟨t.toArray⟩] 9);refine (xA [s,t] (some ⟨W.heap.size,0,none⟩) 2 2 _ g row n out num (hW.keep hb) (RdF.of_blkP (Blk.new W 9 #[Zt ⟨s.toArray⟩,Zt ⟨t.toArray⟩]) (pp hW _)) rfl (by decide) (by simp [hs,ht]) (by simpa using hl)).mono ?_;rintro e w' ⟨rfl,row',n',h1,h2⟩;exact ⟨rfl,row',n',h1,(MG.bel hb).trans h2⟩
theorem gM.bel {g:Nat} {row:Value} {st:List UInt8 × Bool} {w W w':World} {e:Ending} (h:gM g row st W e w') (hb:Below w.heap.size w W):gM g row st w e w':=by
 obtain ⟨rfl,row',n',h1,h2⟩:=h;exact ⟨rfl,row',n',h1,(MG.bel hb).trans h2⟩
theorem yl (n:Int):ep n≠[]:=by
 unfold ep;split
 ·simp
 ·exact fh _
theorem uj {k n:Int} {s:List UInt8} {kids:List JV} {keys:List (List UInt8)} (h:fR (.mk k n s kids keys)=true):k=3∨(k=4/\dL s=true)∨k=1∨(k=2/\(n=0∨n=1)):=by
 unfold fR at h;simp only [Bool.and_eq_true,Bool.or_eq_true,decide_eq_true_eq] at h;obtain ⟨hg,h1⟩:=h;have h1:(k=3/\0<=n)∨(k=1∨k=2∨k=4):=h1;have h2:=(nK (vL hg).1).1;rcases h1 with ⟨h1,_⟩ | h1 | h1 | h1
 ·exact .inl h1
 ·exact .inr (.inr (.inl h1))
 ·subst h1;refine .inr (.inr (.inr ⟨rfl,?_⟩));unfold dI at h2;simp at h2;exact h2.1.1.1
 ·subst h1;unfold dI at h2;simp at h2;exact .inr (.inl ⟨rfl,h2.1.1.2⟩)
theorem Bu (v:JV) (cs:List Value) (F:Nat->Prop) (w:World) (g:Nat) (row:Value) (n:Nat) (out:List UInt8) (num:Bool) (hW:WP w g row n out num) (hv:VR w F cs v) (hc:dq v) (hl:fR v=true)
  (hlen:n+((ay (gU v)).length+1)<=100000000000) :
  Calls Tryz.prog 114 #[Zp (some ⟨g,0,none⟩),.agg cs.toArray] w (gM g row (bc (out,num) (ay (gU v))) w):=by
 obtain ⟨k,m,s,kids,keys⟩:=v;obtain ⟨A,B,ca,cb,css,rfl,_⟩:=VR.out hv;obtain ⟨_,him,hsl,_⟩:=hc.out;have hp:=uj hl;obtain ⟨nk,hnk⟩:∃ q,kids.length=q:=⟨_,rfl⟩
 obtain ⟨nq,hnq⟩:∃ q,keys.length=q:=⟨_,rfl⟩
 rw [hnk,hnq];have HH0:=aW ((aT.nil w).push 42 #[Zi Zq k,Zi Zq m,Zt ⟨s.toArray⟩,Zs A nk ca,Zs B nq cb] (g:=w.heap.size) rfl);have HG:=aW (λ W (h:Below w.heap.size w W)=>(hW.goe.keep h).gok);have HP:=aW (λ W (h:Below w.heap.size w W) (t:List UInt8) (p:Nat) (hp:p=W.heap.size) (ht:t≠[]) (hl:n+(t.length+1)<=100000000000)=>(iM t W p g row n out num (hW.keep h) hp ht hl).mono λ e w' h1=>gM.bel h1 h);clear hW hv hc hl hnk hnq;rcases hp with rfl | ⟨rfl,htx⟩ | rfl | ⟨rfl,hn⟩
 ·have HT:=aW (show ay (gU (.mk 3 m s kids keys))=ep m from rfl);rw [HT.out] at hlen ⊢;have HLEN:=aW hlen;have HIM:=aW him;clear hlen him;unfold iw at HIM;obtain ⟨c0,f0,l0⟩:=HH0.out.b0.rules;go_enter Tryz.func114,Tryz.ntmps114;go_wp2_with (first
   | (go_at_call 158;refine (ph m _ HIM.out).mono ?_;unfold AF;rintro e w2 ⟨rfl,hb2⟩)
   | (go_at_call 73;refine (HP.out _ (HH0.out.1.trans (hb2.mono HH0.out.1.size)) _ _ (by first | rfl | simp) (yl m) HLEN.out).mono ?_;rintro e w3 ⟨rfl,hp3⟩))
  go_end0;exact ⟨rfl,hp3⟩
 ·have HT:=aW (show ay (gU (.mk 4 m s kids keys))=iF s from rfl);rw [HT.out] at hlen ⊢;have HLEN:=aW hlen;have HTX:=aW (And.intro htx hsl);clear hlen htx;obtain ⟨c0,f0,l0⟩:=HH0.out.b0.rules;go_enter Tryz.func114,Tryz.ntmps114;go_wp2_with (first
   | (go_at_call 159;refine (sj s _ (HG.out _ HH0.out.1) HTX.out.1 HTX.out.2).mono ?_;unfold sR;rintro e w2 ⟨rfl,hb2⟩)
   | (go_at_call 73;refine (HP.out _ (HH0.out.1.trans (hb2.mono HH0.out.1.size)) _ _ (by first | rfl | simp) (by unfold iF;simp) HLEN.out).mono ?_;rintro e w3 ⟨rfl,hp3⟩))
  go_end0;exact ⟨rfl,hp3⟩
 ·have HT:=aW (show ay (gU (.mk 1 m s kids keys))=[110,117,108,108] from rfl);rw [HT.out] at hlen ⊢;have HLEN:=aW hlen;clear hlen;obtain ⟨c0,f0,l0⟩:=HH0.out.b0.rules;go_enter Tryz.func114,Tryz.ntmps114;go_wp2_with (go_at_call 73;refine (HP.out _ HH0.out.1 [110,117,108,108] _ (by first | rfl | simp) (by simp) HLEN.out).mono ?_;rintro e w3 ⟨rfl,hp3⟩);go_end0;exact ⟨rfl,hp3⟩
 ·rcases hn with rfl | rfl
  ·have HT:=aW (show ay (gU (.mk 2 0 s kids keys))=[102,97,108,115,101] from rfl);rw [HT.out] at hlen ⊢;have HLEN:=aW hlen;clear hlen;obtain ⟨c0,f0,l0⟩:=HH0.out.b0.rules;go_enter Tryz.func114,Tryz.ntmps114;go_wp2_with (go_at_call 73;refine (HP.out _ (HH0.out.1.alloc (by simp) _) [102,97,108,115,101] _ (by first | rfl | simp) (by simp) HLEN.out).mono ?_;rintro e w3 ⟨rfl,hp3⟩);go_end0;exact ⟨rfl,hp3⟩
  ·have HT:=aW (show ay (gU (.mk 2 1 s kids keys))=[116,114,117,101] from rfl);rw [HT.out] at hlen ⊢;have HLEN:=aW hlen;clear hlen;obtain ⟨c0,f0,l0⟩:=HH0.out.b0.rules;go_enter Tryz.func114,Tryz.ntmps114;go_wp2_with (go_at_call 73;refine (HP.out _ (HH0.out.1.alloc (by simp) _) [116,114,117,101] _ (by first | rfl | simp) (by simp) HLEN.out).mono ?_;rintro e w3 ⟨rfl,hp3⟩);go_end0;exact ⟨rfl,hp3⟩
end
end Go.Proofs.YtgmnmnnoahdjnaaGreatDoor
