import Derived.Test.YtgmnmnnoahdjnaaGreatDoorB41
set_option maxRecDepth 100000
set_option maxHeartbeats 16000000
set_option linter.unusedVariables false
set_option linter.unusedSimpArgs false
namespace Go.Proofs.YtgmnmnnoahdjnaaGreatDoor
section
open Go.RowKit
attribute [local go_sem] aa ac ae ab
theorem uz:∀ d,tj d
 | 0=>rJ 0 fun h=>absurd rfl h
 | d+1=>rJ (d+1) fun _=>vY d (uz d)
def vr (l:List SJ) (w:World) (e:Ending) (w':World):Prop:=e=.returned (.tuple #[.string ⟨(dG l).1.toArray⟩,.int .i64 (dG l).2])∧Below w.heap.size w w'
theorem uX (l:List SJ) (css:List (List Value)) (A:Option Addr) (n ca:Nat) (F:Nat→Prop) (w:World) (hG:GOE w) (hS:SRs w F css l) (hln:l.length=n) (hnc:n≤ca) (hR:RdF w F A css.flatten) (hC:bg l) (hn:n≤4194304) (hlen:bO (aq l)≤100000000000) :
  Calls Tryz.prog 16 #[.agg #[.slice A n ca]] w (vr l w):=by
 have HH0:=aW ((aL.nil w).push 24 #[.slice A n ca] (g:=w.heap.size) rfl);have HCK:=aW (fun (W:World) (h:Below w.heap.size w W)=>nQ l css A n ca F W (hG.keep h) (RR.imp hS fun c x hc=>hc.bel h) hln hnc (hR.keep (ah.of_below h)) hC hn);obtain ⟨b,hb⟩:∃ b,jz l=b:=⟨_,rfl⟩
 have hq:lP l=(if b=true then 0 else 332):=by unfold lP;rw [hb]
 unfold r5 at HCK;rw [hq] at HCK;clear hq;obtain ⟨c0,f0,l0⟩:=HH0.out.b0.rules;have HGG:=aW hG;cases b with
 |false =>
  have HP:=aW (show dG l=([],332) by unfold dG;rw [hb];rfl);simp only [Bool.false_eq_true,if_false] at HCK;clear hS hR hC hG hb hlen;go_enter Tryz.func16,Tryz.ntmps16;go_wp2_with (go_at_call 18;refine (HCK.out _ HH0.out.1).mono ?_;rintro e w1 ⟨rfl,hb1⟩);go_ret2;exact ⟨by rw [HP.out];rfl,HH0.out.1.trans (hb1.mono HH0.out.1.size)⟩
 |true =>
  simp only [if_true] at HCK;have HM:=aW hb;have HPG:=aW (show (aF (aq l) ([],false)).1=fA l from uC hb hC);have HST:=aW (fun (w1:World) (h:Below w.heap.size w w1)=>show WP (w1.alloc (.cells #[.slice none 0 0,.bool false] 71)) w1.heap.size (.slice none 0 0) 0 [] false from
   ⟨Blk.new _ _ _,(by have h1:=iL.nil (w1.alloc (.cells #[.slice none 0 0,.bool false] 71));rw [World.size_alloc] at h1;exact h1),w,hG,h.size,h.alloc h.size _⟩)
  have HSS:=aW (fun (w1:World) (h:Below w.heap.size w w1)=>show SRs (w1.alloc (.cells #[.slice none 0 0,.bool false] 71)) (PbM w1.heap.size (.slice none 0 0) (w1.alloc (.cells #[.slice none 0 0,.bool false] 71))) css l∧RdF (w1.alloc (.cells #[.slice none 0 0,.bool false] 71)) (PbM w1.heap.size (.slice none 0 0) (w1.alloc (.cells #[.slice none 0 0,.bool false] 71))) A css.flatten from by
   have hbb:Below w.heap.size w (w1.alloc (.cells #[.slice none 0 0,.bool false] 71)):=h.alloc h.size _;have hs:=h.size;have hk:ah (fun k=>F k∧k<w.heap.size) w (w1.alloc (.cells #[.slice none 0 0,.bool false] 71)):=ah.of_below hbb;have hm:∀ k,k<(w1.alloc (.cells #[.slice none 0 0,.bool false] 71)).heap.size→F k∧k<w.heap.size→PbM w1.heap.size (.slice none 0 0) (w1.alloc (.cells #[.slice none 0 0,.bool false] 71)) k:=fun k hk hF=>⟨hk,by omega,fun e=>by cases e⟩
   exact ⟨RR.imp hS fun c x hc=>((hc.mono (F':=fun k=>F k∧k<w.heap.size) fun k hk hF=>⟨hF,hk⟩).keep hk).mono hm,((hR.mono (F':=fun k=>F k∧k<w.heap.size) fun k hk hF=>⟨hF,hk⟩).keep hk).mono hm⟩)
  have HIH:=aW (fun (w1:World) (h:Below w.heap.size w w1)=>uz 12 l css A n ca (w1.alloc (.cells #[.slice none 0 0,.bool false] 71)) w1.heap.size (.slice none 0 0) 0 ([],false) (HST.out w1 h) (HSS.out w1 h).1 hln hnc (HSS.out w1 h).2 hb hC hn (by show 0+_≤_;omega));clear hS hR hC hG hb hlen HSS hln;go_enter Tryz.func16,Tryz.ntmps16;go_upto_region 4 with (go_at_call 18;refine (HCK.out _ HH0.out.1).mono ?_;rintro e w1 ⟨rfl,hb1⟩;obtain ⟨c1,f1,l1⟩:=((HH0.out.keep hb1).alloc (.cells #[.slice none 0 0,.bool false] 71)).b0.rules);have HB1:=aW (HH0.out.1.trans (hb1.mono HH0.out.1.size));have HC:=aW (HIH.out _ HB1.out);go_upto_region 6 with (go_at_call 44;refine HC.out.mono ?_;rintro e w2 ⟨rfl,row,n2,hw2,hm2⟩);have hn2:=hw2.own.1;rw [HPG.out] at hw2 hn2;have HBF:=aW (show Below w.heap.size w w2 from (HB1.out.alloc HB1.out.size _).trans (hm2.below (by have:=HB1.out.size;simp;omega) HB1.out.size (fun k e=>by cases e)));have hcv:=(BS.of_own (l:=fA l) (by rw [hn2];exact hw2.own.2.1)).conv;obtain ⟨RA,rc,rfl,hrc,_,_⟩:=cx hw2.own.2.1;obtain ⟨d0,g0,k0⟩:=hw2.blk.rules;have HN2:=aW hn2;clear hm2 hw2 hn2 c0 f0 l0 c1 f1 l1;by_cases h512:512<n2
  ·have HP:=aW (show dG l=([],3) by unfold dG;rw [HM.out,HN2.out];simp [h512]);have h5:(512:Int)<(n2:Int):=by omega
   go_wp2;go_ret2;exact ⟨by rw [HP.out];rfl,HBF.out⟩
  ·have HP:=aW (show dG l=(fA l,0) by unfold dG;rw [HM.out,HN2.out];simp [h512]);have h5:¬ (512:Int)<(n2:Int):=by omega
   go_wp2;go_ret2;exact ⟨by rw [HP.out];rfl,HBF.out⟩
end
end Go.Proofs.YtgmnmnnoahdjnaaGreatDoor
