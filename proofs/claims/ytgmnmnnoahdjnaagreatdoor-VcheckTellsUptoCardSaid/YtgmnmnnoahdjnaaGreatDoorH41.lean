import Derived.Test.YtgmnmnnoahdjnaaGreatDoorH39
import Derived.Test.YtgmnmnnoahdjnaaGreatDoorH40
open Go.Value renaming int → Zi, slice → Zs, string → Zt, pointer → Zp
open Go.IntKind renaming i64 → Zq
set_option maxRecDepth 100000
set_option maxHeartbeats 16000000
set_option linter.unusedVariables false
set_option linter.unusedSimpArgs false
namespace Go.Proofs.YtgmnmnnoahdjnaaGreatDoor
section
open Go.RowKit Go.Shelf
attribute [local go_sem] ab ae af ac
def j5 (o:List SJ × Int × Int):List SJ × Int × Int:=if o.2.2=0 then (if cX o.1=0 then (o.1,0,0) else ([],o.2.1,cX o.1)) else ([],o.2.1,o.2.2)
section
variable {W:World} {A:Option Addr} {n ca:Nat} {p:List SJ}
theorem iB (h:di W A n ca p) (hG:GOE W) (hC:aZ p) (hs:ap p<4194304):Calls Tryz.prog 27 #[.agg #[Zs A n ca]] W (rY (cX p) W):=by
 obtain ⟨css,h1,h2,h3,h4⟩:=h;exact ul p css A n ca TT W hG h1 h3 h4 h2 hC hs
theorem sM (h:di W A n ca p) (hG:GOE W) (hC:aZ p) (hs:ap p<4194304):Calls Tryz.prog 29 #[.agg #[Zs A n ca]] W (ub p W):=by
 obtain ⟨css,h1,h2,h3,h4⟩:=h;exact vR p css A n ca TT W hG h1 h3 h4 h2 hC hs
theorem qi (h:di W A n ca p) (hG:GOE W) (hC:aZ p) (hs:ap p<4194304):Calls Tryz.prog 30 #[.agg #[Zs A n ca]] W (pZ p W):=by
 obtain ⟨css,h1,h2,h3,h4⟩:=h;exact un p css A n ca TT W hG h1 h3 h4 h2 hC hs
end
theorem di.nil_ (W:World):di W none 0 0 []:=⟨[],RR.nil,RdF.nil,rfl,Nat.le_refl _⟩
def yc (o:List SJ × Int × Int) (w:World) (e:Ending) (w':World):Prop:=∃ A n ca,e=.returned (.tuple #[.agg #[Zs A n ca],Zi Zq o.2.1,Zi Zq o.2.2])/\di w' A n ca o.1/\Below w.heap.size w w'
theorem mt {w w2:World} {A:Option Addr} {n ca:Nat} {css:List (List Value)} {p:List SJ} {v:Value} (h1:SRs w2 (λ b=>w.heap.size<b) css p) (h2:RdF w2 (λ b=>w.heap.size<b) A css.flatten) (h3:p.length=n) (h4:n<=ca) (hb:Below w.heap.size w w2) (hk:Blk w2 w.heap.size 24 #[v]) (u:Value) :
  di (w2.setCell ⟨w.heap.size,0,none⟩ u) A n ca p/\Below w.heap.size w (w2.setCell ⟨w.heap.size,0,none⟩ u)/\Blk (w2.setCell ⟨w.heap.size,0,none⟩ u) w.heap.size 24 #[u]:=by
 have hkf:aj (λ b=>w.heap.size<b) w2 (w2.setCell ⟨w.heap.size,0,none⟩ u):=aj.set aj.refl (λ k hk=>by omega) 0 _;exact ⟨⟨css,RR.imp h1 λ c x hc=>(hc.keep hkf).mono λ _ _ _=>trivial,(h2.keep hkf).mono λ _ _ _=>trivial,h3,h4⟩,hb.setCell (p:=⟨w.heap.size,0,none⟩) (Nat.le_refl _) _,by simpa using hk.set_ 0 u⟩
theorem lC (s:ByteArray) (w:World) (hG:GOE w) (hs:s.size<=4194304):Calls Tryz.prog 34 #[Zt s] w (yc (j5 (cB (sl s))) w):=by
 obtain ⟨o,ho⟩:∃ o,cB (sl s)=o:=⟨_,rfl⟩
 have hcam:=(rk (sl s)).1;have hsum:=rl (sl s);rw [ho] at hcam hsum;have HP:=aW (λ W (h:Below w.heap.size w W)=>show Calls Tryz.prog 22 #[Zt s] W (mm o W) from ho ▸ rB s W (hG.keep h) hs);have HC:=aW (λ W A n ca (h:Below w.heap.size w W) (hp:di W A n ca o.1)=>iB hp (hG.keep h) hcam (by omega));have HH0:=aW ((aH.nil w).push 24 #[Zs none 0 0] (g:=w.heap.size) rfl);obtain ⟨⟨p,at_,er⟩,rfl⟩:∃ z,z=o:=⟨_,rfl⟩
 rw [ho];clear hG hs ho hcam hsum;go_enter Tryz.func34,Tryz.ntmps34;go_wp2_with fail;refine (HP.out _ HH0.out.1).mono ?_;rintro e w1 ⟨A,n,ca,css,rfl,hn,hnc,_,hS,hR,hb1⟩;have HH1:=aW ((HH0.out.keep hb1).push 24 #[Zs A n ca] (g:=w1.heap.size) rfl);have hb1a:Below w1.heap.size w1 (w1.alloc (.cells #[Zs A n ca] 24)):=(Below.refl _ _).alloc (Nat.le_refl _) _;have hS1:SRs (w1.alloc (.cells #[Zs A n ca] 24)) (λ b=>w.heap.size<b) css p:=RR.imp hS λ c x hc=>(hc.mono (F':=λ b=>w.heap.size<b) λ b _ hb=>by unfold NW at hb;simp at hb;omega).bel hb1a
 have hR1:RdF (w1.alloc (.cells #[Zs A n ca] 24)) (λ b=>w.heap.size<b) A css.flatten:=(hR.mono (F':=λ b=>w.heap.size<b) λ b _ hb=>by unfold NW at hb;simp at hb;omega).keep (aj.of_below hb1a);have hne2:w1.heap.size≠w.heap.size:=by have:=HH0.out.b0.lt;have:=hb1.size;omega
 have hne1:=Ne.symm hne2;have HC1:=aW (HC.out _ A n ca HH1.out.1 ⟨css,RR.imp hS1 λ c x hc=>hc.mono λ _ _ _=>trivial,hR1.mono λ _ _ _=>trivial,hn.symm,hnc⟩);have HSR:=aW (And.intro hS1 (And.intro hR1 (And.intro hn.symm hnc)));obtain ⟨q,hq⟩:∃ q,cX p=q:=⟨_,rfl⟩
 try simp only at HC1
 rw [hq] at HC1;have HQ:=aW hq;clear hS hR hb1 hS1 hR1 hb1a hn hnc hq
 try simp only
 by_cases he:er=0
 ·subst he;by_cases hq0:q=0
  ·subst hq0;have HO:=aW (show j5 (p,at_,0)=(p,0,0) by unfold j5;rw [if_pos rfl,if_pos HQ.out]);go_wp2_with fail;refine HC1.out.mono ?_;rintro e w2 ⟨rfl,hb2⟩;have HH2:=aW (HH1.out.keep hb2);obtain ⟨c0,f0,l0⟩:=HH2.out.b0.rules;obtain ⟨c1,f1,l1⟩:=HH2.out.b1.rules;have HE:=aW (mt (RR.imp HSR.out.1 λ c x hc=>hc.bel hb2) (HSR.out.2.1.keep (aj.of_below hb2)) HSR.out.2.2.1 HSR.out.2.2.2 HH2.out.1 HH2.out.b1 (Zs A n ca));clear hb2;go_wp2;obtain ⟨d0,d1,d2⟩:=HE.out.2.2.rules;refine bodyPost_ret (v:=.tuple #[.agg #[Zs A n ca],Zi Zq 0,Zi Zq 0]) (by simp only [results,Tryz.results34];go_simp) rfl ?_;rw [HO.out];exact ⟨A,n,ca,rfl,HE.out.1,HE.out.2.1⟩
  ·have HO:=aW (show j5 (p,at_,0)=([],at_,q) by unfold j5;rw [if_pos rfl,if_neg (by rw [HQ.out];exact hq0),HQ.out]);have hqb:(q != 0)=true:=by simpa using hq0
   clear hq0;go_wp2_with fail;refine HC1.out.mono ?_;rintro e w2 ⟨rfl,hb2⟩;have HH2:=aW (HH1.out.keep hb2);obtain ⟨c0,f0,l0⟩:=HH2.out.b0.rules;obtain ⟨c1,f1,l1⟩:=HH2.out.b1.rules;have HE:=aW (mt (RR.nil (R:=SR w2 (λ b=>w.heap.size<b))) (A:=none) (RdF.nil) (n:=0) rfl (Nat.le_refl 0) HH2.out.1 HH2.out.b1 (Zs none 0 0));clear hb2;go_wp2;obtain ⟨d0,d1,d2⟩:=HE.out.2.2.rules;refine bodyPost_ret (v:=.tuple #[.agg #[Zs none 0 0],Zi Zq at_,Zi Zq q]) (by simp only [results,Tryz.results34];go_simp) rfl ?_;rw [HO.out];exact ⟨none,0,0,rfl,HE.out.1,HE.out.2.1⟩
 ·have HO:=aW (show j5 (p,at_,er)=([],at_,er) by unfold j5;rw [if_neg he]);have heb:(er != 0)=true:=by simpa using he
  have heb2:(er == 0)=false:=by simpa using he
  obtain ⟨c0,f0,l0⟩:=HH1.out.b0.rules;obtain ⟨c1,f1,l1⟩:=HH1.out.b1.rules;have HE:=aW (mt (RR.nil (R:=SR (w1.alloc (.cells #[Zs A n ca] 24)) (λ b=>w.heap.size<b))) (A:=none) (RdF.nil) (n:=0) rfl (Nat.le_refl 0) HH1.out.1 HH1.out.b1 (Zs none 0 0));clear he;go_wp2;obtain ⟨d0,d1,d2⟩:=HE.out.2.2.rules;refine bodyPost_ret (v:=.tuple #[.agg #[Zs none 0 0],Zi Zq at_,Zi Zq er]) (by simp only [results,Tryz.results34];go_simp) rfl ?_;rw [HO.out];exact ⟨none,0,0,rfl,HE.out.1,HE.out.2.1⟩
def t9 (cs:Array Value) (w:World) (e:Ending) (w':World):Prop:=e=.returned (.agg cs)/\Below w.heap.size w w'
theorem gY (s:ByteArray) (w:World):Calls Tryz.prog 40 #[Zt s] w (t9 #[Zi Zq 2,Zi Zq 0,Zi Zq 0,Zt ⟨#[]⟩,Zs none 0 0,Zs none 0 0,Zt s,Zs none 0 0] w):=by
 go_enter Tryz.func40,Tryz.ntmps40;go_wp2;refine bodyPost_ret (v:=.agg #[Zi Zq 2,Zi Zq 0,Zi Zq 0,Zt ⟨#[]⟩,Zs none 0 0,Zs none 0 0,Zt s,Zs none 0 0]) (by simp only [results,Tryz.results40];go_simp) rfl ?_;exact ⟨rfl,by go_grown⟩
theorem pr (A:Option Addr) (n ca:Nat) (w:World):Calls Tryz.prog 35 #[Zs A n ca] w (t9 #[Zs A n ca] w):=by
 go_enter Tryz.func35,Tryz.ntmps35;go_wp2;refine bodyPost_ret (v:=.agg #[Zs A n ca]) (by simp only [results,Tryz.results35];go_simp) rfl ?_;exact ⟨rfl,by go_grown⟩
theorem kA (s:ByteArray) (k k1 n1:Int) (s1:ByteArray) (A1:Option Addr) (na1 ca1:Nat) (B1:Option Addr) (nb1 cb1:Nat) (s2:ByteArray) (A2:Option Addr) (n2 ca2:Nat) (A:Option Addr) (n ca:Nat) (w:World) :
  Calls Tryz.prog 39 #[Zt s,.agg #[Zi Zq k,Zi Zq k1,Zi Zq n1,Zt s1,Zs A1 na1 ca1,Zs B1 nb1 cb1,Zt s2,Zs A2 n2 ca2],Zs A n ca] w
   (t9 #[Zi Zq 3,Zt s,Zi Zq k,Zi Zq k1,Zi Zq n1,Zt s1,Zs A1 na1 ca1,Zs B1 nb1 cb1,Zt s2,Zs A2 n2 ca2,Zi Zq 0,Zi Zq 0,Zi Zq 0,Zt ⟨#[]⟩,Zs none 0 0,Zs none 0 0,Zt ⟨#[]⟩,Zs none 0 0,Zs A n ca,Zs none 0 0] w):=by
 have hWX:∃ W',(w.alloc (.cells #[Zi Zq k,Zi Zq k1,Zi Zq n1,Zt s1,Zs A1 na1 ca1,Zs B1 nb1 cb1,Zt s2,Zs A2 n2 ca2] 45)).alloc (.cells #[Zi Zq 3,Zt s,Zi Zq k,Zi Zq k1,Zi Zq n1,Zt s1,Zs A1 na1 ca1,Zs B1 nb1 cb1,Zt s2,Zs A2 n2 ca2,Zi Zq 0,Zi Zq 0,Zi Zq 0,Zt ⟨#[]⟩,Zs none 0 0,Zs none 0 0,Zt ⟨#[]⟩,Zs none 0 0,Zs A n ca,Zs none 0 0] 48)=W':=⟨_,rfl⟩
 obtain ⟨WE,hWE⟩:=hWX;have hb:Below w.heap.size w WE:=by rw [← hWE];exact ((Below.refl _ w).alloc (Nat.le_refl _) _).alloc (by simp) _
 have hk:Blk WE (w.heap.size+1) 48 #[Zi Zq 3,Zt s,Zi Zq k,Zi Zq k1,Zi Zq n1,Zt s1,Zs A1 na1 ca1,Zs B1 nb1 cb1,Zt s2,Zs A2 n2 ca2,Zi Zq 0,Zi Zq 0,Zi Zq 0,Zt ⟨#[]⟩,Zs none 0 0,Zs none 0 0,Zt ⟨#[]⟩,Zs none 0 0,Zs A n ca,Zs none 0 0]:=by
  have h9:=Blk.new (w.alloc (.cells #[Zi Zq k,Zi Zq k1,Zi Zq n1,Zt s1,Zs A1 na1 ca1,Zs B1 nb1 cb1,Zt s2,Zs A2 n2 ca2] 45)) 48 #[Zi Zq 3,Zt s,Zi Zq k,Zi Zq k1,Zi Zq n1,Zt s1,Zs A1 na1 ca1,Zs B1 nb1 cb1,Zt s2,Zs A2 n2 ca2,Zi Zq 0,Zi Zq 0,Zi Zq 0,Zt ⟨#[]⟩,Zs none 0 0,Zs none 0 0,Zt ⟨#[]⟩,Zs none 0 0,Zs A n ca,Zs none 0 0];simp only [World.size_alloc] at h9;rw [← hWE];exact h9
 have HRS:=aW (show WE.rangeAt (w.heap.size+1) 0 [Zi Zq 3,Zt s,Zi Zq k,Zi Zq k1,Zi Zq n1,Zt s1,Zs A1 na1 ca1,Zs B1 nb1 cb1,Zt s2,Zs A2 n2 ca2,Zi Zq 0,Zi Zq 0,Zi Zq 0,Zt ⟨#[]⟩,Zs none 0 0,Zs none 0 0,Zt ⟨#[]⟩,Zs none 0 0,Zs A n ca,Zs none 0 0] from hk.rangeD 0 20);have HB:=aW hb;have HWE:=aW hWE;clear hWE hb hk;go_enter Tryz.func39,Tryz.ntmps39;go_upto_region 1 with fail
 iterate 13 go_step
 refine bK rfl 48 (.tmp 6) (.tmp 10) rfl _ _ (by simp only [World.size_alloc];rfl) rfl (by kernel_rfl) (by kernel_rfl) (by first | kernel_rfl | simp [Value.oneCell']) ?_;rw [HWE.out];go_wp2_with (refine bodyPost_ret (v:=.agg #[Zi Zq 3,Zt s,Zi Zq k,Zi Zq k1,Zi Zq n1,Zt s1,Zs A1 na1 ca1,Zs B1 nb1 cb1,Zt s2,Zs A2 n2 ca2,Zi Zq 0,Zi Zq 0,Zi Zq 0,Zt ⟨#[]⟩,Zs none 0 0,Zs none 0 0,Zt ⟨#[]⟩,Zs none 0 0,Zs A n ca,Zs none 0 0]) (bV Tryz.results39 rfl (run_loadVar_mid WE (w.heap.size+1) 0 48 _ _ HRS.out Tryz.underlying48 rfl (by kernel_rfl))) rfl ?_);exact ⟨rfl,HB.out⟩
theorem wJ (k k1 n1:Int) (s1:ByteArray) (A1:Option Addr) (na1 ca1:Nat) (B1:Option Addr) (nb1 cb1:Nat) (s2:ByteArray) (A2:Option Addr) (n2 ca2:Nat) (k' k1' n1':Int) (s1':ByteArray) (A1':Option Addr) (na1' ca1':Nat) (B1':Option Addr) (nb1' cb1':Nat) (s2':ByteArray) (A2':Option Addr) (n2' ca2':Nat) (w:World) :
  Calls Tryz.prog 56 #[.agg #[Zi Zq k,Zi Zq k1,Zi Zq n1,Zt s1,Zs A1 na1 ca1,Zs B1 nb1 cb1,Zt s2,Zs A2 n2 ca2],.agg #[Zi Zq k',Zi Zq k1',Zi Zq n1',Zt s1',Zs A1' na1' ca1',Zs B1' nb1' cb1',Zt s2',Zs A2' n2' ca2']] w (t9 #[Zi Zq 1,Zt ⟨#[]⟩,Zi Zq k,Zi Zq k1,Zi Zq n1,Zt s1,Zs A1 na1 ca1,Zs B1 nb1 cb1,Zt s2,Zs A2 n2 ca2,Zi Zq k',Zi Zq k1',Zi Zq n1',Zt s1',Zs A1' na1' ca1',Zs B1' nb1' cb1',Zt s2',Zs A2' n2' ca2',Zs none 0 0,Zs none 0 0] w):=by
 have hWX:∃ W',((w.alloc (.cells #[Zi Zq k,Zi Zq k1,Zi Zq n1,Zt s1,Zs A1 na1 ca1,Zs B1 nb1 cb1,Zt s2,Zs A2 n2 ca2] 45)).alloc (.cells #[Zi Zq k',Zi Zq k1',Zi Zq n1',Zt s1',Zs A1' na1' ca1',Zs B1' nb1' cb1',Zt s2',Zs A2' n2' ca2'] 45)).alloc (.cells #[Zi Zq 1,Zt ⟨#[]⟩,Zi Zq k,Zi Zq k1,Zi Zq n1,Zt s1,Zs A1 na1 ca1,Zs B1 nb1 cb1,Zt s2,Zs A2 n2 ca2,Zi Zq k',Zi Zq k1',Zi Zq n1',Zt s1',Zs A1' na1' ca1',Zs B1' nb1' cb1',Zt s2',Zs A2' n2' ca2',Zs none 0 0,Zs none 0 0] 48)=W':=⟨_,rfl⟩
 obtain ⟨WE,hWE⟩:=hWX;have hb:Below w.heap.size w WE:=by rw [← hWE];exact (((Below.refl _ w).alloc (Nat.le_refl _) _).alloc (by simp) _).alloc (by simp;omega) _
 have hk:Blk WE (w.heap.size+1+1) 48 #[Zi Zq 1,Zt ⟨#[]⟩,Zi Zq k,Zi Zq k1,Zi Zq n1,Zt s1,Zs A1 na1 ca1,Zs B1 nb1 cb1,Zt s2,Zs A2 n2 ca2,Zi Zq k',Zi Zq k1',Zi Zq n1',Zt s1',Zs A1' na1' ca1',Zs B1' nb1' cb1',Zt s2',Zs A2' n2' ca2',Zs none 0 0,Zs none 0 0]:=by
  have h9:=Blk.new ((w.alloc (.cells #[Zi Zq k,Zi Zq k1,Zi Zq n1,Zt s1,Zs A1 na1 ca1,Zs B1 nb1 cb1,Zt s2,Zs A2 n2 ca2] 45)).alloc (.cells #[Zi Zq k',Zi Zq k1',Zi Zq n1',Zt s1',Zs A1' na1' ca1',Zs B1' nb1' cb1',Zt s2',Zs A2' n2' ca2'] 45)) 48 #[Zi Zq 1,Zt ⟨#[]⟩,Zi Zq k,Zi Zq k1,Zi Zq n1,Zt s1,Zs A1 na1 ca1,Zs B1 nb1 cb1,Zt s2,Zs A2 n2 ca2,Zi Zq k',Zi Zq k1',Zi Zq n1',Zt s1',Zs A1' na1' ca1',Zs B1' nb1' cb1',Zt s2',Zs A2' n2' ca2',Zs none 0 0,Zs none 0 0];simp only [World.size_alloc] at h9;rw [← hWE];exact h9
 have HRS:=aW (show WE.rangeAt (w.heap.size+1+1) 0 [Zi Zq 1,Zt ⟨#[]⟩,Zi Zq k,Zi Zq k1,Zi Zq n1,Zt s1,Zs A1 na1 ca1,Zs B1 nb1 cb1,Zt s2,Zs A2 n2 ca2,Zi Zq k',Zi Zq k1',Zi Zq n1',Zt s1',Zs A1' na1' ca1',Zs B1' nb1' cb1',Zt s2',Zs A2' n2' ca2',Zs none 0 0,Zs none 0 0] from hk.rangeD 0 20);have HB:=aW hb;have HWE:=aW hWE;clear hWE hb hk;go_enter Tryz.func56,Tryz.ntmps56;go_upto_region 1 with fail
 iterate 10 go_step
 refine bK rfl 48 (.tmp 4) (.tmp 7) rfl _ _ (by simp only [World.size_alloc];rfl) rfl (by kernel_rfl) (by kernel_rfl) (by first | kernel_rfl | simp [Value.oneCell']) ?_;rw [HWE.out];go_wp2_with (refine bodyPost_ret (v:=.agg #[Zi Zq 1,Zt ⟨#[]⟩,Zi Zq k,Zi Zq k1,Zi Zq n1,Zt s1,Zs A1 na1 ca1,Zs B1 nb1 cb1,Zt s2,Zs A2 n2 ca2,Zi Zq k',Zi Zq k1',Zi Zq n1',Zt s1',Zs A1' na1' ca1',Zs B1' nb1' cb1',Zt s2',Zs A2' n2' ca2',Zs none 0 0,Zs none 0 0]) (bV Tryz.results56 rfl (run_loadVar_mid WE (w.heap.size+1+1) 0 48 _ _ HRS.out Tryz.underlying48 rfl (by kernel_rfl))) rfl ?_);exact ⟨rfl,HB.out⟩
end
section
open Go.RowKit
abbrev tD4:List UInt8:=[100,111,99]
abbrev tX4:List UInt8:=[120]
abbrev tY4:List UInt8:=[121]
abbrev tZ4:List UInt8:=[122]
def w4P:List SJ:=[.mk 3 tX4 (nmE tD4) a8 [.mk 1 [] (nmE tX4) (nmE tY4) [] []] []]
def w4T:List SJ:=[.mk 3 tD4 (nmE tD4) a8 [] []]
def w4L:List SJ:=[.mk 3 tX4 (nmE tD4) a8 [.mk 3 tY4 (nmE tX4) a8 [.mk 3 tZ4 (nmE tY4) a8 [] []] []] []]
def xi:List UInt8:=[101,109,105,116,32,105,100,44,100,111,99,46,118,59]
def xj:List UInt8:=[101,109,105,116,32,49,59]
theorem tY:ff w4P=true:=by kernel_rfl
theorem xZ:cX w4P=340:=by kernel_rfl
theorem ya:cX w4T=341:=by kernel_rfl
theorem x8:cX w4L=342:=by kernel_rfl
theorem vw:gM w4P=[tD4,tY4]:=by rw [← lI];kernel_rfl
theorem tX:dJ w4P=1:=by kernel_rfl
theorem xX:(j5 (cB xi)).2.2=0/\(j5 (cB xi)).1.length=1:=⟨by kernel_rfl,by kernel_rfl⟩
theorem xY:(j5 (cB xj)).2.2=330/\(j5 (cB xj)).2.1=6:=⟨by kernel_rfl,by kernel_rfl⟩
theorem lf (s:List UInt8) (h:s.length<=100):cG (nmE s):=by unfold nmE cG fH;exact ⟨by decide,fJ,by omega,by simp,trivial⟩
theorem m7:aZ w4P:=by
 unfold w4P aZ fI aZ fI aZ;exact ⟨⟨by decide,by decide,lf _ (by decide),cZ,by decide,by decide,⟨⟨by decide,by decide,lf _ (by decide),lf _ (by decide),by decide,by decide,trivial,trivial⟩,trivial⟩,trivial⟩,trivial⟩
theorem vv:aZ w4T:=by
 unfold w4T aZ fI aZ;exact ⟨⟨by decide,by decide,lf _ (by decide),cZ,by decide,by decide,trivial,trivial⟩,trivial⟩
theorem vu:aZ w4L:=by
 unfold w4L aZ fI aZ fI aZ fI aZ;exact ⟨⟨by decide,by decide,lf _ (by decide),cZ,by decide,by decide,⟨⟨by decide,by decide,lf _ (by decide),cZ,by decide,by decide,⟨⟨by decide,by decide,lf _ (by decide),cZ,by decide,by decide,trivial,trivial⟩,trivial⟩,trivial⟩,trivial⟩,trivial⟩,trivial⟩
theorem lg:ap w4P<4194304/\ap w4T<4194304/\ap w4L<4194304:=by decide
end
section
open Go.RowKit Go.Shelf
attribute [local go_sem] ab ae af ac
abbrev nmC (s:ByteArray):List Value:=[Zi Zq 2,Zi Zq 0,Zi Zq 0,Zt ⟨#[]⟩,Zs none 0 0,Zs none 0 0,Zt s,Zs none 0 0]
theorem kB (W:World) (s:List UInt8):ER W TT (nmC ⟨s.toArray⟩) (nmE s):=ER.leaf 2 s VR.zero
theorem gz {W:World} {cs:List Value} {x:SJ} (h:SR W TT cs x):di (W.alloc (.cells cs.toArray 48)) (some ⟨W.heap.size,0,none⟩) 1 1 [x]:=by
 have hb:Below W.heap.size W (W.alloc (.cells cs.toArray 48)):=(Below.refl _ _).alloc (Nat.le_refl _) _;refine ⟨[cs],RR.nil.snoc (h.bel hb),?_,rfl,Nat.le_refl _⟩;rw [List.flatten_singleton];exact RdF.blkN (Blk.new W 48 cs.toArray) trivial
theorem iK {W:World} {s:List UInt8} {acs:List Value} {a:EJ} {A:Option Addr} {n ca:Nat} {l:List SJ} (ha:ER W TT acs a) (h:di W A n ca l) (hA:A=none->ca=0) :
  SR W TT ([Zi Zq 3,Zt ⟨s.toArray⟩]++acs++[Zi Zq 0,Zi Zq 0,Zi Zq 0,Zt ⟨#[]⟩,Zs none 0 0,Zs none 0 0,Zt ⟨#[]⟩,Zs none 0 0]++[Zs A n ca,Zs none 0 0]) (.mk 3 s a a8 l []):=by
 obtain ⟨css,h1,h2,h3,h4⟩:=h;exact SR.into ha ER.zero h1 h3.symm (by rw [h3];exact h4) hA h2 RR.nil rfl (Nat.le_refl _) (λ _=>rfl) RdF.nil
theorem vh {W:World} {acs bcs:List Value} {a b:EJ} (ha:ER W TT acs a) (hb:ER W TT bcs b):SR W TT ([Zi Zq 1,Zt ⟨#[]⟩]++acs++bcs++[Zs none 0 0,Zs none 0 0]) (.mk 1 [] a b [] []) :=
 SR.into (s:=[]) ha hb RR.nil rfl (Nat.le_refl _) (λ _=>rfl) RdF.nil RR.nil rfl (Nat.le_refl _) (λ _=>rfl) RdF.nil
theorem uM (w:World) (hG:GOE w):Calls Tryz.prog 26 #[] w (λ e w'=>e=.returned (.bool true)/\Below w.heap.size w w'):=by
 have HW:=aW (Below.refl w.heap.size w);have HG:=aW hG;have HC1:=aW (show ∀ W,Below w.heap.size w W->Calls Tryz.prog 34 #[Zt ⟨#[101,109,105,116,32,105,100,44,100,111,99,46,118,59]⟩] W (λ e W' => ∃ A ca at_,e=.returned (.tuple #[.agg #[Zs A 1 ca],Zi Zq at_,Zi Zq 0])/\Below W.heap.size W W') from λ W h=>(lC ⟨#[101,109,105,116,32,105,100,44,100,111,99,46,118,59]⟩ W (HG.out.keep h) (by decide)).mono λ e W' ⟨A,n,ca,he,⟨css,_,_,hl,_⟩,hb⟩=>by
  have h1:=xX;rw [show cB xi=cB (sl ⟨#[101,109,105,116,32,105,100,44,100,111,99,46,118,59]⟩) from rfl] at h1;rw [h1.1] at he;rw [h1.2] at hl;subst hl;exact ⟨A,ca,_,he,hb⟩)
 have HC2:=aW (show ∀ W,Below w.heap.size w W->Calls Tryz.prog 34 #[Zt ⟨#[101,109,105,116,32,49,59]⟩] W (λ e W' => ∃ A n ca,e=.returned (.tuple #[.agg #[Zs A n ca],Zi Zq 6,Zi Zq 330])/\Below W.heap.size W W') from λ W h=>(lC ⟨#[101,109,105,116,32,49,59]⟩ W (HG.out.keep h) (by decide)).mono λ e W' ⟨A,n,ca,he,_,hb⟩=>by
  have h1:=xY;rw [show cB xj=cB (sl ⟨#[101,109,105,116,32,49,59]⟩) from rfl] at h1;rw [h1.1,h1.2] at he;exact ⟨A,n,ca,he,hb⟩)
 clear hG;go_enter Tryz.func26,Tryz.ntmps26;go_wp2_with fail;refine (gY _ w).mono ?_;rintro e w1 ⟨rfl,hb1⟩;go_wp2_with fail;refine (gY _ w1).mono ?_;rintro e w2 ⟨rfl,hb2⟩;go_wp2_with fail;refine (gY _ w2).mono ?_;rintro e w3 ⟨rfl,hb3⟩;go_wp2_with fail;refine (wJ _ _ _ _ _ _ _ _ _ _ _ _ _ _ _ _ _ _ _ _ _ _ _ _ _ _ _ _ w3).mono ?_;rintro e w4 ⟨rfl,hb4⟩;have hw4:Below w.heap.size w w4:=((hb1.trans (hb2.mono hb1.size)).trans (hb3.mono (hb1.trans (hb2.mono hb1.size)).size)).trans (hb4.mono ((hb1.trans (hb2.mono hb1.size)).trans (hb3.mono (hb1.trans (hb2.mono hb1.size)).size)).size);obtain ⟨W5,hW5⟩:∃ W5,w4.alloc (.cells #[Zi Zq 1,Zt ⟨#[]⟩,Zi Zq 2,Zi Zq 0,Zi Zq 0,Zt ⟨#[]⟩,Zs none 0 0,Zs none 0 0,Zt ⟨#[120]⟩,Zs none 0 0,Zi Zq 2,Zi Zq 0,Zi Zq 0,Zt ⟨#[]⟩,Zs none 0 0,Zs none 0 0,Zt ⟨#[121]⟩,Zs none 0 0,Zs none 0 0,Zs none 0 0] 48)=W5:=⟨_,rfl⟩
 have hp5:di W5 (some ⟨w4.heap.size,0,none⟩) 1 1 [.mk 1 [] (nmE [120]) (nmE [121]) [] []]:=by
  rw [← hW5];exact gz (vh (kB w4 [120]) (kB w4 [121]))
 have hb5:Below w.heap.size w W5:=by rw [← hW5];exact hw4.alloc hw4.size _
 have HP5:=aW hp5;have HB5:=aW hb5;have HW5:=aW hW5;clear hp5 hb5 hW5 hw4 hb1 hb2 hb3 hb4;go_wp2_with fail;rw [HW5.out];refine (kA _ _ _ _ _ _ _ _ _ _ _ _ _ _ _ _ _ _ W5).mono ?_;rintro e w6 ⟨rfl,hb6⟩;have hw6:Below w.heap.size w w6:=HB5.out.trans (hb6.mono HB5.out.size);obtain ⟨W7,hW7⟩:∃ W7,w6.alloc (.cells #[Zi Zq 3,Zt ⟨#[120]⟩,Zi Zq 2,Zi Zq 0,Zi Zq 0,Zt ⟨#[]⟩,Zs none 0 0,Zs none 0 0,Zt ⟨#[100,111,99]⟩,Zs none 0 0,Zi Zq 0,Zi Zq 0,Zi Zq 0,Zt ⟨#[]⟩,Zs none 0 0,Zs none 0 0,Zt ⟨#[]⟩,Zs none 0 0,Zs (some ⟨w4.heap.size,0,none⟩) 1 1,Zs none 0 0] 48)=W7:=⟨_,rfl⟩
 have HP7:=aW (show di W7 (some ⟨w6.heap.size,0,none⟩) 1 1 w4P by
  rw [← hW7];exact gz (iK (s:=[120]) (kB w6 [100,111,99]) (HP5.out.bel hb6) (λ e=>by cases e)))
 have hb7:Below w.heap.size w W7:=by rw [← hW7];exact hw6.alloc hw6.size _
 have HB7:=aW hb7;have HW7:=aW hW7;clear hb7 hW7 hw6 hb6 HP5 HB5 HW5;go_wp2_with fail;rw [HW7.out];obtain ⟨b6,hb6⟩:∃ b,w6.heap.size=b:=⟨_,rfl⟩
 rw [hb6] at HP7;have HB6:=aW hb6;clear hb6;refine (pr _ _ _ W7).mono ?_;rintro e w8 ⟨rfl,hb8⟩;rw [HB6.out];have hw8:Below w.heap.size w w8:=HB7.out.trans (hb8.mono HB7.out.size);have HH:=aW (show aH [(w8.heap.size,24,#[Zs (some ⟨b6,0,none⟩) 1 1])] w (w8.alloc (.cells #[Zs (some ⟨b6,0,none⟩) 1 1] 24)) from ⟨hw8.alloc hw8.size _,λ x hx=>by
  obtain rfl:=List.mem_singleton.1 hx;exact Blk.new _ _ _⟩)
 have HP9:=aW ((HP7.out.bel hb8).bel (W':=w8.alloc (.cells #[Zs (some ⟨b6,0,none⟩) 1 1] 24)) ((Below.refl _ _).alloc (Nat.le_refl _) _));clear hw8 hb8 HP7 HB7 HW7;obtain ⟨W9,hW9⟩:∃ W9,w8.alloc (.cells #[Zs (some ⟨b6,0,none⟩) 1 1] 24)=W9:=⟨_,rfl⟩
 rw [hW9] at HH HP9;have HW9:=aW hW9;clear hW9;go_upto_region 2 with fail;rw [HW9.out];obtain ⟨g1,hg1⟩:∃ z,w8.heap.size=z:=⟨_,rfl⟩
 try rw [hg1]
 rw [hg1] at HH;clear hg1 HW9;obtain ⟨c0,f0,l0⟩:=HH.out.b0.rules;go_wp2_with fail;refine (sM HP9.out (HG.out.keep HH.out.1) m7 lg.1).mono ?_;rintro e wA ⟨A2,n2,c2,rfl,hrow,hbA⟩;rw [show dV w4P=0 from rfl];rw [tY,if_pos rfl,vw] at hrow;have HHA:=aW (HH.out.keep hbA);have HPA:=aW (HP9.out.bel hbA);have hn2:n2=2:=hrow.1.symm;subst hn2;have HRA:=aW (show RdF wA (λ _=>True) A2 (ar [[100,111,99],[121]]) from hrow.2.2.2.mono λ _ _ _=>trivial);have hc2:2<=c2:=hrow.2.1;clear hbA hrow c0 f0 l0 HH HP9;obtain ⟨c0,f0,l0⟩:=HHA.out.b0.rules;go_wp2_with fail;refine (qi HPA.out (HG.out.keep HHA.out.1) m7 lg.1).mono ?_;rintro e wB ⟨rfl,hbB⟩;rw [show dV w4P=0 from rfl,tY,if_pos rfl,tX];have HHB:=aW (HHA.out.keep hbB);have HPB:=aW (HPA.out.bel hbB);have HRB:=aW (HRA.out.keep (aj.of_below hbB));clear hbB c0 f0 l0 HHA HPA HRA;go_wp2_with fail;refine (HC1.out wB HHB.out.1).mono ?_;rintro e wC ⟨A3,c3,at3,rfl,hbC⟩;have HHC:=aW ((HHB.out.keep hbC).push 24 #[Zs A3 1 c3] (g:=wC.heap.size) rfl);have HPC:=aW ((HPB.out.bel hbC).bel (W':=wC.alloc (.cells #[Zs A3 1 c3] 24)) ((Below.refl _ _).alloc (Nat.le_refl _) _));have HRC:=aW ((HRB.out.keep (aj.of_below hbC)).keep (aj.of_below ((Below.refl _ wC).alloc (Nat.le_refl _) (.cells #[Zs A3 1 c3] 24))));obtain ⟨WC,hWC⟩:∃ W,wC.alloc (.cells #[Zs A3 1 c3] 24)=W:=⟨_,rfl⟩
 obtain ⟨g6,hg6⟩:∃ z,wC.heap.size=z:=⟨_,rfl⟩
 rw [hWC] at HHC HPC HRC;rw [hg6] at HHC;have HWC:=aW hWC;have HG6:=aW hg6;clear hbC hWC hg6 HHB HPB HRB;go_upto_region 5 with fail;rw [HWC.out]
 try rw [HG6.out]
 clear HWC HG6;go_wp2_with fail;refine (HC2.out WC HHC.out.1).mono ?_;rintro e wD ⟨A4,n4,c4,rfl,hbD⟩;have HHD:=aW ((HHC.out.keep hbD).alloc (.cells #[Zs A4 n4 c4] 24));have HPD:=aW ((HPC.out.bel hbD).bel (W':=wD.alloc (.cells #[Zs A4 n4 c4] 24)) ((Below.refl _ _).alloc (Nat.le_refl _) _));have HRD:=aW ((HRC.out.keep (aj.of_below hbD)).keep (aj.of_below ((Below.refl _ wD).alloc (Nat.le_refl _) (.cells #[Zs A4 n4 c4] 24))));obtain ⟨WD,hWD⟩:∃ W,wD.alloc (.cells #[Zs A4 n4 c4] 24)=W:=⟨_,rfl⟩
 rw [hWD] at HHD HPD HRD;have HWD:=aW hWD;clear hbD hWD HHC HPC HRC;go_upto_region 6 with fail;rw [HWD.out];clear HWD;obtain ⟨c0,f0,l0⟩:=HHD.out.b1.rules;go_wp2_with fail;refine (iB HPD.out (HG.out.keep HHD.out.1) m7 lg.1).mono ?_;rw [xZ];rintro e wE ⟨rfl,hbE⟩;have HHE:=aW (HHD.out.keep hbE);have HRE:=aW (HRD.out.keep (aj.of_below hbE));clear hbE c0 f0 l0 HHD HPD HRD;go_wp2_with fail;have hbE:=HHE.out.alloc (.cells #[Zt ⟨#[100,111,99]⟩,Zt ⟨#[121]⟩] 9);have hrE:Rd (wE.alloc (.cells #[Zt ⟨#[100,111,99]⟩,Zt ⟨#[121]⟩] 9)) (some ⟨wE.heap.size,0,none⟩) (ar [[100,111,99],[121]]):=Rd.of_blk (Blk.new wE 9 #[Zt ⟨#[100,111,99]⟩,Zt ⟨#[121]⟩]);refine (iM A2 _ 2 2 c2 2 [[100,111,99],[121]] [[100,111,99],[121]] _ rfl rfl (HRE.out.rd.alloc _) hrE hc2 (Nat.le_refl _) (by decide) (by decide)).mono ?_;rintro e wF ⟨rfl,q,rfl⟩;rw [decide_eq_true (show ([[100,111,99],[121]]:List (List UInt8))=[[100,111,99],[121]] from rfl)];have HHF:=aW (hbE.drewN q);obtain ⟨WF,hWF⟩:∃ W,(wE.alloc (.cells #[Zt ⟨#[100,111,99]⟩,Zt ⟨#[121]⟩] 9)).drewN q=W:=⟨_,rfl⟩
 rw [hWF] at HHF ⊢;clear hWF hbE hrE HRE HHE;obtain ⟨c0,f0,l0⟩:=HHF.out.b0.rules;have HB:=aW HHF.out.1;go_wp2_with fail;clear c0 f0 l0 HHF;refine (gY _ WF).mono ?_;rintro e v1 ⟨rfl,hb⟩;replace HB:=aW (HB.out.trans (hb.mono HB.out.size));clear hb;go_wp2_with fail;refine (kA _ _ _ _ _ _ _ _ _ _ _ _ _ _ _ _ _ _ v1).mono ?_;rintro e v2 ⟨rfl,hb⟩;obtain ⟨V2,hV2⟩:∃ W,v2.alloc (.cells #[Zi Zq 3,Zt ⟨#[100,111,99]⟩,Zi Zq 2,Zi Zq 0,Zi Zq 0,Zt ⟨#[]⟩,Zs none 0 0,Zs none 0 0,Zt ⟨#[100,111,99]⟩,Zs none 0 0,Zi Zq 0,Zi Zq 0,Zi Zq 0,Zt ⟨#[]⟩,Zs none 0 0,Zs none 0 0,Zt ⟨#[]⟩,Zs none 0 0,Zs none 0 0,Zs none 0 0] 48)=W:=⟨_,rfl⟩
 have HV2:=aW hV2;have PV2:=aW (show di V2 (some ⟨v2.heap.size,0,none⟩) 1 1 _ by
  rw [← hV2];exact gz (iK (s:=[100,111,99]) (kB v2 [100,111,99]) (di.nil_ _) (λ _=>rfl)))
 replace HB:=aW (show Below w.heap.size w V2 by rw [← hV2];exact (HB.out.trans (hb.mono HB.out.size)).alloc (HB.out.trans (hb.mono HB.out.size)).size _);clear hb hV2;go_wp2_with fail;rw [HV2.out];obtain ⟨bV2,hbV2⟩:∃ b,v2.heap.size=b:=⟨_,rfl⟩
 rw [hbV2] at PV2
 try rw [hbV2]
 have HSV2:=aW hbV2;clear hbV2 HV2;refine (pr _ _ _ V2).mono ?_;rintro e v3 ⟨rfl,hb⟩
 try rw [HSV2.out]
 replace HB:=aW (HB.out.trans (hb.mono HB.out.size));have Pv3:=aW (show di v3 (some ⟨bV2,0,none⟩) 1 1 w4T from PV2.out.bel hb);clear hb;go_wp2_with fail
 try rw [HSV2.out]
 refine (iB Pv3.out (HG.out.keep HB.out) vv lg.2.1).mono ?_;rw [ya];rintro e v4 ⟨rfl,hb⟩;replace HB:=aW (HB.out.trans (hb.mono HB.out.size));clear hb;go_wp2_with fail;refine (gY _ v4).mono ?_;rintro e v5 ⟨rfl,hb⟩;replace HB:=aW (HB.out.trans (hb.mono HB.out.size));clear hb;go_wp2_with fail;refine (gY _ v5).mono ?_;rintro e v6 ⟨rfl,hb⟩;replace HB:=aW (HB.out.trans (hb.mono HB.out.size));clear hb;go_wp2_with fail;refine (gY _ v6).mono ?_;rintro e v7 ⟨rfl,hb⟩;replace HB:=aW (HB.out.trans (hb.mono HB.out.size));clear hb;go_wp2_with fail;refine (kA _ _ _ _ _ _ _ _ _ _ _ _ _ _ _ _ _ _ v7).mono ?_;rintro e v8 ⟨rfl,hb⟩;obtain ⟨V8,hV8⟩:∃ W,v8.alloc (.cells #[Zi Zq 3,Zt ⟨#[122]⟩,Zi Zq 2,Zi Zq 0,Zi Zq 0,Zt ⟨#[]⟩,Zs none 0 0,Zs none 0 0,Zt ⟨#[121]⟩,Zs none 0 0,Zi Zq 0,Zi Zq 0,Zi Zq 0,Zt ⟨#[]⟩,Zs none 0 0,Zs none 0 0,Zt ⟨#[]⟩,Zs none 0 0,Zs none 0 0,Zs none 0 0] 48)=W:=⟨_,rfl⟩
 have HV8:=aW hV8;have PV8:=aW (show di V8 (some ⟨v8.heap.size,0,none⟩) 1 1 _ by
  rw [← hV8];exact gz (iK (s:=[122]) (kB v8 [121]) (di.nil_ _) (λ _=>rfl)))
 replace HB:=aW (show Below w.heap.size w V8 by rw [← hV8];exact (HB.out.trans (hb.mono HB.out.size)).alloc (HB.out.trans (hb.mono HB.out.size)).size _);clear hb hV8;go_wp2_with fail;rw [HV8.out];obtain ⟨bV8,hbV8⟩:∃ b,v8.heap.size=b:=⟨_,rfl⟩
 rw [hbV8] at PV8
 try rw [hbV8]
 have HSV8:=aW hbV8;clear hbV8 HV8
 try rw [HSV8.out]
 refine (kA _ _ _ _ _ _ _ _ _ _ _ _ _ _ _ _ _ _ V8).mono ?_;rintro e v9 ⟨rfl,hb⟩;obtain ⟨V9,hV9⟩:∃ W,v9.alloc (.cells #[Zi Zq 3,Zt ⟨#[121]⟩,Zi Zq 2,Zi Zq 0,Zi Zq 0,Zt ⟨#[]⟩,Zs none 0 0,Zs none 0 0,Zt ⟨#[120]⟩,Zs none 0 0,Zi Zq 0,Zi Zq 0,Zi Zq 0,Zt ⟨#[]⟩,Zs none 0 0,Zs none 0 0,Zt ⟨#[]⟩,Zs none 0 0,Zs (some ⟨bV8,0,none⟩) 1 1,Zs none 0 0] 48)=W:=⟨_,rfl⟩
 have HV9:=aW hV9;have PV9:=aW (show di V9 (some ⟨v9.heap.size,0,none⟩) 1 1 _ by
  rw [← hV9];exact gz (iK (s:=[121]) (kB v9 [120]) (PV8.out.bel hb) (λ e=>by cases e)))
 replace HB:=aW (show Below w.heap.size w V9 by rw [← hV9];exact (HB.out.trans (hb.mono HB.out.size)).alloc (HB.out.trans (hb.mono HB.out.size)).size _);clear hb hV9;go_wp2_with fail;rw [HV9.out];obtain ⟨bV9,hbV9⟩:∃ b,v9.heap.size=b:=⟨_,rfl⟩
 rw [hbV9] at PV9
 try rw [hbV9]
 have HSV9:=aW hbV9;clear hbV9 HV9;refine (kA _ _ _ _ _ _ _ _ _ _ _ _ _ _ _ _ _ _ V9).mono ?_;rintro e v10 ⟨rfl,hb⟩;obtain ⟨V10,hV10⟩:∃ W,v10.alloc (.cells #[Zi Zq 3,Zt ⟨#[120]⟩,Zi Zq 2,Zi Zq 0,Zi Zq 0,Zt ⟨#[]⟩,Zs none 0 0,Zs none 0 0,Zt ⟨#[100,111,99]⟩,Zs none 0 0,Zi Zq 0,Zi Zq 0,Zi Zq 0,Zt ⟨#[]⟩,Zs none 0 0,Zs none 0 0,Zt ⟨#[]⟩,Zs none 0 0,Zs (some ⟨bV9,0,none⟩) 1 1,Zs none 0 0] 48)=W:=⟨_,rfl⟩
 have HV10:=aW hV10;have PV10:=aW (show di V10 (some ⟨v10.heap.size,0,none⟩) 1 1 _ by
  rw [← hV10];exact gz (iK (s:=[120]) (kB v10 [100,111,99]) (PV9.out.bel hb) (λ e=>by cases e)))
 replace HB:=aW (show Below w.heap.size w V10 by rw [← hV10];exact (HB.out.trans (hb.mono HB.out.size)).alloc (HB.out.trans (hb.mono HB.out.size)).size _);clear hb hV10;go_wp2_with fail;rw [HV10.out];obtain ⟨bV10,hbV10⟩:∃ b,v10.heap.size=b:=⟨_,rfl⟩
 rw [hbV10] at PV10
 try rw [hbV10]
 have HSV10:=aW hbV10;clear hbV10 HV10;refine (pr _ _ _ V10).mono ?_;rintro e v11 ⟨rfl,hb⟩
 try rw [HSV10.out]
 replace HB:=aW (HB.out.trans (hb.mono HB.out.size));have Pv11:=aW (show di v11 (some ⟨bV10,0,none⟩) 1 1 w4L from PV10.out.bel hb);clear hb;go_wp2_with fail
 try rw [HSV10.out]
 refine (iB Pv11.out (HG.out.keep HB.out) vu lg.2.2).mono ?_;rw [x8];rintro e v12 ⟨rfl,hb⟩;replace HB:=aW (HB.out.trans (hb.mono HB.out.size));clear hb;go_wp2;go_ret;exact ⟨rfl,HB.out⟩
end
section
open Go.RowKit
attribute [local go_sem] ab ae af ac
theorem ws {w:World} {A:Option Addr} {ca:Nat} {l:List SJ} (h:vP w A ca l):di w A l.length ca l/\(A=none->ca=0):=by
 obtain ⟨css,h1,hc,hA,h2⟩:=h;exact ⟨⟨css,RR.imp h1 λ c x hx=>hx.mono λ _ _ _=>trivial,h2.mono λ _ _ _=>trivial,rfl,hc⟩,hA⟩
theorem va (l:List (List UInt8)) (t:List UInt8) (A:Option Addr) (n ca:Nat) (w:World) (hl:l.length=n) (hn:n<=4194304) (hR:Rd w A (ar l)) :
  Calls Tryz.prog 98 #[Zs A n ca,Zt ⟨t.toArray⟩] w λ e w'=>e=.returned (.bool (decide (t ∈ l)))/\w'=w:=by
 have HR:=aW hR;have HL:=aW hl;clear hR hl;go_enter Tryz.func98,Tryz.ntmps98;go_wp2_with fail;go_loopg [5] n (λ gk s5 wr => ∃ i:Nat,i<=n/\gk=n-i/\s5=Zi Zq (i:Int)/\wr=w/\Hid (∀ j s,j<i->l[j]? = some s->s≠t))
 case atStart=>exact ⟨0,Nat.zero_le _,rfl,by go_num,rfl,aW (λ j s h=>by omega)⟩
 case round =>
  obtain ⟨i,hi,hgk,rfl,rfl,HNO⟩:=hrel;have HG:=aW hgk;clear hgk;by_cases hlt:i<n
  ·obtain ⟨s,hs⟩:∃ s,l[i]? = some s:=⟨_,List.getElem?_eq_getElem (by rw [HL.out];exact hlt)⟩
   obtain ⟨b,o,rfl,hb,hz⟩:=HR.out (by intro e;have:=congrArg List.length e;rw [av,HL.out] at this;simp at this;omega);have hz9:=hz i (by rw [av,HL.out];exact hlt);have x0:wr.cell? ⟨b,o+i,none⟩=some (Zt ⟨s.toArray⟩):=by
    rw [hz9];have hs9:=(List.getElem?_eq_some_iff.1 hs).2;simp [ar,hs9]
   have HS:=aW hs;obtain ⟨c,hc⟩:∃ c,(s == t)=c:=⟨_,rfl⟩
   have HC:=aW (show c=true ↔ s=t by rw [← hc];simp);have hsq:((⟨s.toArray⟩:ByteArray).toList == (⟨t.toArray⟩:ByteArray).toList)=c:=by rw [pP,pP];exact hc
   clear hz hz9 hs;cases c
   ·have hne:s≠t:=λ e=>by have:=HC.out.2 e;cases this
    go_wp2_with fail;go_roundg (n-(i+1))
    case measure=>rw [HG.out];omega
    case rel =>
     refine ⟨i+1,hlt,rfl,by go_num,rfl,aW λ j s' hj hs'=>?_⟩;rcases Nat.lt_or_ge j i with h | h
     ·exact HNO.out j s' h hs'
     ·obtain rfl:j=i:=by omega
      rw [HS.out] at hs';injection hs' with hs'
      rw [← hs'];exact hne
   ·have hm:t ∈ l:=(HC.out.1 rfl) ▸ List.mem_of_getElem? HS.out;go_wp2_with fail;go_ret;exact ⟨rfl,rfl⟩
  ·obtain rfl:i=n:=by omega
   have hm:t ∉ l:=λ h=>by
    obtain ⟨j,hj⟩:=List.getElem?_of_mem h;have hj9:=(List.getElem?_eq_some_iff.1 hj).1;exact absurd rfl (HNO.out j t (by rw [← HL.out];exact hj9) hj)
   go_wp2_with fail;go_ret;exact ⟨congrArg (λ b=>Ending.returned (.bool b)) (decide_eq_false hm).symm,rfl⟩
def qL (l:List (List UInt8)) (w:World) (e:Ending) (w':World):Prop:=∃ v,e=.returned v/\w'.ownsRow w.heap.size 9 1 v l.length (ar l)/\Below w.heap.size w w'
theorem gg (a b:List (List UInt8)):ar (a++b)=ar a++ar b:=by simp [ar]
theorem kL (l:List (List UInt8)) (t:List UInt8) (A:Option Addr) (n ca:Nat) (w:World) (hl:l.length=n) (hn:n<=4194304) (hA:A=none->n=0) (hR:Rd w A (ar l)) :
  Calls Tryz.prog 99 #[Zs A n ca,Zt ⟨t.toArray⟩] w (qL (l++[t]) w):=by
 obtain ⟨i0,hi,hz,h1,h2⟩:=fd;have HI:=aW (And.intro hi (And.intro hz (And.intro h1 h2)));have HR:=aW hR;have HL:=aW hl;have HN:=aW (World.ownsRow_nil w w.heap.size 9 1);clear hi hz h1 h2 hR hl;go_enter Tryz.func99,Tryz.ntmps99;go_upto_region 3 with (at_builtin;refine aD _ rfl (.tmp 6) (.tmp 7) 40 rfl w.heap.size 9 i0 _ 1 16 Tryz.underlying40 HI.out.1 HI.out.2.1 HI.out.2.2.1 HI.out.2.2.2 rfl (by decide) (Zs none 0 0) 0 [] (by rfl) HN.out A n ca hA (ar l) (by rfl) (by rw [av,HL.out];omega) HR.out (cg _) (by unfold maxLen;omega) (by omega) (Nat.le_refl _) ?_;intro row w1 hown hgr _);have HO:=aW (show w1.ownsRow w.heap.size 9 1 row n (ar l) by simpa using hown);have HB:=aW (show Below w.heap.size w w1 from (Below.refl _ w).grown hgr (Nat.le_refl _) (λ k e=>(HN.out.lt k e).1));obtain ⟨gA,hgA⟩:∃ z,w1.heap.size=z:=⟨_,rfl⟩
 obtain ⟨xA,hxA⟩:∃ z,w1.alloc (.cells #[Zt ⟨t.toArray⟩] 9)=z:=⟨_,rfl⟩
 have HBA:=aW (show Below w.heap.size w xA by rw [← hxA];exact HB.out.alloc HB.out.size _);have HOA:=aW (show xA.ownsRow w.heap.size 9 1 row n (ar l) by rw [← hxA];exact HO.out.alloc _);have HRD:=aW (show Rd xA (some ⟨gA,0,none⟩) (ar [t]) by rw [← hxA,← hgA];exact Rd.of_blk (Blk.new w1 9 _));have HXA:=aW (And.intro hxA hgA);clear hown hgr hxA hgA HB HO;go_wp2_with (at_builtin;rw [HXA.out.1,HXA.out.2];refine aD _ rfl (.tmp 9) (.tmp 11) 40 rfl w.heap.size 9 i0 _ 1 16 Tryz.underlying40 HI.out.1 HI.out.2.1 HI.out.2.2.1 HI.out.2.2.2 rfl (by decide) row n (ar l) (by rfl) HOA.out (some ⟨gA,0,none⟩) 1 1 (λ e=>by cases e) (ar [t]) (by rfl) (by rfl) HRD.out (cg _) (by unfold maxLen;omega) (by omega) HBA.out.size ?_;intro row2 w2 hown hgr _);go_ret;refine ⟨row2,rfl,?_,HBA.out.grown hgr HBA.out.size (λ k e=>(HOA.out.lt k e).1)⟩;rw [List.length_append,HL.out,gg];exact hown
theorem et {w:World} {base b':Nat} {e:TypeId} {size n:Nat} {v:Value} {xs:List Value} (h:w.ownsRow base e size v n xs) (hb:b'<=base):w.ownsRow b' e size v n xs:=by
 obtain ⟨h1,h2 | ⟨g,cap,cs,h3,h4,rest⟩⟩:=h
 ·exact ⟨h1,.inl h2⟩
 ·exact ⟨h1,.inr ⟨g,cap,cs,h3,Nat.le_trans hb h4,rest⟩⟩
theorem ga {W:World} {A:Option Addr} {n:Nat} {xs:List Value} (hl:xs.length=n) (h:Rd W A xs) (e:A=none):n=0:=by
 rcases Nat.eq_zero_or_pos n with h0 | h0
 ·exact h0
 ·obtain ⟨b,o,e2,_⟩:=h (by intro e9;rw [e9] at hl;simp at hl;omega);rw [e] at e2;cases e2
def rQ (M:Nat):Prop:=∀ (x:EJ) (cs:List Value) (w:World),bG x<M->ER w TT cs x->Calls Tryz.prog 97 #[.agg cs.toArray] w (qL (aF x) w)
theorem tz (M:Nat) (hM4:M<=4194304) (ih:rQ M):rQ (M+1):=by
 rintro ⟨k,v,s,kids⟩ cs w hM hv;obtain ⟨k1,n1,s1,A1,na1,ca1,B1,nb1,cb1,A,ca,css,rfl,hv1,h1,h2,h3,h4⟩:=hv.out;have HIH:=aW (λ (i:Nat) (x:EJ) (hx:kids[i]? = some x)=>gU h1 h4 hx);have hkl:=jp kids;have HKD:=aW (λ (i:Nat) (x:EJ) (hx:kids[i]? = some x)=>oG (k:=k) (v:=v) (s:=s) hx);have HLE:=aW (λ (i:Nat)=>show (aK (kids.take i)).length<=bG (.mk k v s kids) from by
  have e:aK kids=aK (kids.take i)++aK (kids.drop i):=by rw [← gD,List.take_append_drop]
  have h5:=jh kids;rw [e,List.length_append] at h5;rw [bG];omega)
 have hsz:kids.length<=4194304:=by rw [bG] at hM;omega
 obtain ⟨nk,hnk⟩:∃ nk,kids.length=nk:=⟨_,rfl⟩
 rw [hnk] at h2 hkl hsz;rw [hnk];have HNX:=aW (show aF (.mk k v s kids)=aK kids++(if k=2 then [s] else []) from rfl);have HNL:=aW (show (aF (.mk k v s kids)).length<=4194304 from by have:=bj (.mk k v s kids);omega);have hb1:=(Below.refl w.heap.size w).alloc (Nat.le_refl _) (.cells #[Zi Zq k,Zi Zq k1,Zi Zq n1,Zt s1,Zs A1 na1 ca1,Zs B1 nb1 cb1,Zt ⟨s.toArray⟩,Zs A nk ca] 45);have hbk:=Blk.new w 45 #[Zi Zq k,Zi Zq k1,Zi Zq n1,Zt s1,Zs A1 na1 ca1,Zs B1 nb1 cb1,Zt ⟨s.toArray⟩,Zs A nk ca];obtain ⟨w1,hw1⟩:∃ w1,w.alloc (.cells #[Zi Zq k,Zi Zq k1,Zi Zq n1,Zt s1,Zs A1 na1 ca1,Zs B1 nb1 cb1,Zt ⟨s.toArray⟩,Zs A nk ca] 45)=w1:=⟨_,rfl⟩
 rw [hw1] at hb1 hbk;have HW:=aW hw1;have HB1:=aW hb1;have HK1:=aW hbk;have HNK:=aW hnk;have HI:=aW ih;have HM:=aW hM;obtain ⟨i0,hi,hz,hs1,hs2⟩:=fd;have HII:=aW (And.intro hi (And.intro hz (And.intro hs1 hs2)));have HN0:=aW (World.ownsRow_nil w1 w1.heap.size 9 1);clear hw1 hb1 hbk hnk ih hM hi hz hs1 hs2 hv hv1 h1 h3 h4 hkl;go_enter Tryz.func97,Tryz.ntmps97;go_wp2_with fail;rw [HW.out];go_loopg [3,4] nk (λ gk s3 s4 wr => ∃ i:Nat,i<=nk/\gk=nk-i/\s4=Zi Zq (i:Int)/\Hid (wr.ownsRow w1.heap.size 9 1 s3 (aK (kids.take i)).length (ar (aK (kids.take i))))/\Hid (Below w1.heap.size w1 wr))
 case atStart=>exact ⟨0,Nat.zero_le _,rfl,by go_num,aW HN0.out,aW (Below.refl _ _)⟩
 case round =>
  obtain ⟨i,hi,hgk,rfl,HO,HB⟩:=hrel;have HGK:=aW hgk;clear hgk HN0;have HKr:=aW (HK1.out.keep HB.out);obtain ⟨c1,f1,l1⟩:=HKr.out.rules;by_cases hlt:i<nk
  ·obtain ⟨x,hx⟩:∃ x,kids[i]? = some x:=⟨_,List.getElem?_eq_getElem (by rw [HNK.out];exact hlt)⟩
   have HX:=aW hx;obtain ⟨b,o,kx,k1x,n1x,s1x,A1x,na1x,ca1x,B1x,nb1x,cb1x,sx,A2x,n2x,ca2x,rfl,hb,hvx,hz⟩:=HIH.out i x hx;have HWB:=aW (HB1.out.trans (HB.out.mono HB1.out.size));obtain ⟨z0,z1,z2,z3,z4,z5,z6,z7⟩:=hz wr HWB.out;have HCL:=aW (HI.out x _ wr (by have:=HKD.out i x hx;have:=HM.out;omega) (hvx.bel HWB.out));obtain ⟨nr,hnr⟩:∃ z,(aK (kids.take i)).length=z:=⟨_,rfl⟩
   have hnr4:nr<=4194304:=by have:=HLE.out i;have:=HM.out;omega
   have hnx4:(aF x).length<=4194304:=by have:=bj x;have:=HKD.out i x hx;have:=HM.out;omega
   rw [hnr] at HO;have HNR:=aW hnr;clear hnr hx hz hvx;go_upto_region 5 with fail;go_wp2_with fail;refine HCL.out.mono ?_;rintro e w2 ⟨v2,rfl,hown2,hb2⟩;obtain ⟨B,cb,rfl,hcb,hrd2⟩:=Rd.of_own hown2;have HB2:=aW (HB.out.trans (hb2.mono HB.out.size));have HO2:=aW (show w2.ownsRow w1.heap.size 9 1 u3 nr (ar (aK (kids.take i))) from py HO.out hb2);have HR2:=aW hrd2;clear hown2 hb2 hrd2 HO HB HCL;go_wp2_with (at_builtin;refine aD _ rfl (.tmp 12) (.tmp 18) 40 rfl w1.heap.size 9 i0 _ 1 16 Tryz.underlying40 HII.out.1 HII.out.2.1 HII.out.2.2.1 HII.out.2.2.2 rfl (by decide) u3 nr (ar (aK (kids.take i))) (by rfl) HO2.out B (aF x).length cb (ga (av _) HR2.out) (ar (aF x)) (by rfl) (by rw [av];omega) HR2.out (cg _) (by unfold maxLen;omega) (by omega) HB2.out.size ?_;intro row w3 hown hgr _);go_roundg (nk-(i+1))
   case measure=>have:=HGK.out;omega
   case rel =>
    refine ⟨i+1,hlt,rfl,by go_num,aW ?_,aW (HB2.out.grown hgr HB2.out.size (λ k e=>(HO2.out.lt k e).1))⟩;rw [(iF HX.out).1,List.length_append,HNR.out,gg];exact hown
  ·obtain rfl:i=nk:=by omega
   have htk:kids.take i=kids:=List.take_of_length_le (by rw [HNK.out];exact Nat.le_refl _);rw [htk] at HO;clear htk;by_cases hk:k=2
   ·subst hk;obtain ⟨gA,hgA⟩:∃ z,wr.heap.size=z:=⟨_,rfl⟩
    obtain ⟨xA,hxA⟩:∃ z,wr.alloc (.cells #[Zt ⟨s.toArray⟩] 9)=z:=⟨_,rfl⟩
    have HBA:=aW (show Below w1.heap.size w1 xA by rw [← hxA];exact HB.out.alloc HB.out.size _);obtain ⟨nr,hnr⟩:∃ z,(aK kids).length=z:=⟨_,rfl⟩
    rw [hnr] at HO;have hnr4:nr<=4194304:=by have h5:=HNL.out;rw [HNX.out,List.length_append,hnr] at h5;omega
    have HNR:=aW hnr;have HOA:=aW (show xA.ownsRow w1.heap.size 9 1 u3 nr (ar (aK kids)) by rw [← hxA];exact HO.out.alloc _);have HRD:=aW (show Rd xA (some ⟨gA,0,none⟩) (ar [s]) by rw [← hxA,← hgA];exact Rd.of_blk (Blk.new wr 9 _));have HXA:=aW (And.intro hxA hgA);clear hxA hgA HB HO hnr;go_wp2_with (at_builtin;rw [HXA.out.1,HXA.out.2];refine aD _ rfl (.tmp 23) (.tmp 26) 40 rfl w1.heap.size 9 i0 _ 1 16 Tryz.underlying40 HII.out.1 HII.out.2.1 HII.out.2.2.1 HII.out.2.2.2 rfl (by decide) u3 nr (ar (aK kids)) (by rfl) HOA.out (some ⟨gA,0,none⟩) 1 1 (λ e=>by cases e) (ar [s]) (by rfl) (by rfl) HRD.out (cg _) (by unfold maxLen;omega) (by omega) HBA.out.size ?_;intro row2 w2 hown hgr _);go_ret;have hbE:=HBA.out.grown hgr HBA.out.size (λ k e=>(HOA.out.lt k e).1);refine ⟨row2,rfl,et ?_ HB1.out.size,HB1.out.trans (hbE.mono HB1.out.size)⟩;rw [HNX.out,if_pos (by trivial),List.length_append,HNR.out,gg];exact hown
   ·have hkb:(k == 2)=false:=by simpa using hk
    go_wp2_with fail;go_ret;refine ⟨u3,rfl,et ?_ HB1.out.size,HB1.out.trans (HB.out.mono HB1.out.size)⟩;rw [HNX.out,if_neg hk,List.append_nil];exact HO.out
theorem iH:∀ M,M<=4194304->rQ M
 | 0,_=>λ x cs w hM=>absurd hM (Nat.not_lt_zero _)
 | M+1,h=>tz M (by omega) (iH M (by omega))
end
end Go.Proofs.YtgmnmnnoahdjnaaGreatDoor
