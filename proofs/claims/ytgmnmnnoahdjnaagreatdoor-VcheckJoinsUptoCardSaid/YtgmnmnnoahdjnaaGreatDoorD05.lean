import Derived.Test.YtgmnmnnoahdjnaaGreatDoorC45
import Derived.Test.YtgmnmnnoahdjnaaGreatDoorD04
import Derived.Test.YtgmnmnnoahdjnaaGreatDoorD03
open Go.Value renaming int → Zi, slice → Zs, string → Zt, pointer → Zp
open Go.IntKind renaming i64 → Zq
set_option maxRecDepth 100000
set_option maxHeartbeats 16000000
set_option linter.unusedVariables false
set_option linter.unusedSimpArgs false
namespace Go.Proofs.YtgmnmnnoahdjnaaGreatDoor
section
open Go.RowKit
attribute [local go_sem] aa ac ae ab
theorem BO {o:Option TypeInfo} {z:Value} {a b:Nat} (h:o.map (λ i=>(i.zero,i.size,i.bytes))=some (some z,a,b)):∃ i,o=some i/\i.zero=some z/\i.size=a/\i.bytes=b:=by
 obtain ⟨i,hi,h⟩:=Option.map_eq_some_iff.1 h;injection h with h1 h;injection h with h2 h3
 exact ⟨i,hi,h1,h2,h3⟩
theorem BU:(Tryz.prog.info? 48).map (λ i=>(i.zero,i.size,i.bytes))=some (some (.agg #[Zi Zq 0,Zt ⟨#[]⟩,Zi Zq 0,Zi Zq 0,Zi Zq 0,Zt ⟨#[]⟩,Zs none 0 0,Zs none 0 0,Zt ⟨#[]⟩,Zs none 0 0,Zi Zq 0,Zi Zq 0,Zi Zq 0,Zt ⟨#[]⟩,Zs none 0 0,Zs none 0 0,Zt ⟨#[]⟩,Zs none 0 0,Zs none 0 0,Zs none 0 0]),20,328):=by kernel_rfl
theorem BT {a b:List SJ} (ha:aK a) (hb:aK b):aK (a++b):=cV.2 λ x hx=>by
 rcases List.mem_append.1 hx with hx | hx
 ·exact cV.1 ha x hx
 ·exact cV.1 hb x hx
mutual
theorem BX:∀ (x:SJ) (kn:List (List UInt8)) (n:Nat),rgS kn n x=0∨(340<=rgS kn n x/\rgS kn n x<=342)
 | .mk k s a b body els,kn,n=>by
  have h1:=BP body (kn++[s]) (n+1);have h2:=BP body kn n;have h3:=BP els kn n;rw [rgS];split
  ·omega
  ·split
   ·split
    ·omega
    ·split
     ·omega
     ·split<;>omega
   ·split<;>omega
theorem BP:∀ (l:List SJ) (kn:List (List UInt8)) (n:Nat),rgL kn n l=0∨(340<=rgL kn n l/\rgL kn n l<=342)
 | [],kn,n=>.inl rfl
 |x::r,kn,n=>by
  have h1:=BX x kn n;have h2:=BP r kn n;rw [rgL];split<;>omega
end
theorem BF {l:List SJ}:dQ l≠332 ↔ fG l=true:=by
 rw [BQ];by_cases h:fG l=true
 ·rw [if_pos h];have:=BP l (knw []) 0;exact ⟨λ _=>h,λ _=>by omega⟩
 ·rw [if_neg h];exact ⟨λ h'=>absurd rfl h',λ h'=>absurd h' h⟩
/-- slices.Clone of a row of texts -/
theorem BW (l:List (List UInt8)) (A:Option Addr) (n ca:Nat) (w:World) (hl:l.length=n) (hn:n<=4194304) (hnc:n<=ca) (hA:A=none->ca=0) (hr:Rd w A (bY l)) :
  Calls Tryz.prog 36 #[Zs A n ca] w λ e w' => ∃ v,e=.returned v/\w'.ownsRow w.heap.size 9 1 v n (bY l)/\Below w.heap.size w w':=by
 have HR:=aW hr;have HL:=aW hl;clear hr hl;have hnil:=λ (A:Option Addr) (n c:Nat) (w:World)=>Lib.run_eql_slice_nil (P:=Tryz.prog) (w:=w) 40 9 A n c 0 0 Tryz.underlying40
 cases A with
 |none =>
  have hc0:=hA rfl;have hn0:n=0:=by omega
  subst hn0 hc0;have:l=[]:=List.eq_nil_of_length_eq_zero HL.out;subst this;clear HR HL;go_enter Tryz.func36,Tryz.ntmps36;go_wp2;go_ret;exact ⟨_,rfl,World.ownsRow_nil _ _ _ _,Below.refl _ _⟩
 |some a =>
  obtain ⟨i0,hi,hz,h1,h2⟩:=qw;have HI:=aW (And.intro hi (And.intro hz (And.intro h1 h2)));have HO:=aW (World.ownsRow_lit (base:=w.heap.size) (size:=1) (e:=9) w #[] 0 (Nat.le_refl _) (by unfold maxLen;omega) rfl);have HB:=aW (show Below w.heap.size w (w.alloc (.cells #[] 9)) from (Below.refl _ w).alloc (Nat.le_refl _) _);have HR2:=aW (HR.out.alloc (.cells #[] 9));clear hi hz h1 h2 hA;go_enter Tryz.func36,Tryz.ntmps36;go_wp2_with (at_builtin;refine cX _ rfl (.tmp 5) (.tmp 6) 40 rfl w.heap.size 9 i0 _ 1 16 Tryz.underlying40 HI.out.1 HI.out.2.1 HI.out.2.2.1 HI.out.2.2.2 rfl (by decide) _ 0 [] (by rfl) HO.out _ n ca (λ e=>by cases e) (bY l) (by rfl) (by rw [di,HL.out];omega) HR2.out (BJ l) (by unfold maxLen;omega) (by omega) (by simp) ?_;intro v' w1 hown hgr _);go_ret;exact ⟨v',rfl,by simpa using hown,HB.out.grown hgr HB.out.size (λ k e=>(HO.out.lt k e).1)⟩
theorem BG {W:World} {A:Option Addr} {n:Nat} {xs:List Value} (hl:xs.length=n*20) (h:Rd W A xs) (e:A=none):n=0:=by
 rcases Nat.eq_zero_or_pos n with h0 | h0
 ·exact h0
 ·obtain ⟨b,o,e2,_⟩:=h (by intro e9;rw [e9] at hl;simp at hl;omega);rw [e] at e2;cases e2
set_option maxHeartbeats 32000000 in
theorem BH (A0:Option Addr) (ca0:Nat) (p:List SJ) (A1:Option Addr) (ca1:Nat) (q:List SJ) (w:World) (hG:GOE w) (hS0:zn w A0 ca0 p) (hL0:∀ v ∈ p,jz 4194304 v) (hn0:p.length<=4194304) (hm0:aA p<=1048576)
  (hS1:zn w A1 ca1 q) (hL1:∀ v ∈ q,jz 4194304 v) (hn1:q.length<=4194304) (hm1:aA q<=1048576) :
  Calls Tryz.prog 11 #[.agg #[Zs A0 p.length ca0],.agg #[Zs A1 q.length ca1]] w (λ e w'=>e=.returned (.bool true)/\Below w.heap.size w w'):=by
 obtain ⟨hP,_⟩:=zH hS0;obtain ⟨hQ,_⟩:=zH hS1;have HCM:=aW (And.intro (tT hL0) (tT hL1));have HSM:=aW (And.intro hm0 hm1);obtain ⟨n0,hln0⟩:∃ n,p.length=n:=⟨_,rfl⟩
 obtain ⟨n1,hln1⟩:∃ n,q.length=n:=⟨_,rfl⟩
 rw [hln0] at hP hn0 ⊢;rw [hln1] at hQ hn1 ⊢;have HP:=aW hP;have HQ:=aW hQ;have HG:=aW (λ (W:World) (h:Below w.heap.size w W)=>hG.keep h);have HWK:=aW (λ (W:World) (hb:Below w.heap.size w W)=>yk W (hG.keep hb));have HH0:=aW (((aT.nil w).push 24 #[Zs A0 n0 ca0] (g:=w.heap.size) rfl).push 24 #[Zs A1 n1 ca1] (g:=w.heap.size+1) (by simp));have HLN:=aW (And.intro hln0 hln1);clear hG hS0 hL0 hm0 hS1 hL1 hm1 hln0 hln1 hP hQ;go_enter Tryz.func11,Tryz.ntmps11;go_wp2_with fail;refine (HWK.out _ HH0.out.1).mono ?_;rintro e w1 ⟨rfl,hb1⟩;have HH1:=aW (HH0.out.keep hb1);clear hb1 HH0;go_upto_region 3 with fail;obtain ⟨css0,hs0,hr0,hl0,hc0⟩:=HP.out.bel HH1.out.1;obtain ⟨css1,hs1,hr1,hl1,hc1⟩:=HQ.out.bel HH1.out.1;have HK:=aW (show ∀ W',Below w1.heap.size w1 W'->Blk W' w.heap.size 24 #[Zs A0 n0 ca0]/\Blk W' (w.heap.size+1) 24 #[Zs A1 n1 ca1] from λ W' h=>⟨HH1.out.b1.keep h,HH1.out.b0.keep h⟩);have HC0:=aW (And.intro (show css0.flatten.length=n0*20 by rw [RR.flat hs0 (λ c x h=>h.len),hl0]) (show ∀ u ∈ css0.flatten,u.oneCell'=true from λ u hu=>by
  obtain ⟨c,hc,hu⟩:=List.mem_flatten.1 hu;obtain ⟨x,_,hx⟩:=hs0.mem hc;exact hx.one u hu))
 have HC1:=aW (And.intro (show css1.flatten.length=n1*20 by rw [RR.flat hs1 (λ c x h=>h.len),hl1]) (show ∀ u ∈ css1.flatten,u.oneCell'=true from λ u hu=>by
  obtain ⟨c,hc,hu⟩:=List.mem_flatten.1 hu;obtain ⟨x,_,hx⟩:=hs1.mem hc;exact hx.one u hu))
 have HR0:=aW (λ (W:World) (h:Below w1.heap.size w1 W)=>(hr0.keep (ah.of_below h)).rd);have HR1:=aW (λ (W:World) (h:Below w1.heap.size w1 W)=>(hr1.keep (ah.of_below h)).rd);have HFIN:=aW (λ (Z:World) (b8:Nat) (RA:Option Addr) (rc:Nat) (hZ:Below w1.heap.size w1 Z) (hX:Blk Z b8 24 #[Zs none 0 0]) (hb:w1.heap.size<=b8) (hO:Z.ownsRow w1.heap.size 48 20 (Zs RA (n0+n1) rc) (n0+n1) (css0.flatten++css1.flatten)) =>
  show (λ W'=>Blk W' w.heap.size 24 #[Zs A0 n0 ca0]/\Blk W' (w.heap.size+1) 24 #[Zs A1 n1 ca1]) (Z.setCell ⟨b8,0,none⟩ (Zs RA (n0+n1) rc))/\Below w1.heap.size w1 (Z.setCell ⟨b8,0,none⟩ (Zs RA (n0+n1) rc))/\Blk (Z.setCell ⟨b8,0,none⟩ (Zs RA (n0+n1) rc)) b8 24 #[Zs RA (n0+n1) rc]/\dX (Z.setCell ⟨b8,0,none⟩ (Zs RA (n0+n1) rc)) RA (n0+n1) rc (p++q) from by
  have h1:Below w1.heap.size w1 (Z.setCell ⟨b8,0,none⟩ (Zs RA (n0+n1) rc)):=hZ.setCell (p:=⟨b8,0,none⟩) hb _;have h2:Blk (Z.setCell ⟨b8,0,none⟩ (Zs RA (n0+n1) rc)) b8 24 #[Zs RA (n0+n1) rc]:=by simpa using hX.set_ 0 (Zs RA (n0+n1) rc)
  have hne:=dy hO hX (by decide);have hO2:=hO.kept (w':=Z.setCell ⟨b8,0,none⟩ (Zs RA (n0+n1) rc)) (row:=some b8) ⟨rfl,rfl,rfl,by simp,λ k _ hk=>Below.heap_setCell Z ⟨b8,0,none⟩ _ k (λ e=>hk (by rw [e]))⟩ (.inr λ e=>hne e.symm);obtain ⟨RA',rc',he,hrc,_,hrr⟩:=bW hO2;injection he with he1 he2 he3
  subst he1 he3;refine ⟨HK.out _ h1,h1,h2,⟨css0++css1,RR.append (RR.imp hs0 λ c x hc=>hc.bel h1) (RR.imp hs1 λ c x hc=>hc.bel h1),by rw [List.flatten_append];exact hrr.mono λ _ _ _=>trivial,by rw [List.length_append,hl0,hl1],hrc⟩⟩)
 obtain ⟨i0,HI0⟩:=BO BU;have HI:=aW HI0;clear HI0;obtain ⟨NQ,hNQ⟩:∃ NQ:Act->World->Prop,∀ a' w',NQ a' w' ↔ (∃ (u24 u25 u26 u27 u28 u29 u30 u31:Value) (b8:Nat) (RA:Option Addr) (rc:Nat),a'={ tmps:=#[.agg #[Zs A0 n0 ca0],.agg #[Zs A1 n1 ca1],Zp (some ⟨w.heap.size,0,none⟩),Zp (some ⟨w.heap.size+1,0,none⟩),.bool false,Zp (some ⟨b8,0,none⟩),undef,undef,undef,undef,undef,undef,undef,undef,undef,undef,undef,undef,undef,undef,undef,undef,.bool true,.bool false,u24,u25,u26,u27,u28,u29,u30,u31,undef,undef,undef,undef,undef,undef,undef,undef,undef,undef,undef,undef,undef,undef,undef,undef,undef,undef,undef,undef,undef,undef,undef,undef,undef,undef,undef,undef,undef,undef,undef,undef,undef,undef,undef,undef,undef,undef,undef,undef,undef,undef,undef,undef,undef,undef,undef,undef,undef,undef,undef,undef,undef,undef,undef,undef,undef,undef,undef,undef,undef,undef,undef,undef,undef,undef,undef,undef,undef,undef,undef,undef,undef,undef,undef,undef,undef,undef,undef,undef,undef,undef,undef,undef,undef,undef,undef,undef,undef,undef,undef,undef,undef,undef,undef],defers:=[] }/\Hid (Below w1.heap.size w1 w')/\Hid (Blk w' b8 24 #[Zs RA (n0+n1) rc])/\Hid (dX w' RA (n0+n1) rc (p++q))):=⟨_,λ _ _=>Iff.rfl⟩
 have HNQ:=aW hNQ;clear hNQ hs0 hr0 hl0 hc0 hs1 hr1 hl1 hc1;refine wp_mono (Q:=λ e a' w'=>match e with | .normal=>NQ a' w' | _=>False) ?c1 ?c2
 case c1 =>
  refine wp_region_held_drew (S:=λ W'=>Blk W' w.heap.size 24 #[Zs A0 n0 ca0]/\Blk W' (w.heap.size+1) 24 #[Zs A1 n1 ca1]) (by kernel_rfl) (by exact ⟨(HK.out _ (Below.refl _ _)).1.drew,(HK.out _ (Below.refl _ _)).2.drew⟩) (λ hHeld=>?_);refine gm (λ Z0 hw=>?_);have HZ:=aW (show Below w1.heap.size w1 Z0 by rw [hw];exact (Below.refl _ _).drew);clear hw hHeld;have hHeld:=HK.out _ HZ.out;refine tA 1 25 (Zp (some ⟨w.heap.size,0,none⟩)) rfl ?_;refine aY 2 26 (Zs A0 n0 ca0) rfl ?_ ?_
  ·intro W hSw;obtain ⟨⟨c8,f8,l8⟩,c9,f9,l9⟩:=And.intro hSw.1.rules hSw.2.rules;go_simp
  refine tA 4 28 (Zp (some ⟨w.heap.size+1,0,none⟩)) rfl ?_;refine aY 5 29 (Zs A1 n1 ca1) rfl ?_ ?_
  ·intro W hSw;obtain ⟨⟨c8,f8,l8⟩,c9,f9,l9⟩:=And.intro hSw.1.rules hSw.2.rules;go_simp
  refine wpAnyH_ready (rs:=[0,8]) (by kernel_rfl) (by simp) ?_;refine AllReadyH.cons (o:=⟨some 24,_,_,_,_,_⟩) rfl (λ K hK=>?_) (AllReadyH.cons (o:=⟨some 5,_,_,_,_,_⟩) rfl (λ K hK=>?_) AllReadyH.nil)
  ·go_simp;have hbA:=(Below.refl _ Z0).alloc (Nat.le_refl _) (.cells #[] 48);have HO:=aW (World.ownsRow_lit (base:=w1.heap.size) (size:=20) (e:=48) Z0 #[] 0 HZ.out.size (by unfold maxLen;omega) rfl);replace HZ:=aW (HZ.out.trans (hbA.mono HZ.out.size));clear hbA;refine hK.out _ _ (by exact HK.out _ HZ.out) (λ hHeld2=>?_);clear hK K hHeld;have hHeld:=hHeld2;clear hHeld2
   try simp only [pU]
   refine gm (λ Z1 hY=>?_);obtain ⟨rb,hrb⟩:∃ b,Z0.heap.size=b:=⟨_,rfl⟩
   rw [hrb] at HO ⊢;rw [← hY] at HO HZ;clear hY hrb;replace hHeld:=HK.out _ HZ.out;refine wpAnyH_ready (rs:=[3,8]) (by kernel_rfl) (by simp) ?_;refine AllReadyH.cons (o:=⟨some 27,_,_,_,_,_⟩) rfl (λ K hK=>?_) (AllReadyH.cons (o:=⟨some 5,_,_,_,_,_⟩) rfl (λ K hK=>?_) AllReadyH.nil)
   ·rw [if_pos (by kernel_rfl)];refine kf _ (.tmp 24) (.tmp 26) 22 rfl w1.heap.size 48 i0 _ 20 328 Tryz.underlying22 HI.out.1 HI.out.2.1 HI.out.2.2.1 HI.out.2.2.2 rfl (by decide) (Zs (some ⟨rb,0,none⟩) 0 0) 0 ([]) (by rfl) HO.out A0 n0 ca0 (BG HC0.out.1 (HR0.out _ HZ.out)) css0.flatten (by rfl) HC0.out.1 (HR0.out _ HZ.out) HC0.out.2 (by unfold maxLen;omega) (by omega) HZ.out.size ?_;intro row2 Z2 hown hgr hob;have ho2:=aW (show Z2.ownsRow w1.heap.size 48 20 row2 n0 (css0.flatten) by simpa using hown);have hz:=aW (show Below w1.heap.size w1 Z2 from HZ.out.grown hgr HZ.out.size (λ k e=>(HO.out.lt k e).1));clear hown hgr hob HO HZ;have HO:=ho2;have HZ:=hz;clear ho2 hz;refine hK.out _ _ (by exact HK.out _ HZ.out) (λ hHeld2=>?_);clear hK K hHeld;have hHeld:=hHeld2;clear hHeld2
    try simp only [pU]
    replace hHeld:=HK.out _ HZ.out;refine wpAnyH_ready (rs:=[6,8]) (by kernel_rfl) (by simp) ?_;refine AllReadyH.cons (o:=⟨some 30,_,_,_,_,_⟩) rfl (λ K hK=>?_) (AllReadyH.cons (o:=⟨some 5,_,_,_,_,_⟩) rfl (λ K hK=>?_) AllReadyH.nil)
    ·rw [if_pos (by kernel_rfl)];refine kf _ (.tmp 27) (.tmp 29) 22 rfl w1.heap.size 48 i0 _ 20 328 Tryz.underlying22 HI.out.1 HI.out.2.1 HI.out.2.2.1 HI.out.2.2.2 rfl (by decide) (row2) n0 (css0.flatten) (by rfl) HO.out A1 n1 ca1 (BG HC1.out.1 (HR1.out _ HZ.out)) css1.flatten (by rfl) HC1.out.1 (HR1.out _ HZ.out) HC1.out.2 (by unfold maxLen;omega) (by omega) HZ.out.size ?_;intro row3 Z3 hown hgr hob;have ho2:=aW (show Z3.ownsRow w1.heap.size 48 20 row3 (n0+n1) (css0.flatten++css1.flatten) by simpa using hown);have hz:=aW (show Below w1.heap.size w1 Z3 from HZ.out.grown hgr HZ.out.size (λ k e=>(HO.out.lt k e).1));clear hown hgr hob HO HZ;have HO:=ho2;have HZ:=hz;clear ho2 hz;refine hK.out _ _ (by exact HK.out _ HZ.out) (λ hHeld2=>?_);clear hK K hHeld;have hHeld:=hHeld2;clear hHeld2
     try simp only [pU]
     replace hHeld:=HK.out _ HZ.out;refine wpAnyH_ready (rs:=[7,8]) (by kernel_rfl) (by simp) ?_;refine AllReadyH.cons (o:=⟨some 31,_,_,_,_,_⟩) rfl (λ K hK=>?_) (AllReadyH.cons (o:=⟨some 5,_,_,_,_,_⟩) rfl (λ K hK=>?_) AllReadyH.nil)
     ·obtain ⟨RA,rc,rfl,_,_,_⟩:=bW HO.out;go_simp;refine (r8 RA (n0+n1) rc Z3).mono ?_;rintro e Z4 ⟨rfl,hb⟩;replace HO:=aW (wH HO.out hb);replace HZ:=aW (HZ.out.trans (hb.mono HZ.out.size));clear hb;refine hK.out _ _ (by exact HK.out _ HZ.out) (λ hHeld2=>?_);clear hK K hHeld;have hHeld:=hHeld2;clear hHeld2
      try simp only [pU]
      replace hHeld:=HK.out _ HZ.out;refine aV 8 5 rfl (λ K hK=>?_);go_simp;have hbA:=(Below.refl _ Z4).alloc (Nat.le_refl _) (.cells #[Zs none 0 0] 24);have HX:=aW (show Blk (Z4.alloc (.cells #[Zs none 0 0] 24)) Z4.heap.size 24 #[Zs none 0 0]/\w1.heap.size<=Z4.heap.size from ⟨Blk.new _ _ _,HZ.out.size⟩);replace HO:=aW (wH HO.out hbA);replace HZ:=aW (HZ.out.trans (hbA.mono HZ.out.size));clear hbA;refine hK.out _ _ (by exact HK.out _ HZ.out) (λ hHeld2=>?_);clear hK K hHeld;have hHeld:=hHeld2;clear hHeld2
      try simp only [pU]
      refine gm (λ Z5 hY=>?_);obtain ⟨b8,hb8⟩:∃ b,Z4.heap.size=b:=⟨_,rfl⟩
      rw [hb8] at HX ⊢;rw [← hY] at HX HZ HO;clear hY hb8;replace hHeld:=HK.out _ HZ.out;refine aU 9 rfl (λ K hK=>?_);obtain ⟨c8,f8,l8⟩:=HX.out.1.rules;go_simp;have HF:=aW (HFIN.out Z5 b8 RA rc HZ.out HX.out.1 HX.out.2 HO.out);clear c8 f8 l8;refine hK.out _ _ (by exact HF.out.1) (λ hHeld2=>?_);clear hK K hHeld;have hHeld:=hHeld2;clear hHeld2
      try simp only [pU]
      refine aX ?_;exact (HNQ.out _ _).2 ⟨_,_,_,_,_,_,_,_,b8,RA,rc,rfl,aW HF.out.2.1,aW HF.out.2.2.1,aW HF.out.2.2.2⟩
     ·go_simp;have hbA:=(Below.refl _ Z3).alloc (Nat.le_refl _) (.cells #[Zs none 0 0] 24);have HX:=aW (show Blk (Z3.alloc (.cells #[Zs none 0 0] 24)) Z3.heap.size 24 #[Zs none 0 0]/\w1.heap.size<=Z3.heap.size from ⟨Blk.new _ _ _,HZ.out.size⟩);replace HO:=aW (wH HO.out hbA);replace HZ:=aW (HZ.out.trans (hbA.mono HZ.out.size));clear hbA;refine hK.out _ _ (by exact HK.out _ HZ.out) (λ hHeld2=>?_);clear hK K hHeld;have hHeld:=hHeld2;clear hHeld2
      try simp only [pU]
      refine gm (λ Z6 hY=>?_);obtain ⟨b8,hb8⟩:∃ b,Z3.heap.size=b:=⟨_,rfl⟩
      rw [hb8] at HX ⊢;rw [← hY] at HX HZ HO;clear hY hb8;replace hHeld:=HK.out _ HZ.out;refine aV 7 31 rfl (λ K hK=>?_);obtain ⟨RA,rc,rfl,_,_,_⟩:=bW HO.out;go_simp;refine (r8 RA (n0+n1) rc Z6).mono ?_;rintro e Z7 ⟨rfl,hb⟩;replace HO:=aW (wH HO.out hb);replace HX:=aW (And.intro (HX.out.1.keep hb) HX.out.2);replace HZ:=aW (HZ.out.trans (hb.mono HZ.out.size));clear hb;refine hK.out _ _ (by exact HK.out _ HZ.out) (λ hHeld2=>?_);clear hK K hHeld;have hHeld:=hHeld2;clear hHeld2
      try simp only [pU]
      replace hHeld:=HK.out _ HZ.out;refine aU 9 rfl (λ K hK=>?_);obtain ⟨c8,f8,l8⟩:=HX.out.1.rules;go_simp;have HF:=aW (HFIN.out Z7 b8 RA rc HZ.out HX.out.1 HX.out.2 HO.out);clear c8 f8 l8;refine hK.out _ _ (by exact HF.out.1) (λ hHeld2=>?_);clear hK K hHeld;have hHeld:=hHeld2;clear hHeld2
      try simp only [pU]
      refine aX ?_;exact (HNQ.out _ _).2 ⟨_,_,_,_,_,_,_,_,b8,RA,rc,rfl,aW HF.out.2.1,aW HF.out.2.2.1,aW HF.out.2.2.2⟩
    ·go_simp;have hbA:=(Below.refl _ Z2).alloc (Nat.le_refl _) (.cells #[Zs none 0 0] 24);have HX:=aW (show Blk (Z2.alloc (.cells #[Zs none 0 0] 24)) Z2.heap.size 24 #[Zs none 0 0]/\w1.heap.size<=Z2.heap.size from ⟨Blk.new _ _ _,HZ.out.size⟩);replace HO:=aW (wH HO.out hbA);replace HZ:=aW (HZ.out.trans (hbA.mono HZ.out.size));clear hbA;refine hK.out _ _ (by exact HK.out _ HZ.out) (λ hHeld2=>?_);clear hK K hHeld;have hHeld:=hHeld2;clear hHeld2
     try simp only [pU]
     refine gm (λ Z8 hY=>?_);obtain ⟨b8,hb8⟩:∃ b,Z2.heap.size=b:=⟨_,rfl⟩
     rw [hb8] at HX ⊢;rw [← hY] at HX HZ HO;clear hY hb8;replace hHeld:=HK.out _ HZ.out;refine aV 6 30 rfl (λ K hK=>?_);rw [if_pos (by kernel_rfl)];refine kf _ (.tmp 27) (.tmp 29) 22 rfl w1.heap.size 48 i0 _ 20 328 Tryz.underlying22 HI.out.1 HI.out.2.1 HI.out.2.2.1 HI.out.2.2.2 rfl (by decide) (row2) n0 (css0.flatten) (by rfl) HO.out A1 n1 ca1 (BG HC1.out.1 (HR1.out _ HZ.out)) css1.flatten (by rfl) HC1.out.1 (HR1.out _ HZ.out) HC1.out.2 (by unfold maxLen;omega) (by omega) HZ.out.size ?_;intro row3 Z9 hown hgr hob;have ho2:=aW (show Z9.ownsRow w1.heap.size 48 20 row3 (n0+n1) (css0.flatten++css1.flatten) by simpa using hown);replace HX:=aW (And.intro (HX.out.1.grown hgr (dy HO.out HX.out.1 (by decide))) HX.out.2);have hz:=aW (show Below w1.heap.size w1 Z9 from HZ.out.grown hgr HZ.out.size (λ k e=>(HO.out.lt k e).1));clear hown hgr hob HO HZ;have HO:=ho2;have HZ:=hz;clear ho2 hz;refine hK.out _ _ (by exact HK.out _ HZ.out) (λ hHeld2=>?_);clear hK K hHeld;have hHeld:=hHeld2;clear hHeld2
     try simp only [pU]
     replace hHeld:=HK.out _ HZ.out;refine aV 7 31 rfl (λ K hK=>?_);obtain ⟨RA,rc,rfl,_,_,_⟩:=bW HO.out;go_simp;refine (r8 RA (n0+n1) rc Z9).mono ?_;rintro e Z10 ⟨rfl,hb⟩;replace HO:=aW (wH HO.out hb);replace HX:=aW (And.intro (HX.out.1.keep hb) HX.out.2);replace HZ:=aW (HZ.out.trans (hb.mono HZ.out.size));clear hb;refine hK.out _ _ (by exact HK.out _ HZ.out) (λ hHeld2=>?_);clear hK K hHeld;have hHeld:=hHeld2;clear hHeld2
     try simp only [pU]
     replace hHeld:=HK.out _ HZ.out;refine aU 9 rfl (λ K hK=>?_);obtain ⟨c8,f8,l8⟩:=HX.out.1.rules;go_simp;have HF:=aW (HFIN.out Z10 b8 RA rc HZ.out HX.out.1 HX.out.2 HO.out);clear c8 f8 l8;refine hK.out _ _ (by exact HF.out.1) (λ hHeld2=>?_);clear hK K hHeld;have hHeld:=hHeld2;clear hHeld2
     try simp only [pU]
     refine aX ?_;exact (HNQ.out _ _).2 ⟨_,_,_,_,_,_,_,_,b8,RA,rc,rfl,aW HF.out.2.1,aW HF.out.2.2.1,aW HF.out.2.2.2⟩
   ·go_simp;have hbA:=(Below.refl _ Z1).alloc (Nat.le_refl _) (.cells #[Zs none 0 0] 24);have HX:=aW (show Blk (Z1.alloc (.cells #[Zs none 0 0] 24)) Z1.heap.size 24 #[Zs none 0 0]/\w1.heap.size<=Z1.heap.size from ⟨Blk.new _ _ _,HZ.out.size⟩);replace HO:=aW (wH HO.out hbA);replace HZ:=aW (HZ.out.trans (hbA.mono HZ.out.size));clear hbA;refine hK.out _ _ (by exact HK.out _ HZ.out) (λ hHeld2=>?_);clear hK K hHeld;have hHeld:=hHeld2;clear hHeld2
    try simp only [pU]
    refine gm (λ Z11 hY=>?_);obtain ⟨b8,hb8⟩:∃ b,Z1.heap.size=b:=⟨_,rfl⟩
    rw [hb8] at HX ⊢;rw [← hY] at HX HZ HO;clear hY hb8;replace hHeld:=HK.out _ HZ.out;refine aV 3 27 rfl (λ K hK=>?_);rw [if_pos (by kernel_rfl)];refine kf _ (.tmp 24) (.tmp 26) 22 rfl w1.heap.size 48 i0 _ 20 328 Tryz.underlying22 HI.out.1 HI.out.2.1 HI.out.2.2.1 HI.out.2.2.2 rfl (by decide) (Zs (some ⟨rb,0,none⟩) 0 0) 0 ([]) (by rfl) HO.out A0 n0 ca0 (BG HC0.out.1 (HR0.out _ HZ.out)) css0.flatten (by rfl) HC0.out.1 (HR0.out _ HZ.out) HC0.out.2 (by unfold maxLen;omega) (by omega) HZ.out.size ?_;intro row2 Z12 hown hgr hob;have ho2:=aW (show Z12.ownsRow w1.heap.size 48 20 row2 n0 (css0.flatten) by simpa using hown);replace HX:=aW (And.intro (HX.out.1.grown hgr (dy HO.out HX.out.1 (by decide))) HX.out.2);have hz:=aW (show Below w1.heap.size w1 Z12 from HZ.out.grown hgr HZ.out.size (λ k e=>(HO.out.lt k e).1));clear hown hgr hob HO HZ;have HO:=ho2;have HZ:=hz;clear ho2 hz;refine hK.out _ _ (by exact HK.out _ HZ.out) (λ hHeld2=>?_);clear hK K hHeld;have hHeld:=hHeld2;clear hHeld2
    try simp only [pU]
    replace hHeld:=HK.out _ HZ.out;refine aV 6 30 rfl (λ K hK=>?_);rw [if_pos (by kernel_rfl)];refine kf _ (.tmp 27) (.tmp 29) 22 rfl w1.heap.size 48 i0 _ 20 328 Tryz.underlying22 HI.out.1 HI.out.2.1 HI.out.2.2.1 HI.out.2.2.2 rfl (by decide) (row2) n0 (css0.flatten) (by rfl) HO.out A1 n1 ca1 (BG HC1.out.1 (HR1.out _ HZ.out)) css1.flatten (by rfl) HC1.out.1 (HR1.out _ HZ.out) HC1.out.2 (by unfold maxLen;omega) (by omega) HZ.out.size ?_;intro row3 Z13 hown hgr hob;have ho2:=aW (show Z13.ownsRow w1.heap.size 48 20 row3 (n0+n1) (css0.flatten++css1.flatten) by simpa using hown);replace HX:=aW (And.intro (HX.out.1.grown hgr (dy HO.out HX.out.1 (by decide))) HX.out.2);have hz:=aW (show Below w1.heap.size w1 Z13 from HZ.out.grown hgr HZ.out.size (λ k e=>(HO.out.lt k e).1));clear hown hgr hob HO HZ;have HO:=ho2;have HZ:=hz;clear ho2 hz;refine hK.out _ _ (by exact HK.out _ HZ.out) (λ hHeld2=>?_);clear hK K hHeld;have hHeld:=hHeld2;clear hHeld2
    try simp only [pU]
    replace hHeld:=HK.out _ HZ.out;refine aV 7 31 rfl (λ K hK=>?_);obtain ⟨RA,rc,rfl,_,_,_⟩:=bW HO.out;go_simp;refine (r8 RA (n0+n1) rc Z13).mono ?_;rintro e Z14 ⟨rfl,hb⟩;replace HO:=aW (wH HO.out hb);replace HX:=aW (And.intro (HX.out.1.keep hb) HX.out.2);replace HZ:=aW (HZ.out.trans (hb.mono HZ.out.size));clear hb;refine hK.out _ _ (by exact HK.out _ HZ.out) (λ hHeld2=>?_);clear hK K hHeld;have hHeld:=hHeld2;clear hHeld2
    try simp only [pU]
    replace hHeld:=HK.out _ HZ.out;refine aU 9 rfl (λ K hK=>?_);obtain ⟨c8,f8,l8⟩:=HX.out.1.rules;go_simp;have HF:=aW (HFIN.out Z14 b8 RA rc HZ.out HX.out.1 HX.out.2 HO.out);clear c8 f8 l8;refine hK.out _ _ (by exact HF.out.1) (λ hHeld2=>?_);clear hK K hHeld;have hHeld:=hHeld2;clear hHeld2
    try simp only [pU]
    refine aX ?_;exact (HNQ.out _ _).2 ⟨_,_,_,_,_,_,_,_,b8,RA,rc,rfl,aW HF.out.2.1,aW HF.out.2.2.1,aW HF.out.2.2.2⟩
  ·go_simp;have hbA:=(Below.refl _ Z0).alloc (Nat.le_refl _) (.cells #[Zs none 0 0] 24);have HX:=aW (show Blk (Z0.alloc (.cells #[Zs none 0 0] 24)) Z0.heap.size 24 #[Zs none 0 0]/\w1.heap.size<=Z0.heap.size from ⟨Blk.new _ _ _,HZ.out.size⟩);replace HZ:=aW (HZ.out.trans (hbA.mono HZ.out.size));clear hbA;refine hK.out _ _ (by exact HK.out _ HZ.out) (λ hHeld2=>?_);clear hK K hHeld;have hHeld:=hHeld2;clear hHeld2
   try simp only [pU]
   refine gm (λ Z15 hY=>?_);obtain ⟨b8,hb8⟩:∃ b,Z0.heap.size=b:=⟨_,rfl⟩
   rw [hb8] at HX ⊢;rw [← hY] at HX HZ;clear hY hb8;replace hHeld:=HK.out _ HZ.out;refine aV 0 24 rfl (λ K hK=>?_);go_simp;have hbA:=(Below.refl _ Z15).alloc (Nat.le_refl _) (.cells #[] 48);have HO:=aW (World.ownsRow_lit (base:=w1.heap.size) (size:=20) (e:=48) Z15 #[] 0 HZ.out.size (by unfold maxLen;omega) rfl);replace HX:=aW (And.intro (HX.out.1.alloc (.cells #[] 48)) HX.out.2);replace HZ:=aW (HZ.out.trans (hbA.mono HZ.out.size));clear hbA;refine hK.out _ _ (by exact HK.out _ HZ.out) (λ hHeld2=>?_);clear hK K hHeld;have hHeld:=hHeld2;clear hHeld2
   try simp only [pU]
   refine gm (λ Z16 hY=>?_);obtain ⟨rb,hrb⟩:∃ b,Z15.heap.size=b:=⟨_,rfl⟩
   rw [hrb] at HO ⊢;rw [← hY] at HO HZ HX;clear hY hrb;replace hHeld:=HK.out _ HZ.out;refine aV 3 27 rfl (λ K hK=>?_);rw [if_pos (by kernel_rfl)];refine kf _ (.tmp 24) (.tmp 26) 22 rfl w1.heap.size 48 i0 _ 20 328 Tryz.underlying22 HI.out.1 HI.out.2.1 HI.out.2.2.1 HI.out.2.2.2 rfl (by decide) (Zs (some ⟨rb,0,none⟩) 0 0) 0 ([]) (by rfl) HO.out A0 n0 ca0 (BG HC0.out.1 (HR0.out _ HZ.out)) css0.flatten (by rfl) HC0.out.1 (HR0.out _ HZ.out) HC0.out.2 (by unfold maxLen;omega) (by omega) HZ.out.size ?_;intro row2 Z17 hown hgr hob;have ho2:=aW (show Z17.ownsRow w1.heap.size 48 20 row2 n0 (css0.flatten) by simpa using hown);replace HX:=aW (And.intro (HX.out.1.grown hgr (dy HO.out HX.out.1 (by decide))) HX.out.2);have hz:=aW (show Below w1.heap.size w1 Z17 from HZ.out.grown hgr HZ.out.size (λ k e=>(HO.out.lt k e).1));clear hown hgr hob HO HZ;have HO:=ho2;have HZ:=hz;clear ho2 hz;refine hK.out _ _ (by exact HK.out _ HZ.out) (λ hHeld2=>?_);clear hK K hHeld;have hHeld:=hHeld2;clear hHeld2
   try simp only [pU]
   replace hHeld:=HK.out _ HZ.out;refine aV 6 30 rfl (λ K hK=>?_);rw [if_pos (by kernel_rfl)];refine kf _ (.tmp 27) (.tmp 29) 22 rfl w1.heap.size 48 i0 _ 20 328 Tryz.underlying22 HI.out.1 HI.out.2.1 HI.out.2.2.1 HI.out.2.2.2 rfl (by decide) (row2) n0 (css0.flatten) (by rfl) HO.out A1 n1 ca1 (BG HC1.out.1 (HR1.out _ HZ.out)) css1.flatten (by rfl) HC1.out.1 (HR1.out _ HZ.out) HC1.out.2 (by unfold maxLen;omega) (by omega) HZ.out.size ?_;intro row3 Z18 hown hgr hob;have ho2:=aW (show Z18.ownsRow w1.heap.size 48 20 row3 (n0+n1) (css0.flatten++css1.flatten) by simpa using hown);replace HX:=aW (And.intro (HX.out.1.grown hgr (dy HO.out HX.out.1 (by decide))) HX.out.2);have hz:=aW (show Below w1.heap.size w1 Z18 from HZ.out.grown hgr HZ.out.size (λ k e=>(HO.out.lt k e).1));clear hown hgr hob HO HZ;have HO:=ho2;have HZ:=hz;clear ho2 hz;refine hK.out _ _ (by exact HK.out _ HZ.out) (λ hHeld2=>?_);clear hK K hHeld;have hHeld:=hHeld2;clear hHeld2
   try simp only [pU]
   replace hHeld:=HK.out _ HZ.out;refine aV 7 31 rfl (λ K hK=>?_);obtain ⟨RA,rc,rfl,_,_,_⟩:=bW HO.out;go_simp;refine (r8 RA (n0+n1) rc Z18).mono ?_;rintro e Z19 ⟨rfl,hb⟩;replace HO:=aW (wH HO.out hb);replace HX:=aW (And.intro (HX.out.1.keep hb) HX.out.2);replace HZ:=aW (HZ.out.trans (hb.mono HZ.out.size));clear hb;refine hK.out _ _ (by exact HK.out _ HZ.out) (λ hHeld2=>?_);clear hK K hHeld;have hHeld:=hHeld2;clear hHeld2
   try simp only [pU]
   replace hHeld:=HK.out _ HZ.out;refine aU 9 rfl (λ K hK=>?_);obtain ⟨c8,f8,l8⟩:=HX.out.1.rules;go_simp;have HF:=aW (HFIN.out Z19 b8 RA rc HZ.out HX.out.1 HX.out.2 HO.out);clear c8 f8 l8;refine hK.out _ _ (by exact HF.out.1) (λ hHeld2=>?_);clear hK K hHeld;have hHeld:=hHeld2;clear hHeld2
   try simp only [pU]
   refine aX ?_;exact (HNQ.out _ _).2 ⟨_,_,_,_,_,_,_,_,b8,RA,rc,rfl,aW HF.out.2.1,aW HF.out.2.2.1,aW HF.out.2.2.2⟩
 case c2 =>
  intro e a' w2 h;cases e with
  |normal =>
   obtain ⟨u24,u25,u26,u27,u28,u29,u30,u31,b8,RA,rc,rfl,HB,HX,HPQ⟩:=(HNQ.out _ _).1 h;clear h;have HH2:=aW (show aT [(b8,24,#[Zs RA (n0+n1) rc]),(w.heap.size+1,24,#[Zs A1 n1 ca1]),(w.heap.size,24,#[Zs A0 n0 ca0])] w w2 from ⟨HH1.out.1.trans (HB.out.mono HH1.out.1.size),λ x hx=>by
    rcases List.mem_cons.1 hx with rfl | hx
    ·exact HX.out
    ·exact (HH1.out.keep HB.out).2 x hx⟩)
   have HP2:=aW (HP.out.bel HH2.out.1);have HQ2:=aW (HQ.out.bel HH2.out.1);have hcm:=BT HCM.out.1 HCM.out.2;have hsm:aA (p++q)<4194304:=by rw [kN];have:=HSM.out;omega
   have HCQ:=aW (And.intro hcm hsm);have HKP:=aW (λ (W:World) (hb:Below w2.heap.size w2 W)=>iS (HP2.out.bel hb) (HG.out _ (HH2.out.1.trans (hb.mono HH2.out.1.size))) HCM.out.1 (by have:=HSM.out;omega));have HKQ:=aW (λ (W:World) (hb:Below w2.heap.size w2 W)=>iS (HQ2.out.bel hb) (HG.out _ (HH2.out.1.trans (hb.mono HH2.out.1.size))) HCM.out.2 (by have:=HSM.out;omega));have HKB:=aW (λ (W:World) (hb:Below w2.heap.size w2 W)=>iS (HPQ.out.bel hb) (HG.out _ (HH2.out.1.trans (hb.mono HH2.out.1.size))) HCQ.out.1 HCQ.out.2);obtain ⟨e1,he1⟩:∃ z,dQ p=z:=⟨_,rfl⟩
   obtain ⟨f1,hf1⟩:∃ z,dQ q=z:=⟨_,rfl⟩
   obtain ⟨g1,hg1⟩:∃ z,dQ (p++q)=z:=⟨_,rfl⟩
   rw [he1] at HKP;rw [hf1] at HKQ;rw [hg1] at HKB;have HE:=aW (And.intro he1 (And.intro hf1 hg1));clear he1 hf1 hg1 hcm hsm HB HX HK HC0 HC1 HR0 HR1 HFIN HI HNQ HH1;go_upto_region 4 with fail;refine wp_region_held_drew (S:=λ W'=>Blk W' w.heap.size 24 #[Zs A0 n0 ca0]/\Blk W' (w.heap.size+1) 24 #[Zs A1 n1 ca1]/\Blk W' b8 24 #[Zs RA (n0+n1) rc]) (by kernel_rfl) (by exact ⟨HH2.out.b2.drew,HH2.out.b1.drew,HH2.out.b0.drew⟩) (λ hHeld=>?_);refine gm (λ Z0 hw=>?_);have HZ:=aW (show Below w2.heap.size w2 Z0 by rw [hw];exact (Below.refl _ _).drew);have HK:=aW (show ∀ W',Below w2.heap.size w2 W'->Blk W' w.heap.size 24 #[Zs A0 n0 ca0]/\Blk W' (w.heap.size+1) 24 #[Zs A1 n1 ca1]/\Blk W' b8 24 #[Zs RA (n0+n1) rc] from λ W' h=>⟨HH2.out.b2.keep h,HH2.out.b1.keep h,HH2.out.b0.keep h⟩);clear hw hHeld;have hHeld:=HK.out _ HZ.out;refine aY 0 32 (.agg #[Zs A0 n0 ca0]) rfl ?_ ?_
   ·intro W hSw;obtain ⟨⟨c8,f8,l8⟩,⟨c9,f9,l9⟩,c10,f10,l10⟩:=And.intro hSw.1.rules (And.intro hSw.2.1.rules hSw.2.2.rules);go_simp
   refine aY 2 34 (.agg #[Zs A1 n1 ca1]) rfl ?_ ?_
   ·intro W hSw;obtain ⟨⟨c8,f8,l8⟩,⟨c9,f9,l9⟩,c10,f10,l10⟩:=And.intro hSw.1.rules (And.intro hSw.2.1.rules hSw.2.2.rules);go_simp
   refine aY 4 36 (.agg #[Zs RA (n0+n1) rc]) rfl ?_ ?_
   ·intro W hSw;obtain ⟨⟨c8,f8,l8⟩,⟨c9,f9,l9⟩,c10,f10,l10⟩:=And.intro hSw.1.rules (And.intro hSw.2.1.rules hSw.2.2.rules);go_simp
   refine aV 1 33 rfl (λ K hK=>?_);go_simp;refine (HKP.out _ HZ.out).mono ?_;rintro e Y1 ⟨rfl,hb⟩;replace HZ:=aW (HZ.out.trans (hb.mono HZ.out.size));clear hb;refine hK.out _ _ (by exact HK.out _ HZ.out) (λ hHeld2=>?_);clear hK K hHeld;have hHeld:=hHeld2;clear hHeld2
   try simp only [pU]
   replace hHeld:=HK.out _ HZ.out;refine aV 3 35 rfl (λ K hK=>?_);go_simp;refine (HKQ.out _ HZ.out).mono ?_;rintro e Y2 ⟨rfl,hb⟩;replace HZ:=aW (HZ.out.trans (hb.mono HZ.out.size));clear hb;refine hK.out _ _ (by exact HK.out _ HZ.out) (λ hHeld2=>?_);clear hK K hHeld;have hHeld:=hHeld2;clear hHeld2
   try simp only [pU]
   replace hHeld:=HK.out _ HZ.out;refine aV 5 37 rfl (λ K hK=>?_);go_simp;refine (HKB.out _ HZ.out).mono ?_;rintro e Y3 ⟨rfl,hb⟩;replace HZ:=aW (HZ.out.trans (hb.mono HZ.out.size));clear hb;refine hK.out _ _ (by exact HK.out _ HZ.out) (λ hHeld2=>?_);clear hK K hHeld;have hHeld:=hHeld2;clear hHeld2
   try simp only [pU]
   replace hHeld:=HK.out _ HZ.out;refine tA 6 6 (Zi Zq e1) rfl ?_;refine tA 7 7 (Zi Zq f1) rfl ?_;refine tA 8 8 (Zi Zq g1) rfl ?_;refine aX ?_;have HH3:=aW (HH2.out.keep HZ.out);have HP3:=aW (HP2.out.bel HZ.out);have HQ3:=aW (HQ2.out.bel HZ.out);have HPQ3:=aW (HPQ.out.bel HZ.out);clear hHeld HZ HK HKP HKQ HKB HH2 HP2 HQ2 HPQ;by_cases hA:e1=332
   ·have hg:g1=332:=by
     have hp:¬ fG p=true:=λ h=>(BF.2 h) (HE.out.1.trans hA)
     rw [← HE.out.2.2];exact Decidable.byContradiction λ h=>hp (BI (BF.1 h)).1
    subst hA hg;clear HE;go_wp2;go_ret;exact ⟨rfl,HH3.out.1⟩
   have hAb:(e1 == 332)=false:=by simpa using hA
   by_cases hB:f1=332
   ·have hg:g1=332:=by
     have hq:¬ fG q=true:=λ h=>(BF.2 h) (HE.out.2.1.trans hB)
     rw [← HE.out.2.2];exact Decidable.byContradiction λ h=>hq (BI (BF.1 h)).2
    subst hB hg;clear HE hA;go_wp2;go_ret;exact ⟨rfl,HH3.out.1⟩
   have hBb:(f1 == 332)=false:=by simpa using hB
   have HMP:=aW (show fG p=true from BF.1 (by rw [HE.out.1];exact hA));have HMQ:=aW (show fG q=true from BF.1 (by rw [HE.out.2.1];exact hB));have hap:=BR HMP.out HMQ.out;rw [HE.out.1,HE.out.2.1,HE.out.2.2] at hap;have HMB:=aW hap.1;by_cases hE0:e1=0;rotate_left
   ·have hg:g1=e1:=by rw [hap.2,if_pos hE0]
    have hEb:(e1 != 0)=true:=by simpa using hE0
    subst hg;clear HE hA hB hap hE0;go_wp2;go_ret;exact ⟨rfl,HH3.out.1⟩
   have hg:g1=f1:=by rw [hap.2,if_neg (λ h=>h hE0)]
   subst hE0 hg;clear HE hA hB hap hAb;have hpg:eq p=0:=by unfold eq;rw [HMP.out];rfl
   have hqg:eq q=0:=by unfold eq;rw [HMQ.out];rfl
   have hbg:eq (p++q)=0:=by unfold eq;rw [HMB.out];rfl
   have HPG:=aW (And.intro hpg (And.intro hqg hbg));clear hpg hqg hbg;obtain ⟨c0,f0,l0⟩:=HH3.out.b2.rules;go_wp2_with fail;refine (vP HP3.out (HG.out _ HH3.out.1) HCM.out.1 (by have:=HSM.out;omega)).mono ?_;rintro e x4 ⟨FA0,fn0,fc0,rfl,hrow,hb⟩;rw [HPG.out.1];rw [HMP.out,if_pos rfl] at hrow;have hfn0:fn0<=4194304:=by have h1:=hrow.1;have h2:=qr p;have h3:=wV (fX [] p);rw [iy] at h1;have:=HSM.out;omega
   have HF0:=aW (And.intro hrow.1 (And.intro hrow.2.1 (And.intro hrow.2.2.1 hrow.2.2.2.rd)));have HH4:=aW (HH3.out.keep hb);have HP4:=aW (HP3.out.bel hb);have HQ4:=aW (HQ3.out.bel hb);have HPQ4:=aW (HPQ3.out.bel hb);clear hrow hb c0 f0 l0 HH3 HP3 HQ3 HPQ3;obtain ⟨c0,f0,l0⟩:=HH4.out.b1.rules;go_wp2_with fail;refine (vP HQ4.out (HG.out _ HH4.out.1) HCM.out.2 (by have:=HSM.out;omega)).mono ?_;rintro e x5 ⟨FA1,fn1,fc1,rfl,hrow,hb⟩;rw [HPG.out.2.1];rw [HMQ.out,if_pos rfl] at hrow;have hfn1:fn1<=4194304:=by have h1:=hrow.1;have h2:=qr q;have h3:=wV (fX [] q);rw [iy] at h1;have:=HSM.out;omega
   have HF1:=aW (And.intro hrow.1 (And.intro hrow.2.1 (And.intro hrow.2.2.1 hrow.2.2.2.rd)));have HH5:=aW (HH4.out.keep hb);have HP5:=aW (HP4.out.bel hb);have HQ5:=aW (HQ4.out.bel hb);have HPQ5:=aW (HPQ4.out.bel hb);replace HF0:=aW (And.intro HF0.out.1 (And.intro HF0.out.2.1 (And.intro HF0.out.2.2.1 (HF0.out.2.2.2.below hb))));clear hrow hb c0 f0 l0 HH4 HP4 HQ4 HPQ4;obtain ⟨c0,f0,l0⟩:=HH5.out.b0.rules;go_wp2_with fail;refine (vP HPQ5.out (HG.out _ HH5.out.1) HCQ.out.1 HCQ.out.2).mono ?_;rintro e x6 ⟨FA2,fn2,fc2,rfl,hrow,hb⟩;rw [HPG.out.2.2];rw [HMB.out,if_pos rfl] at hrow;have hfn2:fn2<=4194304:=by have h1:=hrow.1;have h2:=qr (p++q);have h3:=wV (fX [] (p++q));rw [iy] at h1;have:=HSM.out;rw [kN] at h2;omega
   have HF2:=aW (And.intro hrow.1 (And.intro hrow.2.1 (And.intro hrow.2.2.1 hrow.2.2.2.rd)));have HH6:=aW (HH5.out.keep hb);have HP6:=aW (HP5.out.bel hb);have HQ6:=aW (HQ5.out.bel hb);have HPQ6:=aW (HPQ5.out.bel hb);replace HF0:=aW (And.intro HF0.out.1 (And.intro HF0.out.2.1 (And.intro HF0.out.2.2.1 (HF0.out.2.2.2.below hb))));replace HF1:=aW (And.intro HF1.out.1 (And.intro HF1.out.2.1 (And.intro HF1.out.2.2.1 (HF1.out.2.2.2.below hb))));clear hrow hb c0 f0 l0 HH5 HP5 HQ5 HPQ5;obtain ⟨c0,f0,l0⟩:=HH6.out.b2.rules;go_wp2_with fail;refine (sY HP6.out (HG.out _ HH6.out.1) HCM.out.1 (by have:=HSM.out;omega)).mono ?_;rintro e x7 ⟨rfl,hb⟩;rw [HPG.out.1,HMP.out,if_pos rfl];have HH7:=aW (HH6.out.keep hb);have HP7:=aW (HP6.out.bel hb);have HQ7:=aW (HQ6.out.bel hb);have HPQ7:=aW (HPQ6.out.bel hb);replace HF0:=aW (And.intro HF0.out.1 (And.intro HF0.out.2.1 (And.intro HF0.out.2.2.1 (HF0.out.2.2.2.below hb))));replace HF1:=aW (And.intro HF1.out.1 (And.intro HF1.out.2.1 (And.intro HF1.out.2.2.1 (HF1.out.2.2.2.below hb))));replace HF2:=aW (And.intro HF2.out.1 (And.intro HF2.out.2.1 (And.intro HF2.out.2.2.1 (HF2.out.2.2.2.below hb))));clear hb c0 f0 l0 HH6 HP6 HQ6 HPQ6;obtain ⟨c0,f0,l0⟩:=HH7.out.b1.rules;go_wp2_with fail;refine (sY HQ7.out (HG.out _ HH7.out.1) HCM.out.2 (by have:=HSM.out;omega)).mono ?_;rintro e x8 ⟨rfl,hb⟩;rw [HPG.out.2.1,HMQ.out,if_pos rfl];have HH8:=aW (HH7.out.keep hb);have HP8:=aW (HP7.out.bel hb);have HQ8:=aW (HQ7.out.bel hb);have HPQ8:=aW (HPQ7.out.bel hb);replace HF0:=aW (And.intro HF0.out.1 (And.intro HF0.out.2.1 (And.intro HF0.out.2.2.1 (HF0.out.2.2.2.below hb))));replace HF1:=aW (And.intro HF1.out.1 (And.intro HF1.out.2.1 (And.intro HF1.out.2.2.1 (HF1.out.2.2.2.below hb))));replace HF2:=aW (And.intro HF2.out.1 (And.intro HF2.out.2.1 (And.intro HF2.out.2.2.1 (HF2.out.2.2.2.below hb))));clear hb c0 f0 l0 HH7 HP7 HQ7 HPQ7;obtain ⟨c0,f0,l0⟩:=HH8.out.b0.rules;go_wp2_with fail;refine (sY HPQ8.out (HG.out _ HH8.out.1) HCQ.out.1 HCQ.out.2).mono ?_;rintro e x9 ⟨rfl,hb⟩;rw [HPG.out.2.2,HMB.out,if_pos rfl];have HH9:=aW (HH8.out.keep hb);have HP9:=aW (HP8.out.bel hb);have HQ9:=aW (HQ8.out.bel hb);have HPQ9:=aW (HPQ8.out.bel hb);replace HF0:=aW (And.intro HF0.out.1 (And.intro HF0.out.2.1 (And.intro HF0.out.2.2.1 (HF0.out.2.2.2.below hb))));replace HF1:=aW (And.intro HF1.out.1 (And.intro HF1.out.2.1 (And.intro HF1.out.2.2.1 (HF1.out.2.2.2.below hb))));replace HF2:=aW (And.intro HF2.out.1 (And.intro HF2.out.2.1 (And.intro HF2.out.2.2.1 (HF2.out.2.2.2.below hb))));clear hb c0 f0 l0 HH8 HP8 HQ8 HPQ8;go_wp2_with fail;have HHX9:=aW HH9.out.1;have HFX9:=aW HF2.out.2.2.2;have HLF:=aW (And.intro HF0.out.1 HF1.out.1);have HL2:=aW (And.intro HF2.out.1 HF2.out.2.1);refine (BW (kX p) FA0 fn0 fc0 x9 HF0.out.1 hfn0 HF0.out.2.1 HF0.out.2.2.1 HF0.out.2.2.2).mono ?_;rintro e xA ⟨rv,rfl,hown,hb⟩;have HHA:=aW (HH9.out.keep hb);replace HF1:=aW (And.intro HF1.out.1 (And.intro HF1.out.2.1 (And.intro HF1.out.2.2.1 (HF1.out.2.2.2.below hb))));replace HF2:=aW (And.intro HF2.out.1 (And.intro HF2.out.2.1 (And.intro HF2.out.2.2.1 (HF2.out.2.2.2.below hb))));have HBA:=aW (show Below x9.heap.size x9 xA from hb);have HO:=aW hown;clear hown hb HH9 HF0 HP9 HQ9 HPQ9;obtain ⟨i0,hi,hz,h1,h2⟩:=qw;have HI:=aW (And.intro hi (And.intro hz (And.intro h1 h2)));clear hi hz h1 h2;have hA1:FA1=none->fn1=0:=λ e=>by have:=HF1.out.2.2.1 e;have:=HF1.out.2.1;omega
   go_upto_region 16 with (at_builtin;refine cX _ rfl (.tmp 82) (.tmp 83) 40 rfl x9.heap.size 9 i0 _ 1 16 Tryz.underlying40 HI.out.1 HI.out.2.1 HI.out.2.2.1 HI.out.2.2.2 rfl (by decide) rv fn0 (bY (kX p)) (by rfl) HO.out FA1 fn1 fc1 hA1 (bY (kX q)) (by rfl) (by rw [di,HF1.out.1];omega) HF1.out.2.2.2 (BJ _) (by unfold maxLen;omega) (by omega) HBA.out.size ?_;intro row xB hownB hgr _);have hb9B:Below x9.heap.size x9 xB:=HBA.out.grown hgr HBA.out.size (λ k e=>(HO.out.lt k e).1);have HOB:=aW (show xB.ownsRow x9.heap.size 9 1 row (fn0+fn1) (bY (kX p++kX q)) by rw [show bY (kX p++kX q)=bY (kX p)++bY (kX q) by simp [bY]];exact hownB);have HBB:=aW hb9B;have HWB:=aW (show Below w.heap.size w xB from HHX9.out.trans (hb9B.mono HHX9.out.size));have HFB:=aW (show Rd xB FA2 (bY (kX (p++q))) from HFX9.out.below hb9B);clear hownB hgr hb9B HO HBA HF1;go_wp2_with fail;refine (yA (kX p++kX q) x9.heap.size row (fn0+fn1) xB (by rw [List.length_append,HLF.out.1,HLF.out.2]) (by omega) HOB.out HBB.out.size).mono ?_;rintro e xC ⟨rfl,hownC,hbC⟩;have HOC:=aW hownC;have HBC:=aW (HBB.out.trans hbC);have HWC:=aW (HHX9.out.trans ((HBB.out.trans hbC).mono HHX9.out.size));have HFC:=aW (show Rd xC FA2 (bY (kX (p++q))) from HFX9.out.below (HBB.out.trans hbC));clear hownC hbC HOB HBB HWB HFB;have hmx:(fd (p++q):Int)=max (fd p:Int) (fd q:Int):=by rw [uk,uk,uk,BL];omega
   obtain ⟨d0,hd0⟩:∃ z,fd p=z:=⟨_,rfl⟩
   obtain ⟨d1,hd1⟩:∃ z,fd q=z:=⟨_,rfl⟩
   obtain ⟨d2,hd2⟩:∃ z,fd (p++q)=z:=⟨_,rfl⟩
   rw [hd0,hd1,hd2] at hmx;rw [hd0,hd1,hd2];clear hd0 hd1 hd2;have hmm:∀ a b:Int,max a b=if a<=b then b else a:=Int.max_def
   by_cases hle:(d0:Int)<=(d1:Int)
   ·have hx2:(d2:Int)=(d1:Int):=by omega
    obtain rfl:d2=d1:=by omega
    have hnlt:¬ (d2:Int)<(d0:Int):=by omega
    clear hmx hx2;go_wp2_with fail;refine (xT ((kX p++kX q).mergeSort λ x y=>decide (x<=y)) x9.heap.size row (fn0+fn1) xC (by rw [List.length_mergeSort,List.length_append,HLF.out.1,HLF.out.2]) (by omega) HOC.out HBC.out.size).mono ?_;rintro e xD ⟨v,rfl,hownD,hbD⟩;obtain ⟨vA,vc,rfl,hvc,_,hvr⟩:=bW hownD;have hfr:Lib.compact ((kX p++kX q).mergeSort λ x y=>decide (x<=y))=kX (p++q):=BN p q;rw [hfr] at hvr;have hvl:(Lib.compact ((kX p++kX q).mergeSort λ x y=>decide (x<=y))).length=fn2:=by rw [hfr];exact HL2.out.1
    rw [hvl] at hvc ⊢;have hrF:Rd xD FA2 (bY (kX (p++q))):=HFX9.out.below (HBC.out.trans hbD);have HWD:=aW (HHX9.out.trans ((HBC.out.trans hbD).mono HHX9.out.size));have HEQ:=aW (j4 FA2 vA fn2 fn2 fc2 vc (kX (p++q)) (kX (p++q)) xD HL2.out.1 HL2.out.1 hrF hvr.rd HL2.out.2 hvc hfn2 hfn2);clear hownD hbD hvr hfr hvl hrF HOC HBC HWC HFC;go_wp2_with fail;refine HEQ.out.mono ?_;rintro e xE ⟨rfl,q9,hq9⟩;simp only [decide_true];have HWE:=aW (show Below w.heap.size w xE by rw [← hq9];exact ai HWD.out q9);clear hq9 HWD HEQ;go_wp2;go_ret;exact ⟨rfl,HWE.out⟩
   ·have hx2:(d2:Int)=(d0:Int):=by omega
    obtain rfl:d2=d0:=by omega
    have hlt:(d1:Int)<(d2:Int):=by omega
    clear hmx hx2;go_wp2_with fail;refine (xT ((kX p++kX q).mergeSort λ x y=>decide (x<=y)) x9.heap.size row (fn0+fn1) xC (by rw [List.length_mergeSort,List.length_append,HLF.out.1,HLF.out.2]) (by omega) HOC.out HBC.out.size).mono ?_;rintro e xD ⟨v,rfl,hownD,hbD⟩;obtain ⟨vA,vc,rfl,hvc,_,hvr⟩:=bW hownD;have hfr:Lib.compact ((kX p++kX q).mergeSort λ x y=>decide (x<=y))=kX (p++q):=BN p q;rw [hfr] at hvr;have hvl:(Lib.compact ((kX p++kX q).mergeSort λ x y=>decide (x<=y))).length=fn2:=by rw [hfr];exact HL2.out.1
    rw [hvl] at hvc ⊢;have hrF:Rd xD FA2 (bY (kX (p++q))):=HFX9.out.below (HBC.out.trans hbD);have HWD:=aW (HHX9.out.trans ((HBC.out.trans hbD).mono HHX9.out.size));have HEQ:=aW (j4 FA2 vA fn2 fn2 fc2 vc (kX (p++q)) (kX (p++q)) xD HL2.out.1 HL2.out.1 hrF hvr.rd HL2.out.2 hvc hfn2 hfn2);clear hownD hbD hvr hfr hvl hrF HOC HBC HWC HFC;go_wp2_with fail;refine HEQ.out.mono ?_;rintro e xE ⟨rfl,q9,hq9⟩;simp only [decide_true];have HWE:=aW (show Below w.heap.size w xE by rw [← hq9];exact ai HWD.out q9);clear hq9 HWD HEQ;go_wp2;go_ret;exact ⟨rfl,HWE.out⟩
  | _=>exact h.elim
end
end Go.Proofs.YtgmnmnnoahdjnaaGreatDoor
