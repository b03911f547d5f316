import Derived.Test.YtgmnmnnoahdjnaaGreatDoorH29
import Derived.Test.YtgmnmnnoahdjnaaGreatDoorH27
open Go.Value renaming int → Zi, slice → Zs, string → Zt, pointer → Zp
open Go.IntKind renaming i64 → Zq
set_option maxRecDepth 100000
set_option maxHeartbeats 16000000
set_option linter.unusedVariables false
set_option linter.unusedSimpArgs false
namespace Go.Proofs.YtgmnmnnoahdjnaaGreatDoor
section
open Go.RowKit
attribute [local go_sem] ab ae af ac
def xO (k:Int):PR EJ->PR EJ | .ok x q=>.ok (eOp k [x]) q | .bad q=>.bad q
theorem RdF.of_blk9 {W:World} {F:Nat->Prop} {b:Nat} {t:TypeId} {xs:List Value} (h:Blk W b t xs.toArray) (hF:F b):RdF W F (some ⟨b,0,none⟩) xs :=
 λ _=>⟨b,0,rfl,h.lt,hF,λ i hi=>by rw [h.cell,Nat.zero_add,List.getElem?_toArray,List.getElem?_eq_getElem hi]⟩
theorem lG {w w3 W1:World} {g:Nat} {A:Option Addr} {nT cap:Nat} {T:List al} {p q:Nat} {x:EJ} {k:Int} {c0 c1 c2 c3 c4 c5 c6 c7:Value} {t8 te:TypeId} {e8:Array Value} (hV:VP w g A nT cap T p) (hE:ER w3 (NW W1) [c0,c1,c2,c3,c4,c5,c6,c7] x) (hv:VP w3 g A nT cap T q) (hg:w.grownBy w3 (some g)) (hx:Blk w3 w.heap.size t8 e8) (h1:w.heap.size<W1.heap.size) :
  cU (xO k (.ok x q)) g A nT cap T w (.returned (.agg #[Zi Zq k,Zi Zq 0,Zi Zq 0,Zt ⟨#[]⟩,Zs none 0 0,Zs none 0 0,Zt ⟨#[]⟩,Zs (some ⟨w3.heap.size,0,none⟩) 1 1]))
   (((((((((w3.setCell ⟨w.heap.size,0,none⟩ (Zi Zq k)).setCell ⟨w.heap.size,1,none⟩ (Zi Zq 0)).setCell ⟨w.heap.size,2,none⟩ (Zi Zq 0)).setCell ⟨w.heap.size,3,none⟩ (Zt ⟨#[]⟩)).setCell ⟨w.heap.size,4,none⟩ (Zs none 0 0)).setCell ⟨w.heap.size,5,none⟩ (Zs none 0 0)).setCell ⟨w.heap.size,6,none⟩ (Zt ⟨#[]⟩)).setCell ⟨w.heap.size,7,none⟩ (Zs (some ⟨w3.heap.size,0,none⟩) 1 1)).alloc (.cells #[c0,c1,c2,c3,c4,c5,c6,c7] te)):=by
 have hgl:=hV.blk.lt;have hk:=gN (F:=NW W1) (a:=w3) (w:=w3) (b:=w.heap.size) (λ k hk=>by unfold NW at hk;omega) aj.refl (Zi Zq k) (Zi Zq 0) (Zi Zq 0) (Zt ⟨#[]⟩) (Zs none 0 0) (Zs none 0 0) (Zt ⟨#[]⟩) (Zs (some ⟨w3.heap.size,0,none⟩) 1 1);have hg8:=ix hg (Nat.le_refl w.heap.size) (Zi Zq k) (Zi Zq 0) (Zi Zq 0) (Zt ⟨#[]⟩) (Zs none 0 0) (Zs none 0 0) (Zt ⟨#[]⟩) (Zs (some ⟨w3.heap.size,0,none⟩) 1 1);have hb8:=Blk.far8 (b:=w.heap.size) hv.blk (by omega) (Zi Zq k) (Zi Zq 0) (Zi Zq 0) (Zt ⟨#[]⟩) (Zs none 0 0) (Zs none 0 0) (Zt ⟨#[]⟩) (Zs (some ⟨w3.heap.size,0,none⟩) 1 1);have hE8:=hE.keep hk;obtain ⟨W8,hW8⟩:∃ W8,((((((((w3.setCell ⟨w.heap.size,0,none⟩ (Zi Zq k)).setCell ⟨w.heap.size,1,none⟩ (Zi Zq 0)).setCell ⟨w.heap.size,2,none⟩ (Zi Zq 0)).setCell ⟨w.heap.size,3,none⟩ (Zt ⟨#[]⟩)).setCell ⟨w.heap.size,4,none⟩ (Zs none 0 0)).setCell ⟨w.heap.size,5,none⟩ (Zs none 0 0)).setCell ⟨w.heap.size,6,none⟩ (Zt ⟨#[]⟩)).setCell ⟨w.heap.size,7,none⟩ (Zs (some ⟨w3.heap.size,0,none⟩) 1 1))=W8:=⟨_,rfl⟩
 have hs:W8.heap.size=w3.heap.size:=by rw [← hW8];simp [World.setCell]
 rw [hW8] at hg8 hb8 hE8 ⊢;have hz:Below W8.heap.size W8 (W8.alloc (.cells #[c0,c1,c2,c3,c4,c5,c6,c7] te)):=(Below.refl _ W8).alloc (Nat.le_refl _) _;have hgz:=ag hg8 (aw hz (some g));have hbn:=Blk.new W8 te #[c0,c1,c2,c3,c4,c5,c6,c7];rw [hs] at hbn;refine ⟨_,rfl,?_,hV.step hgz (hb8.keep hz),hgz⟩;have hex:ER (W8.alloc (.cells #[c0,c1,c2,c3,c4,c5,c6,c7] te)) (NW w) [c0,c1,c2,c3,c4,c5,c6,c7] x:=(hE8.bel hz).mono λ b _ hb=>by unfold NW at hb ⊢;omega
 exact ER.into (s:=[]) (kids:=[x]) (css:=[[c0,c1,c2,c3,c4,c5,c6,c7]]) VR.zero (RR.snoc RR.nil hex) rfl (by simp) (λ h=>by cases h) (RdF.of_blk9 hbn (by have:=hg.size;exact this))
theorem pw {T:List al} {lvl p:Nat} {k:Int} (h:dU T lvl p=some k):5<=k/\k<=15:=fg h
/-- an operator may stand ahead -/
theorem rG (g:Nat) (A:Option Addr) (nT cap:Nat) (T:List al) (N:Nat) (hT:WT T) (hE:nd g A nT cap T N) (lvl p:Nat) (q:Int) (w:World) (hV:VP w g A nT cap T p) (h37:lvl=3∨lvl=7) (hp:p<nT) (hn:nT<=1000) (hq:q=lvl) (hN:12*(nT-p)+(10-lvl)<=N+1) :
  Calls Tryz.prog 171 #[Zp (some ⟨g,0,none⟩),Zi Zq q] w (cU (eE T lvl p) g A nT cap T w):=by
 obtain ⟨r,hr⟩:∃ r,eE T lvl p=r:=⟨_,rfl⟩
 have HR0:=aW (show r=(match dU T lvl p with
  | some k=>(match eE T lvl (p+1) with | .ok x q=>.ok (eOp k [x]) q | .bad q=>.bad q)
  | none=>eE T (lvl+1) p) by rw [← hr];exact wg hT h37 (by rw [hV.len];exact hp))
 have HNX:=aW (λ h=>hT.next (p:=p) (by rw [hV.len];exact hp) h);rw [hr];have HV:=aW hV;have hgl:=hV.blk.lt;have hxg:w.heap.size≠g:=by omega
 have HP:=aW (And.intro hp (And.intro hn hN));have HE:=aW hE;have HL:=aW h37;have HQ:=aW hq;have hq37:q=3∨q=7:=by omega
 have hqw:IntKind.i64.wrap (q+1)=q+1:=by rw [IntKind.wrap_i64];omega
 obtain ⟨oo,hoo⟩:∃ o,dU T lvl p=o:=⟨_,rfl⟩
 rw [hoo] at HR0;have hnx:=λ (W:World) (h:Below w.heap.size w W)=>tV lvl q W g A nT cap T p (hV.keep h) hp hn hq (by omega)
 rw [hoo] at hnx;clear hV hr hE h37 hp hn hN hq;cases oo with
 |none =>
  have HR:=aW (show r=eE T (lvl+1) p from HR0.out);unfold qK at hnx;have HNP:=aW hnx;clear hnx hoo HNX;obtain ⟨r1,hr1⟩:∃ r1,eE T (lvl+1) p=r1:=⟨_,rfl⟩
  have HCE:=aW (λ (W:World) (h:Below w.heap.size w W)=>HE.out (lvl+1) p (q+1) W (HV.out.keep h) (by omega) (by have:=HL.out;omega) HP.out.1 (by have:=HQ.out;omega) (by have:=HP.out;have:=HL.out;omega));rw [hr1] at HCE HR;rw [HR.out];rcases hq37 with rfl | rfl
  all_goals
   go_enter Tryz.func171,Tryz.ntmps171;go_wp2_with fail;refine (HNP.out _ (by exact ((Below.refl _ w).alloc (Nat.le_refl _) _))).mono ?_;rintro e w1 ⟨rfl,hb1⟩;have HB1:=aW (((Below.refl w.heap.size w).alloc (Nat.le_refl _) (.cells #[Zi Zq 0,Zi Zq 0,Zi Zq 0,Zt ⟨#[]⟩,Zs none 0 0,Zs none 0 0,Zt ⟨#[]⟩,Zs none 0 0] 45)).trans (hb1.mono (by simp)));have HX1:=aW ((Blk.new w 45 #[Zi Zq 0,Zi Zq 0,Zi Zq 0,Zt ⟨#[]⟩,Zs none 0 0,Zs none 0 0,Zt ⟨#[]⟩,Zs none 0 0]).keep hb1);have hg:=HV.out.goe.keep (HB1.out.alloc HB1.out.size (.cells #[Zt ⟨#[]⟩,Zi Zq 0,Zi Zq 0] 154));have hg0:=hg.c0;have hg1:=hg.c1;have hg2:=hg.c2;clear hg hb1;go_wp2_with fail;refine (HCE.out _ (by exact HB1.out.alloc HB1.out.size _)).mono ?_;intro e w3 hret;cases r1 with
   |bad q =>
    obtain ⟨rfl,hg3⟩:=hret;unfold aG;go_wp2;exact ⟨rfl,rfl,ag (aw (HB1.out.alloc HB1.out.size _) (some g)) hg3⟩
   |ok x q =>
    obtain ⟨cs,rfl,he3,hv3,hg3⟩:=hret;obtain ⟨k9,k19,n19,s19,A19,na19,ca19,B19,nb19,cb19,s9,A29,n29,ca29,rfl⟩:=he3.form;have HX3:=aW ((HX1.out.alloc (.cells #[Zt ⟨#[]⟩,Zi Zq 0,Zi Zq 0] 154)).grown hg3 (by simpa using hxg));obtain ⟨y0,y1,y2⟩:=HX3.out.rules;have HR3:=aW (And.intro he3 (And.intro hv3 hg3));have hsz:w.heap.size<w1.heap.size:=HX1.out.lt;clear he3 hv3 hg3 hg0 hg1 hg2;go_wp2;refine bodyPost_ret (v:=.agg #[Zi Zq k9,Zi Zq k19,Zi Zq n19,Zt s19,Zs A19 na19 ca19,Zs B19 nb19 cb19,Zt s9,Zs A29 n29 ca29]) (by simp only [results,Tryz.results171];go_simp) rfl ?_;refine bI HV.out HR3.out.2.1 (ag (aw (HB1.out.alloc HB1.out.size _) (some g)) HR3.out.2.2) HX3.out _ _ _ _ _ _ _ _ ?_;refine (HR3.out.1.keep (gN (λ k hk=>?_) aj.refl _ _ _ _ _ _ _ _)).mono λ k _ hk=>?_
    ·unfold NW at hk;simp at hk;omega
    ·unfold NW at hk ⊢;simp at hk;omega
 |some k =>
  have hk:=pw hoo;have hp1:p+1<nT:=by have h9:=HNX.out (eq hoo);rw [HV.out.len] at h9;exact h9
  obtain ⟨t',l',ho,hkk⟩:=pv hk;unfold qK at hnx;simp only [ho,fx] at hnx;have HNP:=aW hnx;have ea:(k == 0)=false:=by rw [beq_eq_false_iff_ne];omega
  clear hnx hoo HNX ho hkk hk;obtain ⟨r1,hr1⟩:∃ r1,eE T lvl (p+1)=r1:=⟨_,rfl⟩
  have HR:=aW (show r=xO k r1 by rw [HR0.out];simp only;rw [hr1];cases r1<;>rfl);rw [HR.out];have HCE:=aW (λ (W:World) (h:VP W g A nT cap T (p+1))=>HE.out lvl (p+1) q W h (by have:=HL.out;omega) (by have:=HL.out;omega) hp1 HQ.out (by have:=HP.out;have:=HL.out;omega));rw [hr1] at HCE;rcases hq37 with rfl | rfl
  ·go_enter Tryz.func171,Tryz.ntmps171;go_wp2_with fail;refine (HNP.out _ (by exact ((Below.refl _ w).alloc (Nat.le_refl _) _))).mono ?_;rintro e w1 ⟨rfl,hv1,hg1⟩;have HX1:=aW ((Blk.new w 45 #[Zi Zq 0,Zi Zq 0,Zi Zq 0,Zt ⟨#[]⟩,Zs none 0 0,Zs none 0 0,Zt ⟨#[]⟩,Zs none 0 0]).grown hg1 (by simpa using hxg));have HG1:=aW (ag (aw ((Below.refl w.heap.size w).alloc (Nat.le_refl _) (.cells #[Zi Zq 0,Zi Zq 0,Zi Zq 0,Zt ⟨#[]⟩,Zs none 0 0,Zs none 0 0,Zt ⟨#[]⟩,Zs none 0 0] 45)) (some g)) hg1);have hv1a:=hv1.keep ((Below.refl w1.heap.size w1).alloc (Nat.le_refl _) (.cells #[Zt ⟨t'.toArray⟩,Zi Zq k,Zi Zq l'] 154));have HV1:=aW hv1a;have hg:=hv1a.goe;have hg0:=hg.c0;have hg1:=hg.c1;have hg2:=hg.c2;have HO1:=aW (Blk.new w1 154 #[Zt ⟨t'.toArray⟩,Zi Zq k,Zi Zq l']);clear hg hv1 hv1a;have hcc:(w1.alloc (.cells #[Zt ⟨t'.toArray⟩,Zi Zq k,Zi Zq l'] 154)).cell? ⟨w1.heap.size,1,none⟩=some (Zi Zq k):=(HO1.out.cell 1).trans rfl;cases r1 with
   |bad q =>
    go_upto_region 6 with fail;refine wp_region_held_drew (S:=λ w'=>w'.cell? ⟨w1.heap.size,1,none⟩=some (Zi Zq k)) (by kernel_rfl) (by exact hcc) (λ hHeld=>?_);refine tA 0 19 (Zp (some ⟨w1.heap.size,1,none⟩)) rfl ?_;refine tA 1 20 (Zi Zq k) rfl ?_;refine tA 2 21 (Zp (some ⟨g,0,none⟩)) rfl ?_;refine tA 3 22 (Zi Zq 3) rfl ?_;refine aV 4 23 rfl (λ K hK=>?_);go_simp;refine (HCE.out _ (HV1.out.keep ((Below.refl _ _).drew))).mono ?_;unfold cU aG;rintro e w3 ⟨rfl,hg3⟩;exact ⟨rfl,rfl,ag HG1.out (ag (aw ((Below.refl _ w1).alloc (Nat.le_refl _) _).drew (some g)) hg3)⟩
   |ok x q =>
    go_upto_region 6 with fail;have hsz:w.heap.size<w1.heap.size:=HX1.out.lt;have hne:w.heap.size≠w1.heap.size:=Nat.ne_of_lt hsz;have hg1s:w1.heap.size≠g:=by have:=HG1.out.size;omega
    go_region_held3 (λ w'=>w'.cell? ⟨w1.heap.size,1,none⟩=some (Zi Zq k)) (go_keep) ((go_at_call 171;refine (HCE.out _ (HV1.out.keep ((Below.refl _ _).drew))).mono ?_;unfold cU;rintro e w3 ⟨cs,rfl,he3,hv3,hg3⟩;obtain ⟨k9,k19,n19,s19,A19,na19,ca19,B19,nb19,cb19,s9,A29,n29,ca29,rfl⟩:=he3.form;have HX3:=aW (((HX1.out.alloc (.cells #[Zt ⟨t'.toArray⟩,Zi Zq k,Zi Zq l'] 154)).drew).grown hg3 (by simpa using hxg));have HO3:=aW ((HO1.out.drew).grown hg3 (by simp [hg1s]));have hco3:=HO3.out.cell 1;simp at hco3;obtain ⟨y0,y1,y2⟩:=HX3.out.rules));have HR3:=aW (And.intro he3 (And.intro hv3 hg3));clear he3 hv3 hg3 hg0 hg1 hg2 hco3 hcc;go_wp2_with ((with_reducible refine bodyPost_ret (v:=.agg #[Zi Zq k,Zi Zq 0,Zi Zq 0,Zt ⟨#[]⟩,Zs none 0 0,Zs none 0 0,Zt ⟨#[]⟩,Zs (some ⟨w3.heap.size,0,none⟩) 1 1]) ?_ rfl ?_);(simp only [results,Tryz.results171];go_simp));exact lG HV.out HR3.out.1 HR3.out.2.1 (ag HG1.out (ag (aw ((Below.refl _ w1).alloc (Nat.le_refl _) _).drew (some g)) HR3.out.2.2)) HX3.out (by show w.heap.size<(w1.alloc _).heap.size;rw [World.size_alloc];omega)
  ·go_enter Tryz.func171,Tryz.ntmps171;go_wp2_with fail;refine (HNP.out _ (by exact ((Below.refl _ w).alloc (Nat.le_refl _) _))).mono ?_;rintro e w1 ⟨rfl,hv1,hg1⟩;have HX1:=aW ((Blk.new w 45 #[Zi Zq 0,Zi Zq 0,Zi Zq 0,Zt ⟨#[]⟩,Zs none 0 0,Zs none 0 0,Zt ⟨#[]⟩,Zs none 0 0]).grown hg1 (by simpa using hxg));have HG1:=aW (ag (aw ((Below.refl w.heap.size w).alloc (Nat.le_refl _) (.cells #[Zi Zq 0,Zi Zq 0,Zi Zq 0,Zt ⟨#[]⟩,Zs none 0 0,Zs none 0 0,Zt ⟨#[]⟩,Zs none 0 0] 45)) (some g)) hg1);have hv1a:=hv1.keep ((Below.refl w1.heap.size w1).alloc (Nat.le_refl _) (.cells #[Zt ⟨t'.toArray⟩,Zi Zq k,Zi Zq l'] 154));have HV1:=aW hv1a;have hg:=hv1a.goe;have hg0:=hg.c0;have hg1:=hg.c1;have hg2:=hg.c2;have HO1:=aW (Blk.new w1 154 #[Zt ⟨t'.toArray⟩,Zi Zq k,Zi Zq l']);clear hg hv1 hv1a;have hcc:(w1.alloc (.cells #[Zt ⟨t'.toArray⟩,Zi Zq k,Zi Zq l'] 154)).cell? ⟨w1.heap.size,1,none⟩=some (Zi Zq k):=(HO1.out.cell 1).trans rfl;cases r1 with
   |bad q =>
    go_upto_region 6 with fail;refine wp_region_held_drew (S:=λ w'=>w'.cell? ⟨w1.heap.size,1,none⟩=some (Zi Zq k)) (by kernel_rfl) (by exact hcc) (λ hHeld=>?_);refine tA 0 19 (Zp (some ⟨w1.heap.size,1,none⟩)) rfl ?_;refine tA 1 20 (Zi Zq k) rfl ?_;refine tA 2 21 (Zp (some ⟨g,0,none⟩)) rfl ?_;refine tA 3 22 (Zi Zq 7) rfl ?_;refine aV 4 23 rfl (λ K hK=>?_);go_simp;refine (HCE.out _ (HV1.out.keep ((Below.refl _ _).drew))).mono ?_;unfold cU aG;rintro e w3 ⟨rfl,hg3⟩;exact ⟨rfl,rfl,ag HG1.out (ag (aw ((Below.refl _ w1).alloc (Nat.le_refl _) _).drew (some g)) hg3)⟩
   |ok x q =>
    go_upto_region 6 with fail;have hsz:w.heap.size<w1.heap.size:=HX1.out.lt;have hne:w.heap.size≠w1.heap.size:=Nat.ne_of_lt hsz;have hg1s:w1.heap.size≠g:=by have:=HG1.out.size;omega
    go_region_held3 (λ w'=>w'.cell? ⟨w1.heap.size,1,none⟩=some (Zi Zq k)) (go_keep) ((go_at_call 171;refine (HCE.out _ (HV1.out.keep ((Below.refl _ _).drew))).mono ?_;unfold cU;rintro e w3 ⟨cs,rfl,he3,hv3,hg3⟩;obtain ⟨k9,k19,n19,s19,A19,na19,ca19,B19,nb19,cb19,s9,A29,n29,ca29,rfl⟩:=he3.form;have HX3:=aW (((HX1.out.alloc (.cells #[Zt ⟨t'.toArray⟩,Zi Zq k,Zi Zq l'] 154)).drew).grown hg3 (by simpa using hxg));have HO3:=aW ((HO1.out.drew).grown hg3 (by simp [hg1s]));have hco3:=HO3.out.cell 1;simp at hco3;obtain ⟨y0,y1,y2⟩:=HX3.out.rules));have HR3:=aW (And.intro he3 (And.intro hv3 hg3));clear he3 hv3 hg3 hg0 hg1 hg2 hco3 hcc;go_wp2_with ((with_reducible refine bodyPost_ret (v:=.agg #[Zi Zq k,Zi Zq 0,Zi Zq 0,Zt ⟨#[]⟩,Zs none 0 0,Zs none 0 0,Zt ⟨#[]⟩,Zs (some ⟨w3.heap.size,0,none⟩) 1 1]) ?_ rfl ?_);(simp only [results,Tryz.results171];go_simp));exact lG HV.out HR3.out.1 HR3.out.2.1 (ag HG1.out (ag (aw ((Below.refl _ w1).alloc (Nat.le_refl _) _).drew (some g)) HR3.out.2.2)) HX3.out (by show w.heap.size<(w1.alloc _).heap.size;rw [World.size_alloc];omega)
theorem wY {P:Program} {md:Region.Mode} {ops:Array Oper} {Q:Exit->Act->World->Prop} {S:World->Prop} {fuel:Nat} {listed:Array Bool} {act:Nat->World->Act} {R:Nat->World->Prop} {goal:Prop}
  (hleaf:∀ b Z,R b Z->wpAnyH P md ops Q S fuel listed (act b Z) Z) (h:(∀ b Z,R b Z->wpAnyH P md ops Q S fuel listed (act b Z) Z)->goal):goal:=h hleaf
theorem pT (g:Nat) (A:Option Addr) (nT cap:Nat) (T:List al) (N:Nat) (hT:WT T) (hE:nd g A nT cap T N) (p:Nat) (w:World) (hV:VP w g A nT cap T p) (hp:p<nT) (hn:nT<=1000) (hN:12*(nT-p)+2<=N+1) :
  Calls Tryz.prog 171 #[Zp (some ⟨g,0,none⟩),Zi Zq 8] w (cU (eE T 8 p) g A nT cap T w):=by
 obtain ⟨r,hr⟩:∃ r,eE T 8 p=r:=⟨_,rfl⟩
 have HR0:=aW (show r=(match eA T p with | .ok x q=>eP T x q | .bad q=>.bad q) by rw [← hr];exact ux hT (by rw [hV.len];exact hp));rw [hr];have HAL:=aW (λ (W:World) (h:Below w.heap.size w W)=>vs g A nT cap T N hT hE p W (hV.keep h) hp hn (by omega));have hgl:=hV.blk.lt;have hxg:w.heap.size≠g:=by omega
 have HV:=aW hV;have HP:=aW (And.intro hp hn);obtain ⟨r1,hr1⟩:∃ r1,eA T p=r1:=⟨_,rfl⟩
 rw [hr1] at HAL HR0;have HR1:=aW hr1;clear hV hr hE hp hn hN hr1;have HB0:=aW ((Below.refl w.heap.size w).alloc (Nat.le_refl _) (.cells #[Zi Zq 0,Zi Zq 0,Zi Zq 0,Zt ⟨#[]⟩,Zs none 0 0,Zs none 0 0,Zt ⟨#[]⟩,Zs none 0 0] 45));have HX0:=aW (Blk.new w 45 #[Zi Zq 0,Zi Zq 0,Zi Zq 0,Zt ⟨#[]⟩,Zs none 0 0,Zs none 0 0,Zt ⟨#[]⟩,Zs none 0 0]);cases r1 with
 |bad q =>
  have HR:=aW (show r=.bad q from HR0.out);rw [HR.out];unfold cU aG at HAL ⊢;go_enter Tryz.func171,Tryz.ntmps171;go_wp2_with fail;refine (HAL.out _ HB0.out).mono ?_;rintro e w1 ⟨rfl,hg1⟩;go_wp2;exact ⟨rfl,rfl,ag (aw HB0.out (some g)) hg1⟩
 |ok x q =>
  have HR2:=aW (show r=eP T x q from HR0.out);have hq:=vA hT (by rw [HV.out.len];exact HP.out.1) HR1.out;rw [HV.out.len] at hq;unfold cU at HAL;go_enter Tryz.func171,Tryz.ntmps171;go_wp2_with fail;refine (HAL.out _ HB0.out).mono ?_;rintro e w1 ⟨cs,rfl,he1,hv1,hg1⟩;obtain ⟨k9,k19,n19,s19,A19,na19,ca19,B19,nb19,cb19,s9,A29,n29,ca29,rfl⟩:=he1.form;have HX1:=aW (HX0.out.grown hg1 (by simpa using hxg));have HG1:=aW (ag (aw HB0.out (some g)) hg1);have HV1:=aW hv1;have HE1:=aW he1;have hs1:w.heap.size<w1.heap.size:=HX1.out.lt;obtain ⟨YB,hYB⟩:∃ y,w1.heap.size=y:=⟨_,rfl⟩
  have HY1:=aW (Blk.new w1 45 #[Zi Zq k9,Zi Zq k19,Zi Zq n19,Zt s19,Zs A19 na19 ca19,Zs B19 nb19 cb19,Zt s9,Zs A29 n29 ca29]);obtain ⟨W2,hW2⟩:∃ W',w1.alloc (.cells #[Zi Zq k9,Zi Zq k19,Zi Zq n19,Zt s19,Zs A19 na19 ca19,Zs B19 nb19 cb19,Zt s9,Zs A29 n29 ca29] 45)=W':=⟨_,rfl⟩
  have hb2:Below w1.heap.size w1 W2:=by rw [← hW2];exact (Below.refl _ w1).alloc (Nat.le_refl _) _
  have HB2:=aW hb2;have HW2:=aW hW2;rw [hW2,hYB] at HY1;have HYL:=aW (show w.heap.size<YB by omega);have hyg:YB≠g:=by omega
  have hyx:w.heap.size≠YB:=by omega
  have HE2a:=aW (show ER W2 (λ b=>w.heap.size<b/\b≠YB) [Zi Zq k9,Zi Zq k19,Zi Zq n19,Zt s19,Zs A19 na19 ca19,Zs B19 nb19 cb19,Zt s9,Zs A29 n29 ca29] x from (he1.mono (F':=λ b=>w.heap.size<b/\b≠YB) λ b hb hF=>by
   have h9:w.heap.size+1<=b:=by unfold NW at hF;simpa using hF
   omega).bel hb2)
  clear hv1 hg1 he1 hW2 hb2;go_wp2_with fail;rw [HW2.out]
  try rw [hYB]
  have HE2:=aW (show ER W2 (λ b=>w.heap.size<b/\b≠YB) [Zi Zq k9,Zi Zq k19,Zi Zq n19,Zt s19,Zs A19 na19 ca19,Zs B19 nb19 cb19,Zt s9,Zs A29 n29 ca29] x from HE2a.out.mono λ b _ hF=>hF);have HV2:=aW (HV1.out.keep HB2.out);have HX2:=aW (HX1.out.keep HB2.out);have HG2:=aW (ag HG1.out (aw HB2.out (some g)));clear HW2 HB2 HE1 HV1 HX1 HG1;go_loopg [] (nT-q) (λ gk wr => ∃ (p':Nat) (x':EJ) (k9 k19 n19:Int) (s19:ByteArray) (A19:Option Addr) (na19 ca19:Nat) (B19:Option Addr) (nb19 cb19:Nat) (s9:ByteArray) (A29:Option Addr) (n29 ca29:Nat),p'<nT/\gk=nT-p'/\Hid (r=eP T x' p')/\Hid (VP wr g A nT cap T p')/\Hid (Blk wr w.heap.size 45 #[Zi Zq 0,Zi Zq 0,Zi Zq 0,Zt ⟨#[]⟩,Zs none 0 0,Zs none 0 0,Zt ⟨#[]⟩,Zs none 0 0])/\Hid (Blk wr YB 45 #[Zi Zq k9,Zi Zq k19,Zi Zq n19,Zt s19,Zs A19 na19 ca19,Zs B19 nb19 cb19,Zt s9,Zs A29 n29 ca29]) /\
   Hid (ER wr (λ b=>w.heap.size<b/\b≠YB) [Zi Zq k9,Zi Zq k19,Zi Zq n19,Zt s19,Zs A19 na19 ca19,Zs B19 nb19 cb19,Zt s9,Zs A29 n29 ca29] x')/\Hid (w.grownBy wr (some g)))
  case atStart=>exact ⟨q,x,k9,k19,n19,s19,A19,na19,ca19,B19,nb19,cb19,s9,A29,n29,ca29,hq.2,rfl,HR2,HV2,HX2,HY1,HE2,HG2⟩
  case round =>
   obtain ⟨p',x',k9,k19,n19,s19,A19,na19,ca19,B19,nb19,cb19,s9,A29,n29,ca29,hpn,hgk,HRP,HVP,HXP,HYP,HEP,HGP⟩:=hrel;have HGK:=aW hgk;have hn9:=HP.out.2;clear hgk HR2 HV2 HX2 HY1 HE2 HG2;by_cases hs:ao T p' [46]=true
   ·have h1:p'+1<nT:=by have h9:=hT.next (p:=p') (by rw [HV.out.len];exact hpn) (am hs);rw [HV.out.len] at h9;exact h9
    have HTY:=aW (eh [46] wr g A nT cap T p' HVP.out hpn HP.out.2 hs);have HRP1:=aW (show r=if tkK T (p'+1)=1 then eP T (.mk 3 cJ (tkT T (p'+1)) [x']) (p'+2) else .bad (p'+1) by rw [HRP.out,vF hT (by rw [HV.out.len];exact hpn),if_pos hs]);clear hs;go_upto_region 11 with (go_at_call 139;refine HTY.out.mono ?_;rintro e w3 ⟨rfl,hv3,hg3⟩);have HV3:=aW hv3;have HX3:=aW (HXP.out.grown hg3 (by simpa using hxg));have HY2:=aW (HYP.out.grown hg3 (by simpa using hyg));have HE3:=aW (HEP.out.keep (aj.of_grown hg3 λ k hk e=>by injection e with e;have:=hk.1;omega));have HG2:=aW (ag HGP.out hg3);have HG9:=aW hv3.blk.lt;have HYW:=aW HY2.out.lt;clear hv3 hg3 HXP HYP HEP HGP;by_cases hk1:tkK T (p'+1)=1
    ·have HR:=aW (show r=eP T (.mk 3 cJ (tkT T (p'+1)) [x']) (p'+2) by rw [HRP1.out,if_pos hk1]);have HNM:=aW (λ (W:World) (h:Below w3.heap.size w3 W)=>qF W g A nT cap T (p'+1) (HV3.out.keep h) h1 HP.out.2 hk1);have h2:p'+2<nT:=by have h9:=hT.next (p:=p'+1) (by rw [HV.out.len];exact h1) (by omega);rw [HV.out.len] at h9;exact h9
     unfold uc at HNM;obtain ⟨nm,hnm⟩:∃ t,tkT T (p'+1)=t:=⟨_,rfl⟩
     rw [hnm] at HNM HR;clear hk1 hnm;apply wY (R:=λ (b5:Nat) (Z:World)=>Blk Z b5 45 #[Zi Zq k9,Zi Zq k19,Zi Zq n19,Zt s19,Zs A19 na19 ca19,Zs B19 nb19 cb19,Zt s9,Zs A29 n29 ca29]/\VP Z g A nT cap T (p'+1+1)/\w3.grownBy Z (some g)/\w3.heap.size<=b5)
     case h =>
      intro HL;refine wp_region_held_drew (S:=λ _=>True) (by kernel_rfl) trivial (λ hHeld=>?_);refine tA 0 36 (Zp (some ⟨g,0,none⟩)) rfl ?_;refine wpAnyH_ready (rs:=[1,2]) (by kernel_rfl) (by simp) ?_;refine AllReadyH.cons (o:=⟨some 37,_,_,_,_,_⟩) rfl (λ K hK=>?_) (AllReadyH.cons (o:=⟨some 38,_,_,_,_,_⟩) rfl (λ K hK=>?_) AllReadyH.nil)
      ·go_simp;refine (HNM.out _ ((Below.refl w3.heap.size w3).drew)).mono ?_;rintro e w4 ⟨rfl,hv4,hg4⟩;have HR4:=aW (And.intro hv4 (ag (aw ((Below.refl w3.heap.size w3).drew) (some g)) hg4));have HG4:=aW hg4;clear hv4 hg4;refine hK.out _ _ trivial (λ hHeld=>?_);clear hK K
       try simp only [pU]
       refine aV 2 38 rfl (λ K hK=>?_);have HYC:=aW (((HY2.out.drew).grown HG4.out (by simp [hyg])));obtain ⟨y0,y1,y2⟩:=HYC.out.rules;go_simp;refine hK.out _ _ trivial (λ hHeld=>?_);clear hK K y0 y1 y2
       try simp only [pU]
       refine aV 3 39 rfl (λ K hK=>?_);go_simp;refine hK.out _ _ trivial (λ hHeld=>?_);clear hK K
       try simp only [pU]
       obtain ⟨b5,hb5⟩:∃ b,w4.heap.size=b:=⟨_,rfl⟩
       have HB5:=aW (Blk.new w4 45 #[Zi Zq k9,Zi Zq k19,Zi Zq n19,Zt s19,Zs A19 na19 ca19,Zs B19 nb19 cb19,Zt s9,Zs A29 n29 ca29]);refine bA (λ Z hZ=>?_);have HZZ:=aW (show Below w4.heap.size w4 Z by rw [hZ];exact (Below.refl _ w4).alloc (Nat.le_refl _) _);rw [← hZ,hb5] at HB5;rw [hb5];clear hZ;refine cM (l':=#[true,true,true,true,false,false]) (by kernel_rfl) ?_;exact HL _ _ (And.intro HB5.out (And.intro (HR4.out.1.keep HZZ.out) (And.intro (ag HR4.out.2 (aw HZZ.out _)) (by rw [← hb5];exact HR4.out.2.size))))
      ·obtain ⟨y0,y1,y2⟩:=HY2.out.rules;go_simp;refine hK.out _ _ trivial (λ hHeld=>?_);clear hK K y0 y1 y2
       try simp only [pU]
       refine wpAnyH_ready (rs:=[1,3]) (by kernel_rfl) (by simp) ?_;refine AllReadyH.cons (o:=⟨some 37,_,_,_,_,_⟩) rfl (λ K hK=>?_) (AllReadyH.cons (o:=⟨some 39,_,_,_,_,_⟩) rfl (λ K hK=>?_) AllReadyH.nil)
       ·go_simp;refine (HNM.out _ ((Below.refl w3.heap.size w3).drew)).mono ?_;rintro e w4 ⟨rfl,hv4,hg4⟩;have HR4:=aW (And.intro hv4 (ag (aw ((Below.refl w3.heap.size w3).drew) (some g)) hg4));have HG4:=aW hg4;clear hv4 hg4;refine hK.out _ _ trivial (λ hHeld=>?_);clear hK K
        try simp only [pU]
        refine aV 3 39 rfl (λ K hK=>?_);go_simp;refine hK.out _ _ trivial (λ hHeld=>?_);clear hK K
        try simp only [pU]
        obtain ⟨b5,hb5⟩:∃ b,w4.heap.size=b:=⟨_,rfl⟩
        have HB5:=aW (Blk.new w4 45 #[Zi Zq k9,Zi Zq k19,Zi Zq n19,Zt s19,Zs A19 na19 ca19,Zs B19 nb19 cb19,Zt s9,Zs A29 n29 ca29]);refine bA (λ Z hZ=>?_);have HZZ:=aW (show Below w4.heap.size w4 Z by rw [hZ];exact (Below.refl _ w4).alloc (Nat.le_refl _) _);rw [← hZ,hb5] at HB5;rw [hb5];clear hZ;refine cM (l':=#[true,true,true,true,false,false]) (by kernel_rfl) ?_;exact HL _ _ (And.intro HB5.out (And.intro (HR4.out.1.keep HZZ.out) (And.intro (ag HR4.out.2 (aw HZZ.out _)) (by rw [← hb5];exact HR4.out.2.size))))
       ·go_simp;have HBN:=aW (show Blk (w3.drew.alloc (.cells #[Zi Zq k9,Zi Zq k19,Zi Zq n19,Zt s19,Zs A19 na19 ca19,Zs B19 nb19 cb19,Zt s9,Zs A29 n29 ca29] 45)) w3.heap.size 45 #[Zi Zq k9,Zi Zq k19,Zi Zq n19,Zt s19,Zs A19 na19 ca19,Zs B19 nb19 cb19,Zt s9,Zs A29 n29 ca29] from Blk.new w3.drew _ _);refine hK.out _ _ trivial (λ hHeld=>?_);clear hK K
        try simp only [pU]
        refine aV 1 37 rfl (λ K hK=>?_);go_simp;refine (HNM.out _ (((Below.refl w3.heap.size w3).drew.alloc (Nat.le_refl _) (.cells #[Zi Zq k9,Zi Zq k19,Zi Zq n19,Zt s19,Zs A19 na19 ca19,Zs B19 nb19 cb19,Zt s9,Zs A29 n29 ca29] 45)))).mono ?_;rintro e w4 ⟨rfl,hv4,hg4⟩;have HR4:=aW (And.intro hv4 (ag (aw (((Below.refl w3.heap.size w3).drew.alloc (Nat.le_refl _) (.cells #[Zi Zq k9,Zi Zq k19,Zi Zq n19,Zt s19,Zs A19 na19 ca19,Zs B19 nb19 cb19,Zt s9,Zs A29 n29 ca29] 45))) (some g)) hg4));have HG4:=aW hg4;clear hv4 hg4;refine hK.out _ _ trivial (λ hHeld=>?_);clear hK K
        try simp only [pU]
        have HB5:=aW (HBN.out.grown HG4.out (by have:=HG9.out;simp;omega));obtain ⟨b5,hb5⟩:∃ b,w3.heap.size=b:=⟨_,rfl⟩
        rw [hb5] at HB5
        try rw [show w3.drew.heap.size=w3.heap.size from rfl]
        rw [hb5];refine cM (l':=#[true,true,true,true,false,false]) (by kernel_rfl) ?_;exact HL _ _ (And.intro HB5.out (And.intro HR4.out.1 (And.intro HR4.out.2 (Nat.le_of_eq hb5))))
     case hleaf =>
      rintro b5 Z ⟨hb5,hv5,hg5,hl5⟩;have HY5:=aW (HY2.out.grown hg5 (by simpa using hyg));have HX5:=aW (HX3.out.grown hg5 (by simpa using hxg));have HE5:=aW (HE3.out.keep (aj.of_grown hg5 λ k hk e=>by injection e with e;have:=hk.1;omega));have HB5:=aW (And.intro hb5 (And.intro hv5 (And.intro hg5 hl5)));clear hb5 hv5 hg5 hl5;have hHeld:True:=trivial;refine tA 4 40 (.agg #[Zi Zq 3,Zi Zq 0,Zi Zq 0,Zt ⟨#[]⟩,Zs none 0 0,Zs none 0 0,Zt ⟨nm.toArray⟩,Zs (some ⟨b5,0,none⟩) 1 1]) rfl ?_;refine aU 5 rfl (λ K hK=>?_);obtain ⟨y0,y1,y2⟩:=HY5.out.rules;go_simp;refine hK.out _ _ trivial (λ hHeld2=>?_);clear hK K hHeld hHeld2 y0 y1 y2
      try simp only [pU]
      refine aX ?_;have hgz:=ix (ag HG2.out HB5.out.2.2.1) (Nat.le_of_lt HYL.out) (Zi Zq 3) (Zi Zq 0) (Zi Zq 0) (Zt ⟨#[]⟩) (Zs none 0 0) (Zs none 0 0) (Zt ⟨nm.toArray⟩) (Zs (some ⟨b5,0,none⟩) 1 1);have hby:b5≠YB:=by have:=HYW.out;have:=HB5.out.2.2.2;omega
      go_wp2;go_roundg (nT-(p'+2))
      case measure=>have:=HGK.out;omega
      case rel =>
       refine ⟨p'+2,.mk 3 cJ nm [x'],3,0,0,⟨#[]⟩,none,0,0,none,0,0,⟨nm.toArray⟩,some ⟨b5,0,none⟩,1,1,h2,rfl,HR,aW (HV.out.step hgz (Blk.far8 HB5.out.2.1.blk (Ne.symm hyg) _ _ _ _ _ _ _ _)),aW (Blk.far8 HX5.out hyx _ _ _ _ _ _ _ _),aW (HY5.out.set8C _ _ _ _ _ _ _ _),aW ?_,aW hgz⟩;exact ER.into (s:=nm) (kids:=[x']) (css:=[[Zi Zq k9,Zi Zq k19,Zi Zq n19,Zt s19,Zs A19 na19 ca19,Zs B19 nb19 cb19,Zt s9,Zs A29 n29 ca29]]) VR.zero (RR.snoc RR.nil (HE5.out.keep (gN (λ k hk=>hk.2) aj.refl _ _ _ _ _ _ _ _))) rfl (by simp) (λ h=>by cases h) (RdF.of_blk9 (Blk.far8 HB5.out.1 hby _ _ _ _ _ _ _ _) ⟨by have:=HYW.out;have:=HB5.out.2.2.2;have:=HYL.out;omega,hby⟩)
    ·have HR:=aW (show r=.bad (p'+1) by rw [HRP1.out,if_neg hk1]);have hnm:=λ (W:World) (h:Below w3.heap.size w3 W)=>qE W g A nT cap T (p'+1) (HV3.out.keep h) h1 HP.out.2 hk1
     unfold aG at hnm;have HNM:=aW hnm;clear hnm hk1;refine wp_region_held_drew (S:=λ _=>True) (by kernel_rfl) trivial (λ hHeld=>?_);refine tA 0 36 (Zp (some ⟨g,0,none⟩)) rfl ?_;refine wpAnyH_ready (rs:=[1,2]) (by kernel_rfl) (by simp) ?_;refine AllReadyH.cons (o:=⟨some 37,_,_,_,_,_⟩) rfl (λ K hK=>?_) (AllReadyH.cons (o:=⟨some 38,_,_,_,_,_⟩) rfl (λ K hK=>?_) AllReadyH.nil)
     ·go_simp;refine (HNM.out _ ((Below.refl w3.heap.size w3).drew)).mono ?_;rintro e w4 ⟨rfl,hb4⟩;rw [HR.out];exact ⟨rfl,rfl,ag HG2.out (aw (((Below.refl w3.heap.size w3).drew).trans (hb4.mono (((Below.refl w3.heap.size w3).drew).size))) (some g))⟩
     ·obtain ⟨y0,y1,y2⟩:=HY2.out.rules;go_simp;refine hK.out _ _ trivial (λ hHeld=>?_);clear hK K y0 y1 y2
      try simp only [pU]
      refine wpAnyH_ready (rs:=[1,3]) (by kernel_rfl) (by simp) ?_;refine AllReadyH.cons (o:=⟨some 37,_,_,_,_,_⟩) rfl (λ K hK=>?_) (AllReadyH.cons (o:=⟨some 39,_,_,_,_,_⟩) rfl (λ K hK=>?_) AllReadyH.nil)
      ·go_simp;refine (HNM.out _ ((Below.refl w3.heap.size w3).drew)).mono ?_;rintro e w4 ⟨rfl,hb4⟩;rw [HR.out];exact ⟨rfl,rfl,ag HG2.out (aw (((Below.refl w3.heap.size w3).drew).trans (hb4.mono (((Below.refl w3.heap.size w3).drew).size))) (some g))⟩
      ·go_simp;refine hK.out _ _ trivial (λ hHeld=>?_);clear hK K
       try simp only [pU]
       refine aV 1 37 rfl (λ K hK=>?_);go_simp;refine (HNM.out _ (((Below.refl w3.heap.size w3).drew.alloc (Nat.le_refl _) (.cells #[Zi Zq k9,Zi Zq k19,Zi Zq n19,Zt s19,Zs A19 na19 ca19,Zs B19 nb19 cb19,Zt s9,Zs A29 n29 ca29] 45)))).mono ?_;rintro e w4 ⟨rfl,hb4⟩;rw [HR.out];exact ⟨rfl,rfl,ag HG2.out (aw ((((Below.refl w3.heap.size w3).drew.alloc (Nat.le_refl _) (.cells #[Zi Zq k9,Zi Zq k19,Zi Zq n19,Zt s19,Zs A19 na19 ca19,Zs B19 nb19 cb19,Zt s9,Zs A29 n29 ca29] 45))).trans (hb4.mono ((((Below.refl w3.heap.size w3).drew.alloc (Nat.le_refl _) (.cells #[Zi Zq k9,Zi Zq k19,Zi Zq n19,Zt s19,Zs A19 na19 ca19,Zs B19 nb19 cb19,Zt s9,Zs A29 n29 ca29] 45))).size))) (some g))⟩
   ·have hs':ao T p' [46]=false:=by simpa using hs
    have HR:=aW (show r=.ok x' p' by rw [HRP.out,vF hT (by rw [HV.out.len];exact hpn),if_neg hs]);have HTN:=aW (ef [46] wr g A nT cap T p' HVP.out hpn HP.out.2 hs');clear hs hs';go_wp2_with (first | (go_at_call 139;refine HTN.out.mono ?_;rintro e w3 ⟨rfl,hb3⟩;obtain ⟨y0,y1,y2⟩:=(HYP.out.keep hb3).rules;obtain ⟨z0,z1,z2⟩:=(HXP.out.keep hb3).rules) | ((with_reducible refine bodyPost_ret (v:=.agg #[Zi Zq k9,Zi Zq k19,Zi Zq n19,Zt s19,Zs A19 na19 ca19,Zs B19 nb19 cb19,Zt s9,Zs A29 n29 ca29]) ?_ rfl ?_);(simp only [results,Tryz.results171];go_simp)));rw [HR.out];refine bI HV.out (HVP.out.keep hb3) (ag HGP.out (aw hb3 (some g))) (HXP.out.keep hb3) _ _ _ _ _ _ _ _ ?_;exact ((HEP.out.bel hb3).keep (gN (λ k hk=>by have:=hk.1;omega) aj.refl _ _ _ _ _ _ _ _)).mono λ k _ hk=>by have:=hk.1;unfold NW;omega
end
end Go.Proofs.YtgmnmnnoahdjnaaGreatDoor
