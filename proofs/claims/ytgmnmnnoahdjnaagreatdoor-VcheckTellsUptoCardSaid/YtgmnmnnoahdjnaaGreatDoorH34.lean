import Derived.Test.YtgmnmnnoahdjnaaGreatDoorH31
open Go.Value renaming int → Zi, slice → Zs, string → Zt, pointer → Zp
open Go.IntKind renaming i64 → Zq
set_option maxRecDepth 100000
set_option maxHeartbeats 16000000
set_option linter.unusedVariables false
set_option linter.unusedSimpArgs false
namespace Go.Proofs.YtgmnmnnoahdjnaaGreatDoor
section
open Go.RowKit
attribute [local go_sem] ab ae af ac
def xq (o:Option Int) (p' pn:Nat) (t':List UInt8) (k l':Int):Prop:=match o with
 | none=>pn=p'/\t'=[]/\k=0/\l'=0
 | some k0=>pn=p'+1/\k=k0/\ofJ k0=(t',k,l')
theorem qK.out9 {o:Option Int} {g:Nat} {A:Option Addr} {nT cap:Nat} {T:List al} {p:Nat} {W:World} {e:Ending} {W':World} (hk:∀ k,o=some k->5<=k/\k<=15) (hV:VP W g A nT cap T p) (h:qK o g A nT cap T p W e W') :
  ∃ (t':List UInt8) (k l':Int) (pn:Nat),e=.returned (.agg #[Zt ⟨t'.toArray⟩,Zi Zq k,Zi Zq l'])/\xq o p pn t' k l'/\VP W' g A nT cap T pn/\W.grownBy W' (some g):=by
 cases o with
 |none =>
  obtain ⟨h1,h2⟩:=h;exact ⟨[],0,0,p,h1,⟨rfl,rfl,rfl,rfl⟩,hV.keep h2,aw h2 _⟩
 |some k =>
  obtain ⟨h1,h2,h3⟩:=h;obtain ⟨t',l',ho,_⟩:=pv (hk k rfl);rw [ho] at h1;exact ⟨t',k,l',p+1,h1,⟨rfl,rfl,ho⟩,h2,h3⟩
theorem uD {w W:World} {r:Option Nat} (h:w.grownBy W r) {b:Nat} (hb:w.heap.size<=b) (x y z:Value):w.grownBy (((W.setCell ⟨b,0,none⟩ x).setCell ⟨b,1,none⟩ y).setCell ⟨b,2,none⟩ z) r :=
 cR (cR (cR h ⟨b,0,none⟩ x hb) ⟨b,1,none⟩ y hb) ⟨b,2,none⟩ z hb
theorem rF (g:Nat) (A:Option Addr) (nT cap:Nat) (T:List al) (N:Nat) (hT:WT T) (hE:nd g A nT cap T N) (lvl p:Nat) (q:Int) (w:World) (hV:VP w g A nT cap T p) (h37:¬ (lvl=3∨lvl=7)) (h8:¬ 8<=lvl) (h1:1<=lvl) (hp:p<nT) (hn:nT<=1000) (hq:q=lvl) (hN:12*(nT-p)+(10-lvl)<=N+1) :
  Calls Tryz.prog 171 #[Zp (some ⟨g,0,none⟩),Zi Zq q] w (cU (eE T lvl p) g A nT cap T w):=by
 obtain ⟨r,hr⟩:∃ r,eE T lvl p=r:=⟨_,rfl⟩
 have HR0:=aW (show r=(match eE T (lvl+1) p with | .ok x q=>eB T lvl x q | .bad q=>.bad q) by rw [← hr];exact we hT h37 h8 (by rw [hV.len];exact hp));rw [hr];have q3:(q == 3)=false:=by rw [beq_eq_false_iff_ne];omega
 have q7:(q == 7)=false:=by rw [beq_eq_false_iff_ne];omega
 have q8:(q == 8)=false:=by rw [beq_eq_false_iff_ne];omega
 have hqw:IntKind.i64.wrap (q+1)=q+1:=by rw [IntKind.wrap_i64];omega
 have HCA:=aW (λ (W:World) (h:Below w.heap.size w W)=>hE (lvl+1) p (q+1) W (hV.keep h) (by omega) (by omega) hp (by omega) (by omega));have hgl:=hV.blk.lt;have hxg:w.heap.size≠g:=by omega
 have HV:=aW hV;have HP:=aW (And.intro hp hn);have HE:=aW (λ (p':Nat) (W:World) (h:VP W g A nT cap T p') (h1:p<=p') (h2:p'<nT)=>hE (lvl+1) p' (q+1) W h (by omega) (by omega) h2 (by omega) (by omega));have HNX:=aW (λ (p':Nat) (W:World) (h:VP W g A nT cap T p') (h1:p'<nT)=>(tV lvl q W g A nT cap T p' h h1 hn hq (by omega)).mono λ e W' hnx=>qK.out9 (λ k hk=>fg hk) h hnx);have HB:=aW (λ (x:EJ) (p':Nat) (h:p'<T.length)=>xz hT (lvl:=lvl) (x:=x) (by omega) h);have HQ:=aW hq;obtain ⟨r1,hr1⟩:∃ r1,eE T (lvl+1) p=r1:=⟨_,rfl⟩
 rw [hr1] at HCA HR0;have HR1:=aW hr1;have hq6:q<=6/\1<=q:=by omega
 clear hV hr hE hp hn hN hr1 h37 h8 h1 hq;have HB0:=aW ((Below.refl w.heap.size w).alloc (Nat.le_refl _) (.cells #[Zi Zq 0,Zi Zq 0,Zi Zq 0,Zt ⟨#[]⟩,Zs none 0 0,Zs none 0 0,Zt ⟨#[]⟩,Zs none 0 0] 45));have HX0:=aW (Blk.new w 45 #[Zi Zq 0,Zi Zq 0,Zi Zq 0,Zt ⟨#[]⟩,Zs none 0 0,Zs none 0 0,Zt ⟨#[]⟩,Zs none 0 0]);cases r1 with
 |bad q1 =>
  have HR:=aW (show r=.bad q1 from HR0.out);rw [HR.out];unfold cU aG at HCA ⊢;go_enter Tryz.func171,Tryz.ntmps171;go_wp2_with fail;refine (HCA.out _ HB0.out).mono ?_;rintro e w1 ⟨rfl,hg1⟩;go_wp2;exact ⟨rfl,rfl,ag (aw HB0.out (some g)) hg1⟩
 |ok x q1 =>
  have HR2:=aW (show r=eB T lvl x q1 from HR0.out);have hq1:=dl hT (by rw [HV.out.len];exact HP.out.1) HR1.out;rw [HV.out.len] at hq1;unfold cU at HCA;go_enter Tryz.func171,Tryz.ntmps171;go_wp2_with fail;refine (HCA.out _ HB0.out).mono ?_;rintro e w1 ⟨cs,rfl,he1,hv1,hg1⟩;obtain ⟨k9,k19,n19,s19,A19,na19,ca19,B19,nb19,cb19,s9,A29,n29,ca29,rfl⟩:=he1.form;have HX1:=aW (HX0.out.grown hg1 (by simpa using hxg));have HG1:=aW (ag (aw HB0.out (some g)) hg1);have hs1:w.heap.size<w1.heap.size:=HX1.out.lt;obtain ⟨YB,hYB⟩:∃ y,w1.heap.size=y:=⟨_,rfl⟩
  have HY1:=aW (Blk.new w1 45 #[Zi Zq k9,Zi Zq k19,Zi Zq n19,Zt s19,Zs A19 na19 ca19,Zs B19 nb19 cb19,Zt s9,Zs A29 n29 ca29]);obtain ⟨W2,hW2⟩:∃ W',w1.alloc (.cells #[Zi Zq k9,Zi Zq k19,Zi Zq n19,Zt s19,Zs A19 na19 ca19,Zs B19 nb19 cb19,Zt s9,Zs A29 n29 ca29] 45)=W':=⟨_,rfl⟩
  have hb2:Below w1.heap.size w1 W2:=by rw [← hW2];exact (Below.refl _ w1).alloc (Nat.le_refl _) _
  have HW2:=aW hW2;rw [hW2,hYB] at HY1;have HYL:=aW (show w.heap.size<YB by omega);have hyg:YB≠g:=by omega
  have hyx:w.heap.size≠YB:=by omega
  have HE2:=aW (show ER W2 (λ b=>w.heap.size<b/\b≠YB) [Zi Zq k9,Zi Zq k19,Zi Zq n19,Zt s19,Zs A19 na19 ca19,Zs B19 nb19 cb19,Zt s9,Zs A29 n29 ca29] x from (he1.mono (F':=λ b=>w.heap.size<b/\b≠YB) λ b hb hF=>by
   have h9:w.heap.size+1<=b:=by unfold NW at hF;simpa using hF
   omega).bel hb2)
  have HV2:=aW (hv1.keep hb2);have HX2:=aW (HX1.out.keep hb2);have HG2:=aW (ag HG1.out (aw hb2 (some g)));clear hv1 hg1 he1 hW2 hb2;go_wp2_with fail;rw [HW2.out]
  try rw [hYB]
  refine (HNX.out q1 W2 HV2.out hq1.2).mono ?_;rintro e w3 ⟨t',k,l',pn,rfl,hnq,hv3,hg3⟩;clear HW2 HX1 HG1 HCA HR0;have HV3:=aW hv3;have HX3:=aW (HX2.out.grown hg3 (by simpa using hxg));have HY3:=aW (HY1.out.grown hg3 (by simpa using hyg));have HE3:=aW (HE2.out.keep (aj.of_grown hg3 λ k hk e=>by injection e with e;have:=hk.1;omega));have HG3:=aW (ag HG2.out hg3);have HNQ:=aW hnq;have hY3:YB<w3.heap.size:=HY3.out.lt;obtain ⟨OB,hOB⟩:∃ y,w3.heap.size=y:=⟨_,rfl⟩
  obtain ⟨W4,hW4⟩:∃ W',w3.alloc (.cells #[Zt ⟨t'.toArray⟩,Zi Zq k,Zi Zq l'] 154)=W':=⟨_,rfl⟩
  have hb4:Below w3.heap.size w3 W4:=by rw [← hW4];exact (Below.refl _ w3).alloc (Nat.le_refl _) _
  have HO4:=aW (show Blk W4 OB 154 #[Zt ⟨t'.toArray⟩,Zi Zq k,Zi Zq l'] by rw [← hW4,← hOB];exact Blk.new _ _ _);have HV4:=aW (hv3.keep hb4);have HX4:=aW (HX3.out.keep hb4);have HY4:=aW (HY3.out.keep hb4);have HE4:=aW (HE3.out.bel hb4);have HG4:=aW (ag HG3.out (aw hb4 (some g)));have HOY:=aW (show YB<OB by omega);have HW4:=aW hW4;clear hv3 hg3 hnq hb4 hW4 HV3 HX3 HY3 HE3 HG3 HV2 HX2 HY1 HE2 HG2;go_wp2_with fail;rw [HW4.out]
  try rw [hOB]
  clear HW4 hOB hY3 hYB;go_loopg [8] (nT-q1) (λ gk s8 wr => ∃ (p' pn OB:Nat) (x':EJ) (t':List UInt8) (k l':Int) (k9 k19 n19:Int) (s19:ByteArray) (A19:Option Addr) (na19 ca19:Nat) (B19:Option Addr) (nb19 cb19:Nat) (s9:ByteArray) (A29:Option Addr) (n29 ca29:Nat),s8=Zp (some ⟨OB,0,none⟩)/\p<=p'/\p'<nT/\YB<OB/\gk=nT-p' /\
   Hid (xq (dU T lvl p') p' pn t' k l')/\Hid (r=eB T lvl x' p')/\Hid (VP wr g A nT cap T pn)/\Hid (Blk wr w.heap.size 45 #[Zi Zq 0,Zi Zq 0,Zi Zq 0,Zt ⟨#[]⟩,Zs none 0 0,Zs none 0 0,Zt ⟨#[]⟩,Zs none 0 0])/\Hid (Blk wr YB 45 #[Zi Zq k9,Zi Zq k19,Zi Zq n19,Zt s19,Zs A19 na19 ca19,Zs B19 nb19 cb19,Zt s9,Zs A29 n29 ca29])/\Hid (Blk wr OB 154 #[Zt ⟨t'.toArray⟩,Zi Zq k,Zi Zq l']) /\
   Hid (ER wr (λ b=>w.heap.size<b/\b≠YB) [Zi Zq k9,Zi Zq k19,Zi Zq n19,Zt s19,Zs A19 na19 ca19,Zs B19 nb19 cb19,Zt s9,Zs A29 n29 ca29] x')/\Hid (w.grownBy wr (some g)))
  case atStart=>exact ⟨q1,pn,OB,x,t',k,l',k9,k19,n19,s19,A19,na19,ca19,B19,nb19,cb19,s9,A29,n29,ca29,rfl,Nat.le_of_lt hq1.1,hq1.2,HOY.out,rfl,HNQ,HR2,HV4,HX4,HY4,HO4,HE4,HG4⟩
  case round =>
   clear HV4 HX4 HY4 HO4 HE4 HG4 HNQ HOY HR2;obtain ⟨p',pn,OB,x',t',k,l',k9,k19,n19,s19,A19,na19,ca19,B19,nb19,cb19,s9,A29,n29,ca29,rfl,hpp,hpn,hoyl,hgk,HNQ,HRP,HV2,HXP,HY2,HO2,HEP,HG2⟩:=hrel;have HGK:=aW hgk;have hn9:=HP.out.2;have hog:OB≠g:=by have:=HYL.out;omega
   have hoy:OB≠YB:=by omega
   have hox:OB≠w.heap.size:=by have:=HYL.out;omega
   clear hgk;have hg:=HV2.out.goe;have hg0:=hg.c0;have hg1:=hg.c1;have hg2:=hg.c2;obtain ⟨o0,o1,o2⟩:=HO2.out.rules;clear hg;obtain ⟨oo,hoo⟩:∃ o,dU T lvl p'=o:=⟨_,rfl⟩
   have hrp:=HRP.out;rw [HB.out x' p' (by rw [HV.out.len];exact hpn),hoo] at hrp;rw [hoo] at HNQ;cases oo with
   |none =>
    obtain ⟨rfl,rfl,rfl,rfl⟩:=HNQ.out;have HR:=aW (show r=.ok x' pn from hrp);obtain ⟨y0,y1,y2⟩:=HY2.out.rules;obtain ⟨z0,z1,z2⟩:=HXP.out.rules;clear hrp hoo;go_wp2_with ((with_reducible refine bodyPost_ret (v:=.agg #[Zi Zq k9,Zi Zq k19,Zi Zq n19,Zt s19,Zs A19 na19 ca19,Zs B19 nb19 cb19,Zt s9,Zs A29 n29 ca29]) ?_ rfl ?_);(simp only [results,Tryz.results171];go_simp));rw [HR.out];refine bI HV.out HV2.out HG2.out HXP.out _ _ _ _ _ _ _ _ ?_;exact (HEP.out.keep (gN (λ k hk=>by have:=hk.1;omega) aj.refl _ _ _ _ _ _ _ _)).mono λ k _ hk=>by have:=hk.1;unfold NW;omega
   |some k0 =>
    obtain ⟨rfl,rfl,hof⟩:=HNQ.out;have hkk:=fg hoo;have ea:(k == 0)=false:=by rw [beq_eq_false_iff_ne];omega
    have hp1:p'+1<nT:=by have h9:=hT.next (p:=p') (by rw [HV.out.len];exact hpn) (eq hoo);rw [HV.out.len] at h9;exact h9
    obtain ⟨r2,hr2⟩:∃ r2,eE T (lvl+1) (p'+1)=r2:=⟨_,rfl⟩
    have HCE:=aW (λ (W:World) (h:VP W g A nT cap T (p'+1))=>HE.out (p'+1) W h (by omega) hp1);simp only at hrp;rw [hr2] at HCE hrp;have HR2:=aW hr2;have HRR:=aW hrp;clear hoo hof hr2 hrp hkk;cases r2 with
    |bad q2 =>
     have HR:=aW (show r=.bad q2 from HRR.out);go_upto_region 17 with fail;refine wp_region_held_drew (S:=λ w'=>w'.cell? ⟨OB,1,none⟩=some (Zi Zq k)) (by kernel_rfl) (by exact (HO2.out.cell 1).trans rfl) (λ hHeld=>?_);refine tA 0 55 (Zp (some ⟨OB,1,none⟩)) rfl ?_;refine tA 1 56 (Zi Zq k) rfl ?_;refine tA 3 58 (Zp (some ⟨g,0,none⟩)) rfl ?_;refine tA 4 59 (Zi Zq q) rfl ?_;refine tA 5 60 (Zi Zq (q+1)) rfl ?_;refine wpAnyH_ready (rs:=[2,6]) (by kernel_rfl) (by simp) ?_;refine AllReadyH.cons (o:=⟨some 57,_,_,_,_,_⟩) rfl (λ K hK=>?_) (AllReadyH.cons (o:=⟨some 61,_,_,_,_,_⟩) rfl (λ K hK=>?_) AllReadyH.nil)
     ·obtain ⟨y0,y1,y2⟩:=HY2.out.rules;go_simp;refine hK.out _ _ ((HO2.out.cell 1).trans rfl) (λ hHeld=>?_);clear hK K y0 y1 y2
      try simp only [pU]
      refine aV 6 61 rfl (λ K hK=>?_);go_simp;refine (HCE.out _ (HV2.out.keep ((Below.refl _ _).drew))).mono ?_;unfold cU aG;rintro e w4 ⟨rfl,hg4⟩;rw [HR.out];exact ⟨rfl,rfl,ag HG2.out (ag (aw ((Below.refl wr.heap.size wr).drew) (some g)) hg4)⟩
     ·go_simp;refine (HCE.out _ (HV2.out.keep ((Below.refl _ _).drew))).mono ?_;unfold cU aG;rintro e w4 ⟨rfl,hg4⟩;rw [HR.out];exact ⟨rfl,rfl,ag HG2.out (ag (aw ((Below.refl wr.heap.size wr).drew) (some g)) hg4)⟩
    |ok y q2 =>
     have hq2:=dl hT (by rw [HV.out.len];exact hp1) HR2.out;rw [HV.out.len] at hq2;have HRQ:=aW (show r=if lvl=4 then .ok (eOp k [x',y]) q2 else eB T lvl (eOp k [x',y]) q2 from HRR.out);unfold cU at HCE;go_upto_region 17 with fail;clear hg0 hg1 hg2 o0 o1 o2;apply qA (R:=λ k7 k17 n17 s17 A17 na17 ca17 B17 nb17 cb17 s7 A27 n27 ca27 Z=>ER Z (NW wr.drew) [Zi Zq k7,Zi Zq k17,Zi Zq n17,Zt s17,Zs A17 na17 ca17,Zs B17 nb17 cb17,Zt s7,Zs A27 n27 ca27] y/\VP Z g A nT cap T q2/\wr.drew.grownBy Z (some g))
     case h =>
      intro HL;refine wp_region_held_drew (S:=λ w'=>w'.cell? ⟨OB,1,none⟩=some (Zi Zq k)) (by kernel_rfl) (by exact (HO2.out.cell 1).trans rfl) (λ hHeld=>?_);refine tA 0 55 (Zp (some ⟨OB,1,none⟩)) rfl ?_;refine tA 1 56 (Zi Zq k) rfl ?_;refine tA 3 58 (Zp (some ⟨g,0,none⟩)) rfl ?_;refine tA 4 59 (Zi Zq q) rfl ?_;refine tA 5 60 (Zi Zq (q+1)) rfl ?_;refine wpAnyH_ready (rs:=[2,6]) (by kernel_rfl) (by simp) ?_;refine AllReadyH.cons (o:=⟨some 57,_,_,_,_,_⟩) rfl (λ K hK=>?_) (AllReadyH.cons (o:=⟨some 61,_,_,_,_,_⟩) rfl (λ K hK=>?_) AllReadyH.nil)
      ·obtain ⟨y0,y1,y2⟩:=HY2.out.rules;go_simp;refine hK.out _ _ ((HO2.out.cell 1).trans rfl) (λ hHeld=>?_);clear hK K y0 y1 y2
       try simp only [pU]
       refine aV 6 61 rfl (λ K hK=>?_);go_simp;refine (HCE.out _ (HV2.out.keep ((Below.refl _ _).drew))).mono ?_;unfold cU;rintro e w4 ⟨cs,rfl,he4,hv4,hg4⟩;obtain ⟨k7,k17,n17,s17,A17,na17,ca17,B17,nb17,cb17,s7,A27,n27,ca27,rfl⟩:=he4.form;have HR4:=aW (And.intro he4 (And.intro hv4 hg4));have HO4:=aW ((HO2.out.drew).grown hg4 (by simp [hog]));have HYC:=aW ((HY2.out.drew).grown hg4 (by simp [hyg]));clear he4 hv4 hg4;refine hK.out _ _ ((HO4.out.cell 1).trans rfl) (λ hHeld=>?_);clear hK K
       try simp only [pU]
       refine cM (l':=#[true,true,true,true,true,true,true,false,false,false]) (by kernel_rfl) ?_;exact HL _ _ _ _ _ _ _ _ _ _ _ _ _ _ _ HR4.out
      ·go_simp;refine (HCE.out _ (HV2.out.keep ((Below.refl _ _).drew))).mono ?_;unfold cU;rintro e w4 ⟨cs,rfl,he4,hv4,hg4⟩;obtain ⟨k7,k17,n17,s17,A17,na17,ca17,B17,nb17,cb17,s7,A27,n27,ca27,rfl⟩:=he4.form;have HR4:=aW (And.intro he4 (And.intro hv4 hg4));have HO4:=aW ((HO2.out.drew).grown hg4 (by simp [hog]));have HYC:=aW ((HY2.out.drew).grown hg4 (by simp [hyg]));clear he4 hv4 hg4;refine hK.out _ _ ((HO4.out.cell 1).trans rfl) (λ hHeld=>?_);clear hK K
       try simp only [pU]
       refine aV 2 57 rfl (λ K hK=>?_);obtain ⟨y0,y1,y2⟩:=HYC.out.rules;go_simp;refine hK.out _ _ ((HO4.out.cell 1).trans rfl) (λ hHeld=>?_);clear hK K y0 y1 y2
       try simp only [pU]
       refine cM (l':=#[true,true,true,true,true,true,true,false,false,false]) (by kernel_rfl) ?_;exact HL _ _ _ _ _ _ _ _ _ _ _ _ _ _ _ HR4.out
     case hleaf =>
      rintro k7 k17 n17 s17 A17 na17 ca17 B17 nb17 cb17 s7 A27 n27 ca27 Z ⟨he4,hv4,hg4⟩;have hZL:=hg4.size;have HO4:=aW ((HO2.out.drew).grown hg4 (by simp [hog]));have HY4:=aW ((HY2.out.drew).grown hg4 (by simp [hyg]));have HX4:=aW ((HXP.out.drew).grown hg4 (by simp [hxg]));have HG4:=aW (ag HG2.out (ag (aw ((Below.refl wr.heap.size wr).drew) (some g)) hg4));have HEX:=aW (HEP.out.keep (aj.of_grown (ag (aw ((Below.refl wr.heap.size wr).drew) (some g)) hg4) λ k hk e=>by injection e with e;have:=hk.1;omega));have HEY:=aW (he4.mono (F':=λ b=>w.heap.size<b/\b≠YB) λ b hb hF=>by
       have h9:wr.heap.size<=b:=hF;have:=HO2.out.lt;have:=HYL.out;omega)
      have HV4:=aW hv4;have HZL:=aW (show wr.heap.size<=Z.heap.size from hZL);have HOL:=aW HO2.out.lt;have hHeld:Z.cell? ⟨OB,1,none⟩=some (Zi Zq k):=(HO4.out.cell 1).trans rfl;clear he4 hv4 hg4 hZL;refine aV 7 62 rfl (λ K hK=>?_);go_simp;have HO5:=aW (HO4.out.alloc (.cells #[Zi Zq k9,Zi Zq k19,Zi Zq n19,Zt s19,Zs A19 na19 ca19,Zs B19 nb19 cb19,Zt s9,Zs A29 n29 ca29,Zi Zq k7,Zi Zq k17,Zi Zq n17,Zt s17,Zs A17 na17 ca17,Zs B17 nb17 cb17,Zt s7,Zs A27 n27 ca27] 45));refine hK.out _ _ ((HO5.out.cell 1).trans rfl) (λ hHeld=>?_);clear hK K
      try simp only [pU]
      obtain ⟨b5,hb5⟩:∃ b,Z.heap.size=b:=⟨_,rfl⟩
      have HB5:=aW (Blk.new Z 45 #[Zi Zq k9,Zi Zq k19,Zi Zq n19,Zt s19,Zs A19 na19 ca19,Zs B19 nb19 cb19,Zt s9,Zs A29 n29 ca29,Zi Zq k7,Zi Zq k17,Zi Zq n17,Zt s17,Zs A17 na17 ca17,Zs B17 nb17 cb17,Zt s7,Zs A27 n27 ca27]);refine bA (λ Y hY=>?_);have HYZ:=aW (show Below Z.heap.size Z Y by rw [hY];exact (Below.refl _ Z).alloc (Nat.le_refl _) _);rw [← hY,hb5] at HB5;rw [← hY] at HO5;rw [← hY] at hHeld;rw [hb5];clear hY;refine tA 8 63 (.agg #[Zi Zq k,Zi Zq 0,Zi Zq 0,Zt ⟨#[]⟩,Zs none 0 0,Zs none 0 0,Zt ⟨#[]⟩,Zs (some ⟨b5,0,none⟩) 2 2]) rfl ?_;refine aU 9 rfl (λ K hK=>?_);have HY5:=aW (HY4.out.keep HYZ.out);obtain ⟨y0,y1,y2⟩:=HY5.out.rules;go_simp;refine hK.out _ _ ((Blk.cell (Blk.far8 HO5.out hoy _ _ _ _ _ _ _ _) 1).trans rfl) (λ hHeld2=>?_);clear hK K hHeld hHeld2 y0 y1 y2
      try simp only [pU]
      refine aX ?_;have hby:b5≠YB:=by have:=HOL.out;have:=HZL.out;omega
      have hb5l:w.heap.size<b5:=by have:=HOL.out;have:=HZL.out;have:=HYL.out;omega
      obtain ⟨W9,hW9⟩:∃ W',((((((((Y.setCell ⟨YB,0,none⟩ (Zi Zq k)).setCell ⟨YB,1,none⟩ (Zi Zq 0)).setCell ⟨YB,2,none⟩ (Zi Zq 0)).setCell ⟨YB,3,none⟩ (Zt ⟨#[]⟩)).setCell ⟨YB,4,none⟩ (Zs none 0 0)).setCell ⟨YB,5,none⟩ (Zs none 0 0)).setCell ⟨YB,6,none⟩ (Zt ⟨#[]⟩)).setCell ⟨YB,7,none⟩ (Zs (some ⟨b5,0,none⟩) 2 2))=W':=⟨_,rfl⟩
      rw [hW9];have hg9:w.grownBy W9 (some g):=by rw [← hW9];exact ix (ag HG4.out (aw HYZ.out _)) (Nat.le_of_lt HYL.out) _ _ _ _ _ _ _ _
      have HV9:=aW (show VP W9 g A nT cap T q2 from HV.out.step hg9 (by rw [← hW9];exact Blk.far8 (HV4.out.keep HYZ.out).blk (Ne.symm hyg) _ _ _ _ _ _ _ _));have HX9:=aW (show Blk W9 w.heap.size 45 #[Zi Zq 0,Zi Zq 0,Zi Zq 0,Zt ⟨#[]⟩,Zs none 0 0,Zs none 0 0,Zt ⟨#[]⟩,Zs none 0 0] by rw [← hW9];exact Blk.far8 (HX4.out.keep HYZ.out) hyx _ _ _ _ _ _ _ _);have HY9:=aW (show Blk W9 YB 45 #[Zi Zq k,Zi Zq 0,Zi Zq 0,Zt ⟨#[]⟩,Zs none 0 0,Zs none 0 0,Zt ⟨#[]⟩,Zs (some ⟨b5,0,none⟩) 2 2] by rw [← hW9];exact HY5.out.set8C _ _ _ _ _ _ _ _);have HO9:=aW (show Blk W9 OB 154 #[Zt ⟨t'.toArray⟩,Zi Zq k,Zi Zq l'] by rw [← hW9];exact Blk.far8 HO5.out hoy _ _ _ _ _ _ _ _);have HE9:=aW (show ER W9 (λ b=>w.heap.size<b/\b≠YB) [Zi Zq k,Zi Zq 0,Zi Zq 0,Zt ⟨#[]⟩,Zs none 0 0,Zs none 0 0,Zt ⟨#[]⟩,Zs (some ⟨b5,0,none⟩) 2 2] (eOp k [x',y]) by
       have hk8:=gN (F:=λ b=>w.heap.size<b/\b≠YB) (a:=Y) (w:=Y) (b:=YB) (λ k hk=>hk.2) aj.refl (Zi Zq k) (Zi Zq 0) (Zi Zq 0) (Zt ⟨#[]⟩) (Zs none 0 0) (Zs none 0 0) (Zt ⟨#[]⟩) (Zs (some ⟨b5,0,none⟩) 2 2);have hx9:=(HEX.out.bel HYZ.out).keep hk8;have hy9:=(HEY.out.bel HYZ.out).keep hk8;have hb9:=Blk.far8 HB5.out hby (Zi Zq k) (Zi Zq 0) (Zi Zq 0) (Zt ⟨#[]⟩) (Zs none 0 0) (Zs none 0 0) (Zt ⟨#[]⟩) (Zs (some ⟨b5,0,none⟩) 2 2);rw [hW9] at hx9 hy9 hb9;exact ER.into (s:=[]) (kids:=[x',y]) (css:=[[Zi Zq k9,Zi Zq k19,Zi Zq n19,Zt s19,Zs A19 na19 ca19,Zs B19 nb19 cb19,Zt s9,Zs A29 n29 ca29],[Zi Zq k7,Zi Zq k17,Zi Zq n17,Zt s17,Zs A17 na17 ca17,Zs B17 nb17 cb17,Zt s7,Zs A27 n27 ca27]]) VR.zero (RR.snoc (RR.snoc RR.nil hx9) hy9) rfl (by simp) (λ h=>by cases h) (RdF.of_blk9 hb9 ⟨hb5l,hby⟩))
      have HG9:=aW hg9;clear hW9 hg9 HO4 HY4 HX4 HG4 HEX HEY HV4 HZL HB5 HO5 HY5 HYZ;by_cases h4:lvl=4
      ·have q4:(q == 4)=true:=by rw [beq_iff_eq];have:=HQ.out;omega
       have HR:=aW (show r=.ok (eOp k [x',y]) q2 by rw [HRQ.out,if_pos h4]);obtain ⟨y0,y1,y2⟩:=HY9.out.rules;obtain ⟨z0,z1,z2⟩:=HX9.out.rules;clear h4;go_wp2_with ((with_reducible refine bodyPost_ret (v:=.agg #[Zi Zq k,Zi Zq 0,Zi Zq 0,Zt ⟨#[]⟩,Zs none 0 0,Zs none 0 0,Zt ⟨#[]⟩,Zs (some ⟨b5,0,none⟩) 2 2]) ?_ rfl ?_);(simp only [results,Tryz.results171];go_simp));rw [HR.out];refine bI HV.out HV9.out HG9.out HX9.out _ _ _ _ _ _ _ _ ?_;exact (HE9.out.keep (gN (λ k hk=>by have:=hk.1;omega) aj.refl _ _ _ _ _ _ _ _)).mono λ k _ hk=>by have:=hk.1;unfold NW;omega
      ·have q4:(q == 4)=false:=by rw [beq_eq_false_iff_ne];have:=HQ.out;omega
       have HR:=aW (show r=eB T lvl (eOp k [x',y]) q2 by rw [HRQ.out,if_neg h4]);clear h4;obtain ⟨y0,y1,y2⟩:=HO9.out.rules;go_wp2_with fail;refine (HNX.out q2 _ (HV9.out.keep ((Below.refl _ W9).alloc (Nat.le_refl _) _)) hq2.2).mono ?_;rintro e w11 ⟨t'',k'',l'',pn',rfl,hnq,hv11,hg11⟩;have hOL9:=HO9.out.lt;have hYL9:=HY9.out.lt;have hb10:Below W9.heap.size W9 (W9.alloc (.cells #[Zt ⟨t'.toArray⟩,Zi Zq k,Zi Zq l'] 154)):=(Below.refl _ W9).alloc (Nat.le_refl _) _;have h9g:W9.heap.size≠g:=by have:=HYL.out;omega
       have HO11:=aW ((Blk.new W9 154 #[Zt ⟨t'.toArray⟩,Zi Zq k,Zi Zq l']).grown hg11 (by simpa using h9g));have HV11:=aW hv11;have HG11:=aW (ag HG9.out (ag (aw hb10 (some g)) hg11));have HX11:=aW ((HX9.out.keep hb10).grown hg11 (by simpa using hxg));have HY11:=aW ((HY9.out.keep hb10).grown hg11 (by simpa using hyg));have HE11:=aW (((HE9.out.mono (F':=λ b=>(w.heap.size<b/\b≠YB)/\b≠W9.heap.size) λ b hb hF=>⟨hF,Nat.ne_of_lt hb⟩).bel hb10).keep (aj.of_grown hg11 λ k hk e=>by injection e with e;have:=hk.1.1;omega));have HNQ11:=aW hnq;have hw9:w.heap.size<W9.heap.size:=by have:=HYL.out;omega
       have HW9:=aW (And.intro hw9 hYL9);obtain ⟨z0,z1,z2⟩:=HO11.out.rules;clear hnq hv11 hg11 hb10 y0 y1 y2 hOL9 hYL9 hw9;obtain ⟨OB2,hOB2⟩:∃ b,W9.heap.size=b:=⟨_,rfl⟩
       rw [hOB2] at z0 z1 z2 HO11 HW9 HE11 h9g ⊢;go_wp2;have hgz:=uD HG11.out (Nat.le_of_lt HW9.out.1) (Zt ⟨t''.toArray⟩) (Zi Zq k'') (Zi Zq l'');go_roundg (nT-q2)
       case measure=>have:=HGK.out;omega
       case rel =>
        refine ⟨q2,pn',OB2,eOp k [x',y],t'',k'',l'',k,0,0,⟨#[]⟩,none,0,0,none,0,0,⟨#[]⟩,some ⟨b5,0,none⟩,2,2,rfl,by omega,hq2.2,HW9.out.2,rfl,HNQ11,HR,aW (HV.out.step hgz (Blk.far3 HV11.out.blk (Ne.symm h9g) _ _ _)),aW (Blk.far3 HX11.out (Nat.ne_of_lt HW9.out.1) _ _ _),aW (Blk.far3 HY11.out (Nat.ne_of_lt HW9.out.2) _ _ _),aW (((HO11.out.set_ 0 _).set_ 1 _).set_ 2 _),aW ?_,aW hgz⟩;exact (HE11.out.keep (((aj.refl.set (λ k hk=>hk.2) 0 _).set (λ k hk=>hk.2) 1 _).set (λ k hk=>hk.2) 2 _)).mono λ b _ hb=>hb.1
theorem mZ (g:Nat) (A:Option Addr) (nT cap:Nat) (T:List al) (hT:WT T) (hn:nT<=1000):∀ N,nd g A nT cap T N
 | 0=>λ lvl p q W hV h1 h8 hp hq hN=>by omega
 |N+1=>λ lvl p q W hV h1 h8 hp hq hN=>by
  have ih:=mZ g A nT cap T hT hn N;by_cases h37:lvl=3∨lvl=7
  ·exact rG g A nT cap T N hT ih lvl p q W hV h37 hp hn hq hN
  ·by_cases h88:8<=lvl
   ·obtain rfl:lvl=8:=by omega
    rw [hq];exact pT g A nT cap T N hT ih p W hV hp hn (by omega)
   ·exact rF g A nT cap T N hT ih lvl p q W hV h37 h88 h1 hp hn hq hN
end
end Go.Proofs.YtgmnmnnoahdjnaaGreatDoor
