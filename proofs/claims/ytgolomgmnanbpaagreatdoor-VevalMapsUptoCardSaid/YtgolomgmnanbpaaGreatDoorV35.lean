import Derived.Test.YtgolomgmnanbpaaGreatDoorV33
import Derived.Test.YtgolomgmnanbpaaGreatDoorV34
open Go.Value renaming int → Zi, slice → Zs, string → Zt, pointer → Zp
open Go.IntKind renaming i64 → Zq
set_option maxRecDepth 100000
set_option maxHeartbeats 16000000
set_option linter.unusedVariables false
set_option linter.unusedSimpArgs false
namespace Go.Proofs.YtgolomgmnanbpaaGreatDoor
section
open Go.RowKit
attribute [local go_sem] aa ac ae ab
theorem sE:∀ d,uD d
 | 0=>pR 0 (λ h=>absurd rfl h)
 | d+1=>pR (d+1) (λ _=>sE d)
def qu:List UInt8:=[100,111,99]
def idT:List UInt8:=[105,100]
def gP (id:List UInt8) (v:JV):List (List UInt8 × JV):=[(qu,v),(idT,bQ id)]
def eQ (l:List SJ) (id:List UInt8) (v:JV):List (JV × JV) × Int :=
 if jb l=false then ([],332) else if gi id=false then ([],290) else if good v=false then ([],140) else ((goL (gP id v) (0,[]) l).2,0)
def oQ (r:List (JV × JV) × Int) (w:World) (e:Ending) (w':World):Prop:=∃ (A:Option Addr) (n cap:Nat) (ess:List (List Value)),e=.returned (.tuple #[Zs A n cap,Zi Zq r.2])/\r.1.length=n/\n<=cap/\(A=none->cap=0)/\e9 w' TT ess r.1/\RdF w' TT A ess.flatten/\(∀ y ∈ r.1,au y.1/\au y.2)/\Below w.heap.size w w'
theorem oQ.err {q:Int} {w w':World} (hb:Below w.heap.size w w'):oQ ([],q) w (.returned (.tuple #[Zs none 0 0,Zi Zq q])) w' :=
 ⟨none,0,0,[],rfl,rfl,Nat.le_refl _,λ _=>rfl,RR.nil,RdF.nil,(λ y hy=>by cases hy),hb⟩
theorem iU:∀ {s:List UInt8},(∀ c ∈ s,c.toNat<128)->aL s=true
 | [],_=>qD
 |c::r,h=>by
  rw [cV (by simp),kN (h c List.mem_cons_self),if_neg (by show ¬ (1=0);decide)];exact iU (s:=r) (λ y hy=>h y (List.mem_cons_of_mem _ hy))
theorem j2 {s:List UInt8} (h:gi s=true):aL s=true:=by
 unfold gi at h;rw [Bool.and_eq_true,List.all_eq_true] at h;refine iU λ c hc=>?_
 have h1:=h.2 c hc;unfold cu at h1;rw [decide_eq_true_eq] at h1;omega
theorem vy (l:List SJ) (css:List (List Value)) (A:Option Addr) (n ca:Nat) (id:List UInt8) (v:JV) (vcs:List Value) (w:World) (hG:GOE w) (hS:SRs w TT css l) (hln:l.length=n) (hnc:n<=ca) (hR:RdF w TT A css.flatten) (hC:bK l) (hsm:ee l) (hn:n<=4194304) (hid:id.length<=4194304) (hv:VR w TT vcs v) (hcv:au v) :
  Calls Tryz.prog 21 #[.agg #[Zs A n ca],Zt ⟨id.toArray⟩,.agg vcs.toArray] w (oQ (eQ l id v) w):=by
 have HV:=aW (λ (W:World) (h:Below w.heap.size w W)=>hv.bel h);obtain ⟨k1,n1,s1,A1,na1,ca1,B1,nb1,cb1,rfl⟩:=hv.form;have HCK:=aW (λ (W:World) (h:Below w.heap.size w W)=>rB l css A n ca TT W (hG.keep h) (RR.imp hS λ c x hc=>hc.bel h) hln hnc (hR.keep (af.of_below h)) hC hn);have HID:=aW (λ (W:World)=>uZ id hid W);have HVC:=aW (λ (W:World) (h:Below w.heap.size w W) (q:Int) (hq:dV v=q)=>ey hq (hG.keep h).gok (hv.bel h) hcv);have HSR:=aW (And.intro hS hR);have HQ:=aW (And.intro hln (And.intro hC (And.intro hsm hcv)));have HG:=aW hG;have HIL:=aW hid;have HH0:=aW (((aj.nil w).push 46 #[Zs A n ca] (g:=w.heap.size) rfl).push 25 #[Zi Zq k1,Zi Zq n1,Zt s1,Zs A1 na1 ca1,Zs B1 nb1 cb1] (g:=w.heap.size+1) (by simp));clear hG hS hln hR hC hsm hid hv hcv;unfold uX qP at HCK;unfold IdP at HID;obtain ⟨c0,f0,l0⟩:=HH0.out.b1.rules;obtain ⟨m,hm⟩:∃ m,eQ l id v=m:=⟨_,rfl⟩
 have HMJ:=aW hm;rw [hm];clear hm;by_cases hp:jb l=true;rotate_left
 ·rw [if_neg hp] at HCK;have HE:=aW (show m=([],332) by rw [← HMJ.out];unfold eQ;rw [if_pos (by simpa using hp)]);clear hp;go_enter Tryz.func21,Tryz.ntmps21;go_wp2_with fail;refine (HCK.out _ HH0.out.1).mono ?_;rintro e w1 ⟨rfl,hb1⟩;have HH1:=aW (HH0.out.keep hb1);clear hb1 c0 f0 l0;go_wp2;go_ret2;rw [HE.out];exact oQ.err HH1.out.1
 rw [if_pos hp] at HCK;have HPO:=aW hp;by_cases hi:gi id=true;rotate_left
 ·rw [if_neg hi] at HID;have HE:=aW (show m=([],290) by rw [← HMJ.out];unfold eQ;rw [if_neg (by simpa using hp),if_pos (by simpa using hi)]);clear hp hi;go_enter Tryz.func21,Tryz.ntmps21;go_wp2_with fail;refine (HCK.out _ HH0.out.1).mono ?_;rintro e w1 ⟨rfl,hb1⟩;have HH1:=aW (HH0.out.keep hb1);clear hb1 c0 f0 l0;go_wp2_with fail;refine (HID.out _).mono ?_;rintro e w2 ⟨rfl,rfl⟩;go_wp2;go_ret2;rw [HE.out];exact oQ.err HH1.out.1
 rw [if_pos hi] at HID;by_cases hg:good v=true;rotate_left
 ·have HV2:=aW (λ (W:World) (h:Below w.heap.size w W)=>HVC.out W h 140 (by unfold dV;rw [if_neg hg]));have HE:=aW (show m=([],140) by rw [← HMJ.out];unfold eQ;rw [if_neg (by simpa using hp),if_neg (by simpa using hi),if_pos (by simpa using hg)]);clear hp hi hg HVC;go_enter Tryz.func21,Tryz.ntmps21;go_wp2_with fail;refine (HCK.out _ HH0.out.1).mono ?_;rintro e w1 ⟨rfl,hb1⟩;have HH1:=aW (HH0.out.keep hb1);clear hb1 c0 f0 l0;obtain ⟨c0,f0,l0⟩:=HH1.out.b0.rules;go_wp2_with fail;refine (HID.out _).mono ?_;rintro e w2 ⟨rfl,rfl⟩;go_wp2_with fail;refine (HV2.out _ HH1.out.1).mono ?_;rintro e w3 ⟨rfl,hb3⟩;have HH3:=aW (HH1.out.keep hb3);clear hb3 c0 f0 l0;go_wp2;go_ret2;rw [HE.out];exact oQ.err HH3.out.1
 have HV2:=aW (λ (W:World) (h:Below w.heap.size w W)=>HVC.out W h 0 (by unfold dV;rw [if_pos hg]));have HE:=aW (show m=((goL (gP id v) (0,[]) l).2,0) by rw [← HMJ.out];unfold eQ;rw [if_neg (by simpa using hp),if_neg (by simpa using hi),if_neg (by simpa using hg)]);have hgt:good (bQ id)=true:=by
  have h1:=j2 hi;unfold good bQ aN aI ar ay bz;simp [h1]
 have HTX:=aW (λ W (h:GOK W)=>ge hgt HIL.out W h);have HGV:=aW (And.intro hg hgt);clear hp hi hg HVC hgt;go_enter Tryz.func21,Tryz.ntmps21;go_wp2_with fail;refine (HCK.out _ HH0.out.1).mono ?_;rintro e w1 ⟨rfl,hb1⟩;have HH1:=aW (HH0.out.keep hb1);clear hb1 c0 f0 l0;obtain ⟨c0,f0,l0⟩:=HH1.out.b0.rules;go_wp2_with fail;refine (HID.out _).mono ?_;rintro e w2 ⟨rfl,rfl⟩;go_wp2_with fail;refine (HV2.out _ HH1.out.1).mono ?_;rintro e w3 ⟨rfl,hb3⟩;have HH3:=aW (HH1.out.keep hb3);clear hb3 c0 f0 l0;go_wp2_with fail;refine (HTX.out _ (HG.out.keep HH3.out.1).gok).mono ?_;rintro e w4 ⟨cs4,rfl,hv4,hb4⟩;have HH4:=aW (HH3.out.keep hb4);have HV4:=aW hv4;obtain ⟨k5,n5,s5,A5,na5,ca5,B5,nb5,cb5,rfl⟩:=hv4.form;clear hb4 hv4;have HH5:=aW (HH4.out.push 25 #[Zi Zq k5,Zi Zq n5,Zt s5,Zs A5 na5 ca5,Zs B5 nb5 cb5] (g:=w4.heap.size) rfl);obtain ⟨c0,f0,l0⟩:=HH4.out.b0.rules;go_upto_region 12 with fail;obtain ⟨WM,hWM⟩:∃ WM,((w4.alloc (.cells #[Zi Zq k5,Zi Zq n5,Zt s5,Zs A5 na5 ca5,Zs B5 nb5 cb5] 25)).alloc (.cells #[Zt ⟨#[100,111,99]⟩,Zi Zq k1,Zi Zq n1,Zt s1,Zs A1 na1 ca1,Zs B1 nb1 cb1,Zt ⟨#[105,100]⟩,Zi Zq k5,Zi Zq n5,Zt s5,Zs A5 na5 ca5,Zs B5 nb5 cb5] 37)).alloc (.cells #[Zi Zq 0,Zs (some ⟨w4.heap.size+1,0,none⟩) 2 2,Zs none 0 0] 88)=WM:=⟨_,rfl⟩
 have hbm:Below w4.heap.size w4 WM:=by rw [← hWM];exact (((Below.refl _ w4).alloc (Nat.le_refl _) _).alloc (by simp) _).alloc (by simp;omega) _
 have hsm:WM.heap.size=w4.heap.size+3:=by rw [← hWM];simp
 have hBM:Blk WM (w4.heap.size+1+1) 88 #[Zi Zq 0,Zs (some ⟨w4.heap.size+1,0,none⟩) 2 2,Zs none 0 0]:=by
  rw [← hWM];have:=Blk.new ((w4.alloc (.cells #[Zi Zq k5,Zi Zq n5,Zt s5,Zs A5 na5 ca5,Zs B5 nb5 cb5] 25)).alloc (.cells #[Zt ⟨#[100,111,99]⟩,Zi Zq k1,Zi Zq n1,Zt s1,Zs A1 na1 ca1,Zs B1 nb1 cb1,Zt ⟨#[105,100]⟩,Zi Zq k5,Zi Zq n5,Zt s5,Zs A5 na5 ca5,Zs B5 nb5 cb5] 37)) 88 #[Zi Zq 0,Zs (some ⟨w4.heap.size+1,0,none⟩) 2 2,Zs none 0 0];rw [World.size_alloc,World.size_alloc] at this;exact this
 have hBE:Blk WM (w4.heap.size+1) 37 #[Zt ⟨#[100,111,99]⟩,Zi Zq k1,Zi Zq n1,Zt s1,Zs A1 na1 ca1,Zs B1 nb1 cb1,Zt ⟨#[105,100]⟩,Zi Zq k5,Zi Zq n5,Zt s5,Zs A5 na5 ca5,Zs B5 nb5 cb5]:=by
  rw [← hWM];have:=Blk.new (w4.alloc (.cells #[Zi Zq k5,Zi Zq n5,Zt s5,Zs A5 na5 ca5,Zs B5 nb5 cb5] 25)) 37 #[Zt ⟨#[100,111,99]⟩,Zi Zq k1,Zi Zq n1,Zt s1,Zs A1 na1 ca1,Zs B1 nb1 cb1,Zt ⟨#[105,100]⟩,Zi Zq k5,Zi Zq n5,Zt s5,Zs A5 na5 ca5,Zs B5 nb5 cb5];rw [World.size_alloc] at this;exact this.alloc _
 have hMM:Below w.heap.size w WM:=HH4.out.1.trans (hbm.mono HH4.out.1.size);rw [hWM];clear hWM c0 f0 l0;have hwm4:w.heap.size<=w4.heap.size:=HH4.out.1.size;have hold:∀ b,b<w4.heap.size->PbM (w4.heap.size+1+1) (Zs none 0 0) WM b:=λ b hb=>⟨by omega,by omega,by simp [Value.ownBlock]⟩
 have hvM:VR WM (PbM (w4.heap.size+1+1) (Zs none 0 0) WM) [Zi Zq k1,Zi Zq n1,Zt s1,Zs A1 na1 ca1,Zs B1 nb1 cb1] v:=(((HV.out _ HH4.out.1).mono (F':=λ b=>b<w4.heap.size) λ b hb _=>hb).keep (af.of_below hbm)).mono λ b _ hb=>hold b hb
 have hiM:VR WM (PbM (w4.heap.size+1+1) (Zs none 0 0) WM) [Zi Zq k5,Zi Zq n5,Zt s5,Zs A5 na5 ca5,Zs B5 nb5 cb5] (bQ id):=HV4.out.anyW;have hms:MS (w4.heap.size+1+1) (some ⟨w4.heap.size+1,0,none⟩) 2 [[Zt ⟨#[100,111,99]⟩,Zi Zq k1,Zi Zq n1,Zt s1,Zs A1 na1 ca1,Zs B1 nb1 cb1],[Zt ⟨#[105,100]⟩,Zi Zq k5,Zi Zq n5,Zt s5,Zs A5 na5 ca5,Zs B5 nb5 cb5]] (Zs none 0 0) [] (gP id v) (0,[]) WM:=by
  refine ⟨hBM,World.ownsRow_nil _ _ _ _,RR.nil,?_,?_,Nat.le_refl _,?_,by show 2<=4194304;omega,⟨w,HG.out,by omega,hMM⟩,by show 0<=4;omega,by show 0<=256;omega,λ y hy=>by cases hy⟩
  ·exact (RR.nil.snoc (x:=(qu,v)) ⟨[Zi Zq k1,Zi Zq n1,Zt s1,Zs A1 na1 ca1,Zs B1 nb1 cb1],rfl,hvM⟩).snoc (x:=(idT,bQ id)) ⟨[Zi Zq k5,Zi Zq n5,Zt s5,Zs A5 na5 ca5,Zs B5 nb5 cb5],rfl,hiM⟩
  ·intro hne;refine ⟨_,_,rfl,by omega,⟨by omega,by omega,by simp [Value.ownBlock]⟩,λ j hj=>?_⟩;rw [Nat.zero_add,hBE.cell];simp at hj;simp [hj]
  ·intro b hb;rcases List.mem_cons.1 hb with rfl | hb
   ·exact ⟨HGV.out.1,HQ.out.2.2.2⟩
   ·obtain rfl:=List.mem_singleton.1 hb;exact ⟨HGV.out.2,aw (by unfold iw;omega) (by unfold iw;omega) HIL.out⟩
 have hsM:SRs WM (PbM (w4.heap.size+1+1) (Zs none 0 0) WM) css l:=RR.imp HSR.out.1 λ c x hc=>((hc.mono (F':=λ b=>b<w.heap.size) λ b hb _=>hb).keep ((af.of_below hMM))).mono λ b _ hb=>hold b (by omega)
 have hrM:RdF WM (PbM (w4.heap.size+1+1) (Zs none 0 0) WM) A css.flatten:=((HSR.out.2.mono (F':=λ b=>b<w.heap.size) λ b hb _=>hb).keep ((af.of_below hMM))).mono λ b _ hb=>hold b (by omega)
 have HST:=aW (sE 12 l _ _ _ _ _ _ (gP id v) (0,[]) WM css A n ca hms hsM HQ.out.1 hnc hrM HPO.out HQ.out.2.1 HQ.out.2.2.1 hn (by show 2+12<=4194304;omega) (by unfold gP;simp));have HMM:=aW (And.intro hMM (And.intro hwm4 hbm.size));obtain ⟨c0,f0,l0⟩:=(HH4.out.b1.keep hbm).rules;clear hms hsM hrM hvM hiM hold hBM hBE hMM hbm hsm hwm4;go_wp2_with fail;refine HST.out.mono ?_;rintro e w7 ⟨⟨v7,rfl⟩,em7,es7,hM7,hG7⟩;have hb7:=HMM.out.1.trans (hG7.below (base:=w.heap.size) HMM.out.1.size (by have:=HMM.out.2.1;omega) (λ k h=>by simp [Value.ownBlock] at h));obtain ⟨EA7,ec7,rfl,he7,hA7,hr7⟩:=aP hM7.own;obtain ⟨ne7,hne7⟩:∃ q,(goL (gP id v) (0,[]) l).2.length=q:=⟨_,rfl⟩
 have HX:=aW (show oQ m w (.returned (.tuple #[Zs EA7 ne7 ec7,Zi Zq 0])) w7 by
  rw [HE.out];exact ⟨EA7,ne7,ec7,es7,rfl,hne7,by rw [← hne7];exact he7,hA7,RR.imp hM7.ems λ c x hc=>hc.mono λ _ _ _=>trivial,hr7.mono λ _ _ _=>trivial,hM7.emc,hb7⟩)
 obtain ⟨c9,f9,l9⟩:=hM7.blk.rules;rw [hne7] at c9;clear hM7 hG7 hb7 he7 hA7 hr7 hne7 c0 f0 l0;go_wp2;go_ret2;exact HX.out
def GoP (F:Nat->Prop) (st:MSt) (w:World) (e:Ending) (w':World):Prop:=∃ (A:Option Addr) (n cap:Nat) (ess:List (List Value)),e=.returned (.agg #[Zs A n cap,Zi Zq (st.1:Nat)])/\st.2.length=n/\n<=cap/\(A=none->cap=0)/\e9 w' (FN F w) ess st.2/\RdF w' (FN F w) A ess.flatten/\(∀ y ∈ st.2,au y.1/\au y.2)/\Below w.heap.size w w'
def tQ (d:Nat):Prop:=∀ (l:List SJ) (css:List (List Value)) (A:Option Addr) (n ca:Nat) (EA:Option Addr) (ne ec:Nat) (ecs:List (List Value)) (env:List (List UInt8 × JV)) (MA:Option Addr) (nm mc:Nat) (ess:List (List Value)) (st:MSt) (F:Nat->Prop) (w:World),
 SRs w F css l->l.length=n->n<=ca->RdF w F A css.flatten->aZ d l=true->bK l->ee l->n<=4194304 ->
 dL w F ecs env->RdF w F EA ecs.flatten->env.length=ne->ne<=ec->ne+d<=4194304->env≠[]->(∀ b ∈ env,au b.2/\good b.2=true) ->
 e9 w F ess st.2->RdF w F MA ess.flatten->st.2.length=nm->nm<=mc->(MA=none->mc=0)->iA st->(∀ y ∈ st.2,au y.1/\au y.2) ->
 Calls Tryz.prog 62 #[.agg #[Zs MA nm mc,Zi Zq (st.1:Nat)],Zs A n ca,Zs EA ne ec] w (GoP F (goL env st l) w)
def rW (r:List (JV × JV)) (w:World) (e:Ending) (w':World):Prop:=∃ (A:Option Addr) (n cap:Nat) (ess:List (List Value)),e=.returned (Zs A n cap)/\r.length=n/\n<=cap/\(A=none->cap=0)/\e9 w' TT ess r/\RdF w' TT A ess.flatten/\(∀ y ∈ r,au y.1/\au y.2)/\Below w.heap.size w w'
theorem vL (hgo:tQ 12) (l:List SJ) (css:List (List Value)) (A:Option Addr) (n ca:Nat) (id:List UInt8) (v:JV) (vcs:List Value) (w:World) (hS:SRs w TT css l) (hln:l.length=n) (hnc:n<=ca) (hR:RdF w TT A css.flatten) (hC:bK l) (hsm:ee l) (hn:n<=4194304) (hid:id.length<=4194304) (hv:VR w TT vcs v) (hcv:au v)
  (hp:jb l=true) (hi:gi id=true) (hg:good v=true) :
  Calls Tryz.prog 25 #[.agg #[Zs A n ca],Zt ⟨id.toArray⟩,.agg vcs.toArray] w (rW (goL (gP id v) (0,[]) l).2 w):=by
 have hgt:good (bQ id)=true:=by
  have h1:=j2 hi;unfold good bQ aN aI ar ay bz;simp [h1]
 have HV:=aW (λ (W:World) (h:Below w.heap.size w W)=>hv.bel h);obtain ⟨k1,n1,s1,A1,na1,ca1,B1,nb1,cb1,rfl⟩:=hv.form;have HH0:=aW (((aj.nil w).push 46 #[Zs A n ca] (g:=w.heap.size) rfl).push 25 #[Zi Zq k1,Zi Zq n1,Zt s1,Zs A1 na1 ca1,Zs B1 nb1 cb1] (g:=w.heap.size+1) (by simp));have HGO:=aW (λ (WM:World) (hb:Below w.heap.size w WM) (EA:Option Addr) (ecs:List (List Value)) (h1:dL WM TT ecs (gP id v)) (h2:RdF WM TT EA ecs.flatten) =>
  hgo l css A n ca EA 2 2 ecs (gP id v) none 0 0 [] (0,[]) TT WM (RR.imp hS λ c x hc=>hc.bel hb) hln hnc (hR.keep (af.of_below hb)) hp hC hsm hn h1 h2 rfl (Nat.le_refl _) (by omega) (by unfold gP;simp)
   (by
    intro b hb;rcases List.mem_cons.1 hb with rfl | hb
    ·exact ⟨hcv,hg⟩
    ·obtain rfl:=List.mem_singleton.1 hb;exact ⟨aw (by unfold iw;omega) (by unfold iw;omega) hid,hgt⟩)
   RR.nil RdF.nil rfl (Nat.le_refl _) (λ _=>rfl) ⟨Nat.zero_le _,Nat.zero_le _,λ y hy=>by cases hy⟩ (λ y hy=>by cases hy))
 clear hS hln hR hC hsm hid hv hcv hp hi hg hgt hgo;obtain ⟨c0,f0,l0⟩:=HH0.out.b0.rules;obtain ⟨c1,f1,l1⟩:=HH0.out.b1.rules;obtain ⟨W0,hW0⟩:∃ W0,(w.alloc (.cells #[Zs A n ca] 46)).alloc (.cells #[Zi Zq k1,Zi Zq n1,Zt s1,Zs A1 na1 ca1,Zs B1 nb1 cb1] 25)=W0:=⟨_,rfl⟩
 rw [hW0] at HH0 c0 f0 l0 c1 f1 l1;have HW0:=aW hW0;clear hW0;go_enter Tryz.func25,Tryz.ntmps25;go_upto_region 1 with fail;rw [HW0.out];go_upto_region 2 with fail;obtain ⟨WM,hWM⟩:∃ WM,W0.alloc (.cells #[Zt ⟨#[100,111,99]⟩,Zi Zq k1,Zi Zq n1,Zt s1,Zs A1 na1 ca1,Zs B1 nb1 cb1,Zt ⟨#[105,100]⟩,Zi Zq 4,Zi Zq 0,Zt ⟨id.toArray⟩,Zs none 0 0,Zs none 0 0] 37)=WM:=⟨_,rfl⟩
 have hbm:Below W0.heap.size W0 WM:=by rw [← hWM];exact (Below.refl _ W0).alloc (Nat.le_refl _) _
 have hBE:Blk WM W0.heap.size 37 #[Zt ⟨#[100,111,99]⟩,Zi Zq k1,Zi Zq n1,Zt s1,Zs A1 na1 ca1,Zs B1 nb1 cb1,Zt ⟨#[105,100]⟩,Zi Zq 4,Zi Zq 0,Zt ⟨id.toArray⟩,Zs none 0 0,Zs none 0 0]:=by rw [← hWM];exact Blk.new _ _ _
 rw [hWM];have hMM:Below w.heap.size w WM:=HH0.out.1.trans (hbm.mono HH0.out.1.size);have HCL:=aW (HGO.out WM hMM (some ⟨W0.heap.size,0,none⟩) [[Zt ⟨#[100,111,99]⟩,Zi Zq k1,Zi Zq n1,Zt s1,Zs A1 na1 ca1,Zs B1 nb1 cb1],[Zt ⟨#[105,100]⟩,Zi Zq 4,Zi Zq 0,Zt ⟨id.toArray⟩,Zs none 0 0,Zs none 0 0]]
  ((RR.nil.snoc (x:=(qu,v)) ⟨[Zi Zq k1,Zi Zq n1,Zt s1,Zs A1 na1 ca1,Zs B1 nb1 cb1],rfl,HV.out _ hMM⟩).snoc (x:=(idT,bQ id)) ⟨[Zi Zq 4,Zi Zq 0,Zt ⟨id.toArray⟩,Zs none 0 0,Zs none 0 0],rfl,VR.atom 4 0 id⟩)
  (by
   intro hne;refine ⟨_,_,rfl,hBE.lt,trivial,λ j hj=>?_⟩;rw [Nat.zero_add,hBE.cell];simp at hj;simp [hj]))
 have HMM:=aW hMM;clear c0 f0 l0 c1 f1 l1;obtain ⟨c0,f0,l0⟩:=(HH0.out.b1.keep hbm).rules;clear hWM hbm hBE hMM;go_wp2_with fail;refine HCL.out.mono ?_;rintro e w2 ⟨A2,n2,c2,ess,rfl,h1,h2,h3,h4,h5,h6,hb⟩;have HX:=aW (show rW (goL (gP id v) (0,[]) l).2 w (.returned (Zs A2 n2 c2)) w2 from ⟨A2,n2,c2,ess,rfl,h1,h2,h3,RR.imp h4 (λ c x hc=>hc.mono λ _ _ _=>trivial),h5.mono (λ _ _ _=>trivial),h6,HMM.out.trans (hb.mono HMM.out.size)⟩);clear h1 h2 h3 h4 h5 h6 hb c0 f0 l0;go_wp2;go_ret;exact HX.out
end
end Go.Proofs.YtgolomgmnanbpaaGreatDoor
