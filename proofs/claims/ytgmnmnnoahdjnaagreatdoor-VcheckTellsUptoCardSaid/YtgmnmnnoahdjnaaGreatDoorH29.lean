import Derived.Test.YtgmnmnnoahdjnaaGreatDoorH25
open Go.Value renaming int → Zi, slice → Zs, string → Zt, pointer → Zp
open Go.IntKind renaming i64 → Zq
set_option maxRecDepth 100000
set_option maxHeartbeats 16000000
set_option linter.unusedVariables false
set_option linter.unusedSimpArgs false
namespace Go.Proofs.YtgmnmnnoahdjnaaGreatDoor
section
open Go.RowKit
attribute [local go_sem] ab ae af ac
def NW (W:World) (b:Nat):Prop:=W.heap.size<=b
def cU (r:PR EJ) (g:Nat) (A:Option Addr) (nT cap:Nat) (T:List al) (W:World) (e:Ending) (W':World):Prop:=match r with
 | .ok x q => ∃ cs,e=.returned (.agg cs.toArray)/\ER W' (NW W) cs x/\VP W' g A nT cap T q/\W.grownBy W' (some g)
 | .bad q=>e=aG (tkA T q)/\W.grownBy W' (some g)
def nd (g:Nat) (A:Option Addr) (nT cap:Nat) (T:List al) (N:Nat):Prop:=∀ (lvl p:Nat) (q:Int) (W:World),VP W g A nT cap T p->1<=lvl->lvl<=8->p<nT->q=lvl->12*(nT-p)+(10-lvl)<=N ->
 Calls Tryz.prog 171 #[Zp (some ⟨g,0,none⟩),Zi Zq q] W (cU (eE T lvl p) g A nT cap T W)
theorem Blk.far8 {w:World} {g b:Nat} {t:TypeId} {cs:Array Value} (h:Blk w g t cs) (hb:g≠b) (x0 x1 x2 x3 x4 x5 x6 x7:Value) :
  Blk ((((((((w.setCell ⟨b,0,none⟩ x0).setCell ⟨b,1,none⟩ x1).setCell ⟨b,2,none⟩ x2).setCell ⟨b,3,none⟩ x3).setCell ⟨b,4,none⟩ x4).setCell ⟨b,5,none⟩ x5).setCell ⟨b,6,none⟩ x6).setCell ⟨b,7,none⟩ x7) g t cs :=
 Blk.farC hb [x0,x1,x2,x3,x4,x5,x6,x7] 0 h
theorem jT {w:World} {r:Option Nat} {b:Nat} (hb:w.heap.size<=b):∀ (l:List Value) (o:Nat) {W:World},w.grownBy W r->w.grownBy (W.setCells b o l) r
 | [],_,_,h=>h
 | v::l,o,W,h=>jT hb l (o+1) (cR h ⟨b,o,none⟩ v hb)
theorem ix {w W:World} {r:Option Nat} (h:w.grownBy W r) {b:Nat} (hb:w.heap.size<=b) (x0 x1 x2 x3 x4 x5 x6 x7:Value) :
  w.grownBy ((((((((W.setCell ⟨b,0,none⟩ x0).setCell ⟨b,1,none⟩ x1).setCell ⟨b,2,none⟩ x2).setCell ⟨b,3,none⟩ x3).setCell ⟨b,4,none⟩ x4).setCell ⟨b,5,none⟩ x5).setCell ⟨b,6,none⟩ x6).setCell ⟨b,7,none⟩ x7) r :=
 jT hb [x0,x1,x2,x3,x4,x5,x6,x7] 0 h
theorem gN {F:Nat->Prop} {a w:World} {b:Nat} (hb:∀ k,F k->k≠b) (h:aj F a w) (x0 x1 x2 x3 x4 x5 x6 x7:Value) :
  aj F a ((((((((w.setCell ⟨b,0,none⟩ x0).setCell ⟨b,1,none⟩ x1).setCell ⟨b,2,none⟩ x2).setCell ⟨b,3,none⟩ x3).setCell ⟨b,4,none⟩ x4).setCell ⟨b,5,none⟩ x5).setCell ⟨b,6,none⟩ x6).setCell ⟨b,7,none⟩ x7) :=
 aj.setC hb [x0,x1,x2,x3,x4,x5,x6,x7] 0 h
theorem jm {T:List al} (hT:WT T) {p:Nat} {s:List UInt8} (hs:s ∈ cT):ao T p s=decide (tkK T p=2/\tkT T p=s):=by
 unfold ao;rw [Bool.eq_iff_iff,decide_eq_true_eq,decide_eq_true_eq];constructor
 ·rintro ⟨h | h,e⟩
  ·exact absurd (by rw [e];exact hs) (hT.signs p h)
  ·exact ⟨h,e⟩
 ·rintro ⟨h,e⟩;exact ⟨.inr h,e⟩
theorem lW {T:List al} (hT:WT T) {p:Nat} {s:List UInt8} (hs:s ∉ cT):ao T p s=decide (tkK T p=5/\tkT T p=s):=by
 unfold ao;rw [Bool.eq_iff_iff,decide_eq_true_eq,decide_eq_true_eq];constructor
 ·rintro ⟨h | h,e⟩
  ·exact ⟨h,e⟩
  ·exact absurd (by rw [← e];exact hT.words p h) hs
 ·rintro ⟨h,e⟩;exact ⟨.inl h,e⟩
theorem sr {T:List al} (hT:WT T) {p:Nat} (hp:p<T.length):eA T p=(
  if tkK T p=1 then .ok (.mk 2 cJ (tkT T p) []) (p+1)
  else if tkK T p=3 then .ok (eb (nS (tkN T p))) (p+1)
  else if tkK T p=4 then .ok (eb (jz (tkT T p))) (p+1)
  else if tkK T p=2/\tkT T p=pX then .ok (eb (.mk 1 0 [] [] [])) (p+1)
  else if tkK T p=2/\tkT T p=lh then .ok (eb (fe true)) (p+1)
  else if tkK T p=2/\tkT T p=ig then .ok (eb (fe false)) (p+1)
  else if tkK T p=5/\tkT T p=[40] then (match eE T 1 (p+1) with
   | .ok x q=>if ao T q [41]=true then .ok x (q+1) else .bad q
   | .bad q=>.bad q)
  else if tkK T p=5/\tkT T p=[91] then (if ao T (p+1) [93]=true then .ok (eOp 4 []) (p+2) else eL T [] (p+1))
  else .bad p):=by
 rw [xx hT hp,jm hT (s:=pX) (by decide),jm hT (s:=lh) (by decide),jm hT (s:=ig) (by decide),lW hT (p:=p) (s:=[40]) (by decide),lW hT (p:=p) (s:=[91]) (by decide)];simp only [decide_eq_true_eq];rfl
theorem qA {P:Program} {md:Region.Mode} {ops:Array Oper} {Q:Exit->Act->World->Prop} {S:World->Prop} {fuel:Nat} {listed:Array Bool} {act:Int->Int->Int->ByteArray->Option Addr->Nat->Nat->Option Addr->Nat->Nat->ByteArray->Option Addr->Nat->Nat->World->Act} {wd:Int->Int->Int->ByteArray->Option Addr->Nat->Nat->Option Addr->Nat->Nat->ByteArray->Option Addr->Nat->Nat->World->World} {R:Int->Int->Int->ByteArray->Option Addr->Nat->Nat->Option Addr->Nat->Nat->ByteArray->Option Addr->Nat->Nat->World->Prop} {goal:Prop}
  (hleaf:∀ k k1 n1 s1 A1 na1 ca1 B1 nb1 cb1 s A2 n2 ca2 Z,R k k1 n1 s1 A1 na1 ca1 B1 nb1 cb1 s A2 n2 ca2 Z->wpAnyH P md ops Q S fuel listed (act k k1 n1 s1 A1 na1 ca1 B1 nb1 cb1 s A2 n2 ca2 Z) (wd k k1 n1 s1 A1 na1 ca1 B1 nb1 cb1 s A2 n2 ca2 Z)) (h:(∀ k k1 n1 s1 A1 na1 ca1 B1 nb1 cb1 s A2 n2 ca2 Z,R k k1 n1 s1 A1 na1 ca1 B1 nb1 cb1 s A2 n2 ca2 Z->wpAnyH P md ops Q S fuel listed (act k k1 n1 s1 A1 na1 ca1 B1 nb1 cb1 s A2 n2 ca2 Z) (wd k k1 n1 s1 A1 na1 ca1 B1 nb1 cb1 s A2 n2 ca2 Z))->goal):goal:=h hleaf
theorem cM {P:Program} {md:Region.Mode} {ops:Array Oper} {Q:Exit->Act->World->Prop} {S:World->Prop} {fuel:Nat} {l l':Array Bool} {a:Act} {w:World} (e:l=l') (h:wpAnyH P md ops Q S fuel l' a w):wpAnyH P md ops Q S fuel l a w:=by rw [e];exact h
theorem jU {w W W':World} {row row':Option Nat} (h:w.grownBy W row) (h':W.grownBy W' row') (hr:∀ k,row'=some k->w.heap.size<=k):w.grownBy W' row :=
 ⟨h'.os.trans h.os,h'.tape.trans h.tape,h'.output.trans h.output,Nat.le_trans h.size h'.size,λ k hk hne =>
  (h'.block k (Nat.lt_of_lt_of_le hk h.size) (λ e=>by have:=hr k e.symm;omega)).trans (h.block k hk hne)⟩
theorem sO:(Tryz.prog.info? 45).map (λ i=>(i.zero,i.size,i.bytes))=some (some (.agg #[Zi Zq 0,Zi Zq 0,Zi Zq 0,Zt ⟨#[]⟩,Zs none 0 0,Zs none 0 0,Zt ⟨#[]⟩,Zs none 0 0]),8,128):=by kernel_rfl
theorem ni {w:World} {g:Nat} {A:Option Addr} {nT cap:Nat} {T:List al} {p:Nat} (hV:VP w g A nT cap T p) (t8 tt:TypeId) (e8 tk:Array Value) {WX:World}
  (hW:(((w.setCell ⟨g,0,none⟩ (Zi Zq ((p:Int)+1))).alloc (.cells e8 t8)).alloc (.cells tk tt)).drew=WX) :
  VP WX g A nT cap T (p+1)/\w.grownBy WX (some g)/\Blk WX w.heap.size t8 e8/\Blk WX (w.heap.size+1) tt tk/\w.heap.size+2<=WX.heap.size:=by
 subst hW;have hs:(w.setCell ⟨g,0,none⟩ (Zi Zq ((p:Int)+1))).heap.size=w.heap.size:=by simp [World.setCell]
 have h1:w.grownBy (w.setCell ⟨g,0,none⟩ (Zi Zq ((p:Int)+1))) (some g):=bt (ec _ _) 0 _;have hb:=(((Below.refl _ (w.setCell ⟨g,0,none⟩ (Zi Zq ((p:Int)+1)))).alloc (Nat.le_refl _) (.cells e8 t8)).alloc (by simp) (.cells tk tt)).drew;have h2:=ag h1 (aw hb (some g));have b0:=Blk.new (w.setCell ⟨g,0,none⟩ (Zi Zq ((p:Int)+1))) t8 e8;have b1:=Blk.new ((w.setCell ⟨g,0,none⟩ (Zi Zq ((p:Int)+1))).alloc (.cells e8 t8)) tt tk;rw [World.size_alloc] at b1;rw [hs] at b0 b1;refine ⟨hV.step h2 ((((hV.blk.set_ 0 _).alloc _).alloc _).drew),h2,(b0.alloc _).drew,b1.drew,?_⟩;show w.heap.size+2<=(((w.setCell ⟨g,0,none⟩ (Zi Zq ((p:Int)+1))).alloc (.cells e8 t8)).alloc (.cells tk tt)).heap.size
 rw [World.size_alloc,World.size_alloc,hs];omega
theorem bI {w WX:World} {g:Nat} {A:Option Addr} {nT cap:Nat} {T:List al} {p q:Nat} (hV:VP w g A nT cap T p) (hv:VP WX g A nT cap T q) (hg:w.grownBy WX (some g)) {t8:TypeId} {e8:Array Value} (hx:Blk WX w.heap.size t8 e8) (x0 x1 x2 x3 x4 x5 x6 x7:Value) {x:EJ}
  (hE:ER ((((((((WX.setCell ⟨w.heap.size,0,none⟩ x0).setCell ⟨w.heap.size,1,none⟩ x1).setCell ⟨w.heap.size,2,none⟩ x2).setCell ⟨w.heap.size,3,none⟩ x3).setCell ⟨w.heap.size,4,none⟩ x4).setCell ⟨w.heap.size,5,none⟩ x5).setCell ⟨w.heap.size,6,none⟩ x6).setCell ⟨w.heap.size,7,none⟩ x7) (NW w) [x0,x1,x2,x3,x4,x5,x6,x7] x) :
  cU (.ok x q) g A nT cap T w (.returned (.agg #[x0,x1,x2,x3,x4,x5,x6,x7])) ((((((((WX.setCell ⟨w.heap.size,0,none⟩ x0).setCell ⟨w.heap.size,1,none⟩ x1).setCell ⟨w.heap.size,2,none⟩ x2).setCell ⟨w.heap.size,3,none⟩ x3).setCell ⟨w.heap.size,4,none⟩ x4).setCell ⟨w.heap.size,5,none⟩ x5).setCell ⟨w.heap.size,6,none⟩ x6).setCell ⟨w.heap.size,7,none⟩ x7):=by
 have hgl:=hV.blk.lt;have hg2:=ix hg (Nat.le_refl w.heap.size) x0 x1 x2 x3 x4 x5 x6 x7;exact ⟨_,rfl,hE,hV.step hg2 (Blk.far8 hv.blk (by omega) x0 x1 x2 x3 x4 x5 x6 x7),hg2⟩
theorem vs (g:Nat) (A:Option Addr) (nT cap:Nat) (T:List al) (N:Nat) (hT:WT T) (hE:nd g A nT cap T N) (p:Nat) (w:World) (hV:VP w g A nT cap T p) (hp:p<nT) (hn:nT<=1000) (hN:12*(nT-p)<=N+3) :
  Calls Tryz.prog 198 #[Zp (some ⟨g,0,none⟩)] w (cU (eA T p) g A nT cap T w):=by
 have hcs:=sr hT (p:=p) (by rw [hV.len];exact hp);obtain ⟨r,hr⟩:∃ r,eA T p=r:=⟨_,rfl⟩
 rw [hr] at hcs;have HNX:=aW (λ h=>hT.next (p:=p) (by rw [hV.len];exact hp) h);have HKD:=aW (hT.kinds p);obtain ⟨b,o,rfl,hb,hbg,x0,x1,x2,x3⟩:=hV.tok hp;obtain ⟨k,hk⟩:∃ k,tkK T p=k:=⟨_,rfl⟩
 obtain ⟨t,ht⟩:∃ t,tkT T p=t:=⟨_,rfl⟩
 obtain ⟨at_,hat⟩:∃ a,tkA T p=a:=⟨_,rfl⟩
 obtain ⟨m,hm⟩:∃ a,tkN T p=a:=⟨_,rfl⟩
 rw [hk,ht,hm] at hcs;rw [hk] at x0 HKD HNX;rw [ht] at x2;rw [hat] at x1;rw [hm] at x3;rw [hr];obtain ⟨c0,f0,l0⟩:=hV.blk.rules;have c00:=c0 0;have c01:=c0 1;simp at c00 c01;have hpi:(p:Int)<(nT:Int):=by omega
 have hp9:(p:Int)<=1000:=by omega
 have HCS:=aW hcs;have HV:=aW hV;have HP:=aW (And.intro hp hn);have HAT:=aW hat;have HNN:=aW hN;have HGW:=aW l0;clear hV hr hcs hk ht hat hm hp hn hN;go_enter Tryz.func198,Tryz.ntmps198;go_upto_region 1 with fail;go_region_held3 (λ w'=>w'.cell? ⟨g,0,none⟩=some (Zi Zq (p:Int))/\w'.cell? ⟨g,1,none⟩=some (Zs (some ⟨b,o,none⟩) nT cap)/\w'.cell? ⟨b,o+p*4,none⟩=some (Zi Zq k)/\w'.cell? ⟨b,o+p*4+1,none⟩=some (Zi Zq (at_:Int))/\w'.cell? ⟨b,o+p*4+2,none⟩=some (Zt ⟨t.toArray⟩)/\w'.cell? ⟨b,o+p*4+3,none⟩=some (Zi Zq m)) (go_keep) (fail);go_upto_region 3 with fail;obtain ⟨WX,hWX⟩:∃ W',((((w.setCell ⟨g,0,none⟩ (Zi Zq ((p:Int)+1))).alloc (.cells #[Zi Zq 0,Zi Zq 0,Zi Zq 0,Zt ⟨#[]⟩,Zs none 0 0,Zs none 0 0,Zt ⟨#[]⟩,Zs none 0 0] 45)).alloc (.cells #[Zi Zq k,Zi Zq (at_:Int),Zt ⟨t.toArray⟩,Zi Zq m] 86)).drew)=W':=⟨_,rfl⟩
 rw [hWX];obtain ⟨hv1,hg1,hx1,ht1,hs1⟩:=ni HV.out _ _ _ _ hWX;have HV1:=aW hv1;have HG1:=aW hg1;have HX1:=aW hx1;have HT1:=aW ht1;have HS1:=aW hs1;obtain ⟨y0,y1,y2⟩:=hx1.rules;obtain ⟨z0,z1,z2⟩:=ht1.rules;clear hWX hv1 hg1 hx1 ht1 hs1 c0 f0 l0 x0 x1 x2 x3 c00 c01 hb hbg hpi hp9;by_cases k1:k=1
 ·have e1:(k == 1)=true:=by simp [k1]
  have HR:=aW (show r=.ok (.mk 2 cJ t []) (p+1) by rw [HCS.out,if_pos k1]);clear k1;go_wp2;refine bodyPost_ret (v:=.agg #[Zi Zq 2,Zi Zq 0,Zi Zq 0,Zt ⟨#[]⟩,Zs none 0 0,Zs none 0 0,Zt ⟨t.toArray⟩,Zs none 0 0]) (by simp only [results,Tryz.results198];go_simp) rfl ?_;rw [HR.out];exact bI HV.out HV1.out HG1.out HX1.out _ _ _ _ _ _ _ _ (ER.leaf _ _ (VR.atom _ _ _))
 have e1:(k == 1)=false:=by simp [k1]
 by_cases k3:k=3
 ·have e3:(k == 3)=true:=by simp [k3]
  have HR:=aW (show r=.ok (eb (nS m)) (p+1) by rw [HCS.out,if_neg k1,if_pos k3]);clear k1 k3;go_wp2;refine bodyPost_ret (v:=.agg #[Zi Zq 1,Zi Zq 3,Zi Zq m,Zt ⟨#[]⟩,Zs none 0 0,Zs none 0 0,Zt ⟨#[]⟩,Zs none 0 0]) (by simp only [results,Tryz.results198];go_simp) rfl ?_;rw [HR.out];exact bI HV.out HV1.out HG1.out HX1.out _ _ _ _ _ _ _ _ (ER.leaf _ _ (VR.atom _ _ _))
 have e3:(k == 3)=false:=by simp [k3]
 by_cases k4:k=4
 ·have e4:(k == 4)=true:=by simp [k4]
  have HR:=aW (show r=.ok (eb (jz t)) (p+1) by rw [HCS.out,if_neg k1,if_neg k3,if_pos k4]);clear k1 k3 k4;go_wp2;refine bodyPost_ret (v:=.agg #[Zi Zq 1,Zi Zq 4,Zi Zq 0,Zt ⟨t.toArray⟩,Zs none 0 0,Zs none 0 0,Zt ⟨#[]⟩,Zs none 0 0]) (by simp only [results,Tryz.results198];go_simp) rfl ?_;rw [HR.out];exact bI HV.out HV1.out HG1.out HX1.out _ _ _ _ _ _ _ _ (ER.leaf _ _ (VR.atom _ _ _))
 have e4:(k == 4)=false:=by simp [k4]
 by_cases k2:k=2
 ·have e2:(k == 2)=true:=by simp [k2]
  have e5:(k == 5)=false:=by rw [k2];rfl
  by_cases hn0:t=pX
  ·have HR:=aW (show r=.ok (eb (.mk 1 0 [] [] [])) (p+1) by rw [HCS.out,if_neg k1,if_neg k3,if_neg k4,if_pos ⟨k2,hn0⟩]);subst hn0;unfold pX at z0 HT1 ⊢;clear k1 k2 k3 k4;go_wp2;refine bodyPost_ret (v:=.agg #[Zi Zq 1,Zi Zq 1,Zi Zq 0,Zt ⟨#[]⟩,Zs none 0 0,Zs none 0 0,Zt ⟨#[]⟩,Zs none 0 0]) (by simp only [results,Tryz.results198];go_simp) rfl ?_;rw [HR.out];exact bI HV.out HV1.out HG1.out HX1.out _ _ _ _ _ _ _ _ (ER.leaf _ _ (VR.atom _ _ _))
  by_cases hn1:t=lh
  ·have HR:=aW (show r=.ok (eb (fe true)) (p+1) by rw [HCS.out,if_neg k1,if_neg k3,if_neg k4,if_neg (λ h=>hn0 h.2),if_pos ⟨k2,hn1⟩]);subst hn1;unfold lh at z0 HT1 ⊢;clear k1 k2 k3 k4 hn0;go_wp2;refine bodyPost_ret (v:=.agg #[Zi Zq 1,Zi Zq 2,Zi Zq 1,Zt ⟨#[]⟩,Zs none 0 0,Zs none 0 0,Zt ⟨#[]⟩,Zs none 0 0]) (by simp only [results,Tryz.results198];go_simp) rfl ?_;rw [HR.out];exact bI HV.out HV1.out HG1.out HX1.out _ _ _ _ _ _ _ _ (ER.leaf _ _ (VR.atom _ _ _))
  by_cases hn2:t=ig
  ·have HR:=aW (show r=.ok (eb (fe false)) (p+1) by rw [HCS.out,if_neg k1,if_neg k3,if_neg k4,if_neg (λ h=>hn0 h.2),if_neg (λ h=>hn1 h.2),if_pos ⟨k2,hn2⟩]);subst hn2;unfold ig at z0 HT1 ⊢;clear k1 k2 k3 k4 hn0 hn1;go_wp2;refine bodyPost_ret (v:=.agg #[Zi Zq 1,Zi Zq 2,Zi Zq 0,Zt ⟨#[]⟩,Zs none 0 0,Zs none 0 0,Zt ⟨#[]⟩,Zs none 0 0]) (by simp only [results,Tryz.results198];go_simp) rfl ?_;rw [HR.out];exact bI HV.out HV1.out HG1.out HX1.out _ _ _ _ _ _ _ _ (ER.leaf _ _ (VR.atom _ _ _))
  have HR:=aW (show r=.bad p by rw [HCS.out,if_neg k1,if_neg k3,if_neg k4,if_neg (λ h=>hn0 h.2),if_neg (λ h=>hn1 h.2),if_neg (λ h=>hn2 h.2),if_neg (λ h=>by omega),if_neg (λ h=>by omega)]);unfold pX at hn0;unfold lh at hn1;unfold ig at hn2;have q0:(t == [110,117,108,108])=false:=by simpa using hn0
  have qs0:((⟨t.toArray⟩:ByteArray).toList == (⟨#[110,117,108,108]⟩:ByteArray).toList)=false:=by rw [show (⟨#[110,117,108,108]⟩:ByteArray)=⟨[110,117,108,108].toArray⟩ from rfl,dP];simpa using hn0
  have q1:(t == [116,114,117,101])=false:=by simpa using hn1
  have qs1:((⟨t.toArray⟩:ByteArray).toList == (⟨#[116,114,117,101]⟩:ByteArray).toList)=false:=by rw [show (⟨#[116,114,117,101]⟩:ByteArray)=⟨[116,114,117,101].toArray⟩ from rfl,dP];simpa using hn1
  have q2:(t == [102,97,108,115,101])=false:=by simpa using hn2
  have qs2:((⟨t.toArray⟩:ByteArray).toList == (⟨#[102,97,108,115,101]⟩:ByteArray).toList)=false:=by rw [show (⟨#[102,97,108,115,101]⟩:ByteArray)=⟨[102,97,108,115,101].toArray⟩ from rfl,dP];simpa using hn2
  clear k1 k2 k3 k4 hn0 hn1 hn2;obtain ⟨c0,f0,l0⟩:=HV1.out.blk.rules;have hp9:(p:Int)<=1000:=by have:=HP.out;omega
  have HFA:=aW (λ W1 (h:VP W1 g (some ⟨b,o,none⟩) nT cap T p)=>gL W1 g _ nT cap T p h HP.out.1 HP.out.2);unfold aG at HFA;go_wp2_with (go_at_call 87;refine (HFA.out _ (HV1.out.set0 (by omega))).mono ?_;rintro e w2 ⟨rfl,hb2⟩);have hg9:=HG1.out;rw [HR.out];exact ⟨rfl,rfl,ag (bt hg9 0 _) (aw hb2 _)⟩
 have e2:(k == 2)=false:=by simp [k2]
 by_cases k5:k=5
 ·have e5:(k == 5)=true:=by simp [k5]
  by_cases hn0:t=[40]
  ·subst hn0;have hk6:p+1<nT:=by have h9:=HNX.out (by omega);rw [HV.out.len] at h9;exact h9
   have HC0:=aW (show r=(match eE T 1 (p+1) with | .ok x q=>if ao T q [41]=true then .ok x (q+1) else .bad q | .bad q=>.bad q) by rw [HCS.out,if_neg k1,if_neg k3,if_neg k4,if_neg (λ h=>k2 h.1),if_neg (λ h=>k2 h.1),if_neg (λ h=>k2 h.1),if_pos ⟨k5,rfl⟩]);have hce:=hE 1 (p+1) 1 WX HV1.out (by omega) (by omega) hk6 rfl (by have:=HNN.out;omega);clear k1 k2 k3 k4 k5;cases hr1:eE T 1 (p+1) with
   |bad q =>
    rw [hr1] at hce;have HR:=aW (show r=.bad q by rw [HC0.out,hr1]);unfold cU aG at hce;have HCE:=aW hce;clear hce;go_wp2_with (go_at_call 171;refine HCE.out.mono ?_;rintro e w2 ⟨rfl,hg2⟩);rw [HR.out];exact ⟨rfl,rfl,ag HG1.out hg2⟩
   |ok x q =>
    rw [hr1] at hce;have HC1:=aW (show r=if ao T q [41]=true then .ok x (q+1) else .bad q by rw [HC0.out,hr1]);have hq:=(dl hT (by rw [HV.out.len];exact hk6) hr1).2;rw [HV.out.len] at hq;have HQ:=aW hq;unfold cU at hce;have HCE:=aW hce;clear hce hr1 hq;go_wp2_with fail;refine HCE.out.mono ?_;rintro e w2 ⟨cs,rfl,he2,hv2,hg2⟩;obtain ⟨k9,k19,n19,s19,A19,na19,ca19,B19,nb19,cb19,s9,A29,n29,ca29,rfl⟩:=he2.form;have hgl:=HV.out.blk.lt;have hxg:w.heap.size≠g:=by omega
    have HX2:=aW (HX1.out.grown hg2 (by simpa using hxg));obtain ⟨y0,y1,y2⟩:=HX2.out.rules;go_upto_region 17 with fail;obtain ⟨W3,hW3⟩:∃ W',((((((((w2.setCell ⟨w.heap.size,0,none⟩ (Zi Zq k9)).setCell ⟨w.heap.size,1,none⟩ (Zi Zq k19)).setCell ⟨w.heap.size,2,none⟩ (Zi Zq n19)).setCell ⟨w.heap.size,3,none⟩ (Zt s19)).setCell ⟨w.heap.size,4,none⟩ (Zs A19 na19 ca19)).setCell ⟨w.heap.size,5,none⟩ (Zs B19 nb19 cb19)).setCell ⟨w.heap.size,6,none⟩ (Zt s9)).setCell ⟨w.heap.size,7,none⟩ (Zs A29 n29 ca29))=W':=⟨_,rfl⟩
    rw [hW3];have hX3:Blk W3 w.heap.size 45 #[Zi Zq k9,Zi Zq k19,Zi Zq n19,Zt s19,Zs A19 na19 ca19,Zs B19 nb19 cb19,Zt s9,Zs A29 n29 ca29]:=by rw [← hW3];exact HX2.out.set8C _ _ _ _ _ _ _ _
    have hg3:w.grownBy W3 (some g):=by rw [← hW3];exact ix (ag HG1.out hg2) (Nat.le_refl _) _ _ _ _ _ _ _ _
    have hv3:VP W3 g (some ⟨b,o,none⟩) nT cap T q:=HV.out.step hg3 (by rw [← hW3];exact Blk.far8 hv2.blk (by omega) _ _ _ _ _ _ _ _);have he3:ER W3 (λ b=>w.heap.size+2<=b) [Zi Zq k9,Zi Zq k19,Zi Zq n19,Zt s19,Zs A19 na19 ca19,Zs B19 nb19 cb19,Zt s9,Zs A29 n29 ca29] x:=by
     rw [← hW3];refine (he2.keep (gN (λ k hk=>?_) aj.refl _ _ _ _ _ _ _ _)).mono λ k _ hk=>?_
     ·have:=HS1.out;unfold NW at hk;omega
     ·have:=HS1.out;unfold NW at hk;show w.heap.size+2<=k;omega
    have HX3:=aW hX3;have HG3:=aW hg3;have HV3:=aW hv3;have HE3:=aW he3;clear hW3 hX3 hg3 hv3 he3 he2 hv2 hg2 y0 y1 y2;by_cases hs:ao T q [41]=true
    ·have HR:=aW (show r=.ok x (q+1) by rw [HC1.out,if_pos hs]);have HW:=aW (fz [41] W3 g _ nT cap T q HV3.out HQ.out HP.out.2 hs);clear hs;go_wp2_with (go_at_call 172;refine HW.out.mono ?_;rintro e w4 ⟨rfl,hv4,hg4⟩;obtain ⟨y0,y1,y2⟩:=(HX3.out.grown hg4 (by simpa using hxg)).rules);refine bodyPost_ret (v:=.agg #[Zi Zq k9,Zi Zq k19,Zi Zq n19,Zt s19,Zs A19 na19 ca19,Zs B19 nb19 cb19,Zt s9,Zs A29 n29 ca29]) (by simp only [results,Tryz.results198];go_simp) rfl ?_;rw [HR.out];have hx4:=HX3.out.grown hg4 (by simpa using hxg);refine bI HV.out hv4 (ag HG3.out hg4) hx4 _ _ _ _ _ _ _ _ ?_;exact ((HE3.out.keep (aj.of_grown hg4 λ k hk e=>by injection e with e;omega)).keep (gN (λ k hk=>by omega) aj.refl _ _ _ _ _ _ _ _)).mono λ k _ hk=>by unfold NW;omega
    ·have hs':ao T q [41]=false:=by simpa using hs
     have HR:=aW (show r=.bad q by rw [HC1.out,if_neg hs]);have hw:=fy [41] W3 g _ nT cap T q HV3.out HQ.out HP.out.2 hs';unfold aG at hw;have HW:=aW hw;clear hs hs' hw;go_wp2_with (go_at_call 172;refine HW.out.mono ?_;rintro e w4 ⟨rfl,hb4⟩);rw [HR.out];exact ⟨rfl,rfl,ag HG3.out (aw hb4 _)⟩
  by_cases hn1:t=[91]
  ·subst hn1;have hk6:p+1<nT:=by have h9:=HNX.out (by omega);rw [HV.out.len] at h9;exact h9
   have HC0:=aW (show r=if ao T (p+1) [93]=true then .ok (eOp 4 []) (p+2) else eL T [] (p+1) by rw [HCS.out,if_neg k1,if_neg k3,if_neg k4,if_neg (λ h=>k2 h.1),if_neg (λ h=>k2 h.1),if_neg (λ h=>k2 h.1),if_neg (λ h=>absurd h.2 (by decide)),if_pos ⟨k5,rfl⟩]);have hgl:=HV.out.blk.lt;have hxg:w.heap.size≠g:=by omega
   clear k1 k2 k3 k4 k5 hn0;go_upto_region 21 with fail;obtain ⟨W2,hW2⟩:∃ W',WX.setCell ⟨w.heap.size,0,none⟩ (Zi Zq 4)=W':=⟨_,rfl⟩
   rw [hW2];have HX2:=aW (show Blk W2 w.heap.size 45 #[Zi Zq 4,Zi Zq 0,Zi Zq 0,Zt ⟨#[]⟩,Zs none 0 0,Zs none 0 0,Zt ⟨#[]⟩,Zs none 0 0] by rw [← hW2];exact HX1.out.set_ 0 _);have hg2:w.grownBy W2 (some g):=by rw [← hW2];exact cR HG1.out ⟨w.heap.size,0,none⟩ _ (Nat.le_refl _)
   have HV2:=aW (show VP W2 g (some ⟨b,o,none⟩) nT cap T (p+1) from HV.out.step hg2 (by rw [← hW2];exact HV1.out.blk.far (p:=⟨w.heap.size,0,none⟩) (Ne.symm hxg) _));have HG2:=aW hg2;have HS2:=aW (show w.heap.size+2<=W2.heap.size by rw [← hW2];have:=HS1.out;simpa [World.setCell] using this);clear hW2 hg2 y0 y1 y2 z0 z1 z2;by_cases hs:ao T (p+1) [93]=true
   ·have HR:=aW (show r=.ok (eOp 4 []) (p+2) by rw [HC0.out,if_pos hs]);have HTY:=aW (eh [93] W2 g _ nT cap T (p+1) HV2.out hk6 HP.out.2 hs);clear hs;go_wp2_with (go_at_call 139;refine HTY.out.mono ?_;rintro e w4 ⟨rfl,hv4,hg4⟩;obtain ⟨y0,y1,y2⟩:=(HX2.out.grown hg4 (by simpa using hxg)).rules);refine bodyPost_ret (v:=.agg #[Zi Zq 4,Zi Zq 0,Zi Zq 0,Zt ⟨#[]⟩,Zs none 0 0,Zs none 0 0,Zt ⟨#[]⟩,Zs none 0 0]) (by simp only [results,Tryz.results198];go_simp) rfl ?_;rw [HR.out];have hx4:=HX2.out.grown hg4 (by simpa using hxg);exact bI HV.out hv4 (ag HG2.out hg4) hx4 _ _ _ _ _ _ _ _ (ER.leaf 4 [] VR.zero)
   have hs':ao T (p+1) [93]=false:=by simpa using hs
   have HR0:=aW (show r=eL T [] (p+1) by rw [HC0.out,if_neg hs]);have HTN:=aW (ef [93] W2 g _ nT cap T (p+1) HV2.out hk6 HP.out.2 hs');obtain ⟨i0,hi,hz0,hz1,hz2⟩:=info_parts sO;have HI:=aW hi;clear hs hs' hi;go_wp2_with (go_at_call 139;refine HTN.out.mono ?_;rintro e w4 ⟨rfl,hb4⟩);have HX4:=aW (HX2.out.keep hb4);have HV4:=aW (HV2.out.keep hb4);have HG4:=aW (ag HG2.out (aw hb4 (some g)));have HS4:=aW (Nat.le_trans HS2.out hb4.size);clear hb4 HX2 HV2 HG2 HS2 HTN HC0;go_loopg [] (nT-(p+1)) (λ gk wr => ∃ (p':Nat) (acc:List EJ) (row:Value) (css:List (List Value)),p+1<=p'/\p'<nT/\acc.length<=p'/\gk=nT-p'/\Hid (r=eL T acc p')/\Hid (VP wr g (some ⟨b,o,none⟩) nT cap T p')/\Hid (Blk wr w.heap.size 45 #[Zi Zq 4,Zi Zq 0,Zi Zq 0,Zt ⟨#[]⟩,Zs none 0 0,Zs none 0 0,Zt ⟨#[]⟩,row]) /\
    Hid (wr.ownsRow (w.heap.size+2) 45 8 row acc.length css.flatten)/\Hid (ERs wr (FO (λ b=>w.heap.size+2<=b) row) css acc)/\Hid (w.grownBy wr (some g))/\Hid (w.heap.size+2<=wr.heap.size))
   case atStart=>exact ⟨p+1,[],_,[],Nat.le_refl _,hk6,Nat.zero_le _,rfl,HR0,HV4,HX4,aW (World.ownsRow_nil _ _ _ _),aW RR.nil,HG4,HS4⟩
   case round =>
    obtain ⟨p',acc,row,css,hpp,hpn,hal,hgk,HR1,HV2,HX2,HO,HER,HG2,HSW⟩:=hrel;have HGK:=aW hgk;clear hgk HR0 HV4 HX4 HG4 HS4;have hn9:=HP.out.2;have hce:=hE 1 p' 1 wr.drew (HV2.out.keep ((Below.refl _ wr).drew)) (by omega) (by omega) hpn rfl (by have:=HNN.out;omega);cases hr1:eE T 1 p' with
    |bad q =>
     rw [hr1] at hce;have HR:=aW (show r=.bad q by rw [HR1.out,vD hT (by rw [HV2.out.len];exact hpn),hr1]);unfold cU aG at hce;have HCE:=aW hce;clear hce hr1;go_upto_region 23 with fail;refine wp_region_held_drew (S:=λ _=>True) (by kernel_rfl) trivial (λ hHeld=>?_);refine tA 0 107 (Zp (some ⟨w.heap.size,7,none⟩)) rfl ?_;refine tA 2 109 (Zp (some ⟨g,0,none⟩)) rfl ?_;refine wpAnyH_ready (rs:=[1,3]) (by kernel_rfl) (by simp) ?_;refine AllReadyH.cons (o:=⟨some 108,_,_,_,_,_⟩) rfl (λ K hK=>?_) (AllReadyH.cons (o:=⟨some 110,_,_,_,_,_⟩) rfl (λ K hK=>?_) AllReadyH.nil)
     ·obtain ⟨y0,y1,y2⟩:=HX2.out.rules;go_simp;refine hK.out _ _ trivial (λ hHeld=>?_);clear hK K y0 y1 y2
      try simp only [pU]
      refine aV 3 110 rfl (λ K hK=>?_);go_simp;refine HCE.out.mono ?_;rintro e w4 ⟨rfl,hg4⟩
      try rw [HR.out]
      exact ⟨rfl,rfl,ag HG2.out (ag (aw ((Below.refl wr.heap.size wr).drew) (some g)) hg4)⟩
     ·go_simp;refine HCE.out.mono ?_;rintro e w4 ⟨rfl,hg4⟩
      try rw [HR.out]
      exact ⟨rfl,rfl,ag HG2.out (ag (aw ((Below.refl wr.heap.size wr).drew) (some g)) hg4)⟩
    |ok x q =>
     rw [hr1] at hce;have HRX:=aW (show r=if ao T q [44]=true then eL T (acc++[x]) (q+1) else if ao T q [93]=true then .ok (eOp 4 (acc++[x])) (q+1) else .bad q by rw [HR1.out,vD hT (by rw [HV2.out.len];exact hpn),hr1]);have hq:=dl hT (by rw [HV2.out.len];exact hpn) hr1;rw [HV2.out.len] at hq;unfold cU at hce;have HCE:=aW hce;clear hce hr1;go_upto_region 23 with fail;apply qA (R:=λ k9 k19 n19 s19 A19 na19 ca19 B19 nb19 cb19 s9 A29 n29 ca29 Z=>ER Z (NW wr.drew) [Zi Zq k9,Zi Zq k19,Zi Zq n19,Zt s19,Zs A19 na19 ca19,Zs B19 nb19 cb19,Zt s9,Zs A29 n29 ca29] x/\VP Z g (some ⟨b,o,none⟩) nT cap T q/\wr.drew.grownBy Z (some g))
     case h =>
      intro HL;refine wp_region_held_drew (S:=λ _=>True) (by kernel_rfl) trivial (λ hHeld=>?_);refine tA 0 107 (Zp (some ⟨w.heap.size,7,none⟩)) rfl ?_;refine tA 2 109 (Zp (some ⟨g,0,none⟩)) rfl ?_;refine wpAnyH_ready (rs:=[1,3]) (by kernel_rfl) (by simp) ?_;refine AllReadyH.cons (o:=⟨some 108,_,_,_,_,_⟩) rfl (λ K hK=>?_) (AllReadyH.cons (o:=⟨some 110,_,_,_,_,_⟩) rfl (λ K hK=>?_) AllReadyH.nil)
      ·obtain ⟨y0,y1,y2⟩:=HX2.out.rules;go_simp;refine hK.out _ _ trivial (λ hHeld=>?_);clear hK K y0 y1 y2
       try simp only [pU]
       refine aV 3 110 rfl (λ K hK=>?_);go_simp;refine HCE.out.mono ?_;rintro e w4 ⟨cs,rfl,he4,hv4,hg4⟩;obtain ⟨k9,k19,n19,s19,A19,na19,ca19,B19,nb19,cb19,s9,A29,n29,ca29,rfl⟩:=he4.form;have HR4:=aW (And.intro he4 (And.intro hv4 hg4));have HXB:=aW (HX2.out.drew.grown hg4 (by simpa using hxg));clear he4 hv4 hg4;refine hK.out _ _ trivial (λ hHeld=>?_);clear hK K
       try simp only [pU]
       refine aV 4 111 rfl (λ K hK=>?_);go_simp;have HXC:=aW (HXB.out.alloc (.cells #[Zi Zq k9,Zi Zq k19,Zi Zq n19,Zt s19,Zs A19 na19 ca19,Zs B19 nb19 cb19,Zt s9,Zs A29 n29 ca29] 45));refine hK.out _ _ trivial (λ hHeld=>?_);clear hK K
       try simp only [pU]
       refine cM (l':=#[true,true,true,true,true,false,false,false]) (by kernel_rfl) ?_;exact HL _ _ _ _ _ _ _ _ _ _ _ _ _ _ _ HR4.out
      ·go_simp;refine HCE.out.mono ?_;rintro e w4 ⟨cs,rfl,he4,hv4,hg4⟩;obtain ⟨k9,k19,n19,s19,A19,na19,ca19,B19,nb19,cb19,s9,A29,n29,ca29,rfl⟩:=he4.form;have HR4:=aW (And.intro he4 (And.intro hv4 hg4));have HXB:=aW (HX2.out.drew.grown hg4 (by simpa using hxg));clear he4 hv4 hg4;refine hK.out _ _ trivial (λ hHeld=>?_);clear hK K
       try simp only [pU]
       refine wpAnyH_ready (rs:=[1,4]) (by kernel_rfl) (by simp) ?_;refine AllReadyH.cons (o:=⟨some 108,_,_,_,_,_⟩) rfl (λ K hK=>?_) (AllReadyH.cons (o:=⟨some 111,_,_,_,_,_⟩) rfl (λ K hK=>?_) AllReadyH.nil)
       ·obtain ⟨y0,y1,y2⟩:=HXB.out.rules;go_simp;refine hK.out _ _ trivial (λ hHeld=>?_);clear hK K y0 y1 y2
        try simp only [pU]
        refine aV 4 111 rfl (λ K hK=>?_);go_simp;have HXC:=aW (HXB.out.alloc (.cells #[Zi Zq k9,Zi Zq k19,Zi Zq n19,Zt s19,Zs A19 na19 ca19,Zs B19 nb19 cb19,Zt s9,Zs A29 n29 ca29] 45));refine hK.out _ _ trivial (λ hHeld=>?_);clear hK K
        try simp only [pU]
        refine cM (l':=#[true,true,true,true,true,false,false,false]) (by kernel_rfl) ?_;exact HL _ _ _ _ _ _ _ _ _ _ _ _ _ _ _ HR4.out
       ·go_simp;have HXC:=aW (HXB.out.alloc (.cells #[Zi Zq k9,Zi Zq k19,Zi Zq n19,Zt s19,Zs A19 na19 ca19,Zs B19 nb19 cb19,Zt s9,Zs A29 n29 ca29] 45));refine hK.out _ _ trivial (λ hHeld=>?_);clear hK K
        try simp only [pU]
        refine aV 1 108 rfl (λ K hK=>?_);obtain ⟨y0,y1,y2⟩:=HXC.out.rules;go_simp;refine hK.out _ _ trivial (λ hHeld=>?_);clear hK K y0 y1 y2
        try simp only [pU]
        refine cM (l':=#[true,true,true,true,true,false,false,false]) (by kernel_rfl) ?_;exact HL _ _ _ _ _ _ _ _ _ _ _ _ _ _ _ HR4.out
     case hleaf =>
      rintro k9 k19 n19 s19 A19 na19 ca19 B19 nb19 cb19 s9 A29 n29 ca29 Z ⟨he4,hv4,hg4⟩;have hgr0:=ag (aw ((Below.refl wr.heap.size wr).drew) (some g)) hg4;have hrwg:row.ownBlock=none∨row.ownBlock≠some g:=by
       rcases hro:row.ownBlock with _ | j
       ·exact .inl rfl
       ·refine .inr λ e=>?_
        have:=(HO.out.lt j hro).1;injection e with e
        omega
      have HO4:=aW ((HO.out.kept hgr0 hrwg).alloc (.cells #[Zi Zq k9,Zi Zq k19,Zi Zq n19,Zt s19,Zs A19 na19 ca19,Zs B19 nb19 cb19,Zt s9,Zs A29 n29 ca29] 45));have HX4:=aW ((HX2.out.drew.grown hg4 (by simpa using hxg)).alloc (.cells #[Zi Zq k9,Zi Zq k19,Zi Zq n19,Zt s19,Zs A19 na19 ca19,Zs B19 nb19 cb19,Zt s9,Zs A29 n29 ca29] 45));have HR6:=aW (Rd.of_blk (Blk.new Z 45 #[Zi Zq k9,Zi Zq k19,Zi Zq n19,Zt s19,Zs A19 na19 ca19,Zs B19 nb19 cb19,Zt s9,Zs A29 n29 ca29]));have H1C:=aW (show ∀ u ∈ ([Zi Zq k9,Zi Zq k19,Zi Zq n19,Zt s19,Zs A19 na19 ca19,Zs B19 nb19 cb19,Zt s9,Zs A29 n29 ca29]:List Value),u.oneCell'=true from he4.one);have HBS:=aW (show w.heap.size+2<=(Z.alloc (.cells #[Zi Zq k9,Zi Zq k19,Zi Zq n19,Zt s19,Zs A19 na19 ca19,Zs B19 nb19 cb19,Zt s9,Zs A29 n29 ca29] 45)).heap.size by rw [World.size_alloc];have:=hgr0.size;have:=HSW.out;omega);have HLT:=aW (And.intro HO.out.lt hgr0);clear hgr0 hrwg;refine aV 5 112 rfl (λ K hK=>?_);rw [if_pos (by kernel_rfl)];refine ej _ (.tmp 108) (.tmp 111) 43 rfl (w.heap.size+2) 45 i0 _ 8 128 Tryz.underlying43 HI.out hz0 hz1 hz2 rfl (by decide) row acc.length css.flatten rfl HO4.out (some ⟨Z.heap.size,0,none⟩) 1 1 (λ h=>by cases h) [Zi Zq k9,Zi Zq k19,Zi Zq n19,Zt s19,Zs A19 na19 ca19,Zs B19 nb19 cb19,Zt s9,Zs A29 n29 ca29] rfl rfl HR6.out H1C.out (by unfold maxLen;omega) (by omega) HBS.out ?_;intro row2 w6 hown6 hgr6 hob6;obtain ⟨RA,rc,rfl,hrc,hrn,hrr⟩:=bJ hown6;have hrx:some w.heap.size≠row.ownBlock:=λ e=>by have:=(HLT.out.1 _ e.symm).1;omega
      have hrg:some g≠row.ownBlock:=λ e=>by have:=(HLT.out.1 _ e.symm).1;omega
      have HX6:=aW (HX4.out.grown hgr6 hrx);obtain ⟨y0,y1,y2⟩:=HX6.out.rules;refine hK.out _ _ trivial (λ hHeld2=>?_);clear hK K;have hHeld:=hHeld2;clear hHeld2
      try simp only [pU]
      refine tA 6 113 (Zp (some ⟨w.heap.size,7,none⟩)) rfl ?_;refine aU 7 rfl (λ K hK=>?_);go_simp;refine hK.out _ _ trivial (λ hHeld2=>?_);clear hK K hHeld hHeld2
      try simp only [pU]
      refine aX ?_;obtain ⟨W7,hW7⟩:∃ W',w6.setCell ⟨w.heap.size,7,none⟩ (Zs RA (acc.length+1) rc)=W':=⟨_,rfl⟩
      rw [hW7];have hz:Below Z.heap.size Z (Z.alloc (.cells #[Zi Zq k9,Zi Zq k19,Zi Zq n19,Zt s19,Zs A19 na19 ca19,Zs B19 nb19 cb19,Zt s9,Zs A29 n29 ca29] 45)):=(Below.refl _ Z).alloc (Nat.le_refl _) _;have hxr:w.heap.size<Z.heap.size:=Nat.lt_of_lt_of_le (by have:=HSW.out;omega) HLT.out.2.size;have HX7:=aW (show Blk W7 w.heap.size 45 #[Zi Zq 4,Zi Zq 0,Zi Zq 0,Zt ⟨#[]⟩,Zs none 0 0,Zs none 0 0,Zt ⟨#[]⟩,Zs RA (acc.length+1) rc] by rw [← hW7];exact HX6.out.set_ 7 _);have hgA:w.grownBy (Z.alloc (.cells #[Zi Zq k9,Zi Zq k19,Zi Zq n19,Zt s19,Zs A19 na19 ca19,Zs B19 nb19 cb19,Zt s9,Zs A29 n29 ca29] 45)) (some g):=ag (ag HG2.out HLT.out.2) (aw hz _);have hg7:w.grownBy W7 (some g):=by rw [← hW7];exact cR (jU hgA hgr6 λ k e=>by have:=(HLT.out.1 k e).1;omega) ⟨w.heap.size,7,none⟩ _ (Nat.le_refl _)
      have hv7:VP W7 g (some ⟨b,o,none⟩) nT cap T q:=HV.out.step hg7 (by rw [← hW7];exact (((hv4.keep hz).blk.grown hgr6 hrg).far (p:=⟨w.heap.size,7,none⟩) (Ne.symm hxg) _));have hrgX:(Value.slice RA (acc.length+1) rc).ownBlock=none∨(Value.slice RA (acc.length+1) rc).ownBlock≠some w.heap.size:=by
       rcases hro:(Value.slice RA (acc.length+1) rc).ownBlock with _ | j
       ·exact .inl rfl
       ·refine .inr λ e=>?_
        have:=(hown6.lt j hro).1;injection e with e
        omega
      have HO7:=aW (show W7.ownsRow (w.heap.size+2) 45 8 (Zs RA (acc.length+1) rc) (acc++[x]).length (css++[([Zi Zq k9,Zi Zq k19,Zi Zq n19,Zt s19,Zs A19 na19 ca19,Zs B19 nb19 cb19,Zt s9,Zs A29 n29 ca29]:List Value)]).flatten by
       rw [← hW7,List.length_append,List.flatten_append];have h9:=hown6.kept (bt (ec w6 (some w.heap.size)) 7 (Zs RA (acc.length+1) rc)) hrgX;simpa using h9)
      have HE7:=aW (show ERs W7 (FO (λ b=>w.heap.size+2<=b) (Zs RA (acc.length+1) rc)) (css++[([Zi Zq k9,Zi Zq k19,Zi Zq n19,Zt s19,Zs A19 na19 ca19,Zs B19 nb19 cb19,Zt s9,Zs A29 n29 ca29]:List Value)]) (acc++[x]) by
       rw [← hW7];have h1:ERs (Z.alloc (.cells #[Zi Zq k9,Zi Zq k19,Zi Zq n19,Zt s19,Zs A19 na19 ca19,Zs B19 nb19 cb19,Zt s9,Zs A29 n29 ca29] 45)) (FO (λ b=>w.heap.size+2<=b) row) (css++[([Zi Zq k9,Zi Zq k19,Zi Zq n19,Zt s19,Zs A19 na19 ca19,Zs B19 nb19 cb19,Zt s9,Zs A29 n29 ca29]:List Value)]) (acc++[x]):=by
        refine RR.snoc (RR.imp HER.out λ c y hc=>?_) ?_
        ·exact (ER.keep hc (aj.of_grown HLT.out.2 λ k hk e=>by injection e with e;have:=hk.1;omega)).bel hz
        ·refine (he4.bel hz).mono λ k _ hk=>⟨Nat.le_trans HSW.out hk,λ e=>?_⟩
         have:=(HLT.out.1 k e.symm).2;exact absurd hk (Nat.not_le.2 this)
       refine RR.imp (qU h1 hgr6 hob6) λ c y hc=>ER.keep hc (aj.set aj.refl (λ k hk=>by have:=hk.1;omega) 7 _))
      have HG7:=aW hg7;have HV7:=aW hv7;have HS7:=aW (show w.heap.size+2<=W7.heap.size from Nat.le_trans HSW.out (by rw [← hW7];exact Nat.le_trans (Nat.le_trans HLT.out.2.size hz.size) (by simpa [World.setCell] using hgr6.size)));clear hz hxr hgA hg7 hv7 hW7 he4 hv4 hg4 hown6 hgr6 hob6 hrr hrgX HX6 HX4 HO4 y0 y1 y2;by_cases hs:ao T q [44]=true
      ·have HR:=aW (show r=eL T (acc++[x]) (q+1) by rw [HRX.out,if_pos hs]);have HTY:=aW (eh [44] W7 g _ nT cap T q HV7.out hq.2 HP.out.2 hs);have hq1:q+1<nT:=by have h9:=hT.next (p:=q) (by rw [HV.out.len];exact hq.2) (am hs);rw [HV.out.len] at h9;exact h9
       clear hs;go_wp2_with (go_at_call 139;refine HTY.out.mono ?_;rintro e w8 ⟨rfl,hv8,hg8⟩);have hrg8:(Value.slice RA (acc.length+1) rc).ownBlock=none∨(Value.slice RA (acc.length+1) rc).ownBlock≠some g:=by
        rcases hro:(Value.slice RA (acc.length+1) rc).ownBlock with _ | j
        ·exact .inl rfl
        ·refine .inr λ e=>?_
         have:=(HO7.out.lt j hro).1;injection e with e
         omega
       go_roundg (nT-(q+1))
       case measure=>have:=HGK.out;omega
       case rel=>exact ⟨q+1,acc++[x],_,_,by omega,hq1,by simp;omega,rfl,HR,aW hv8,aW (HX7.out.grown hg8 (by simpa using hxg)),aW (HO7.out.kept hg8 hrg8),aW (RR.imp HE7.out λ c y hc=>ER.keep hc (aj.of_grown hg8 λ k hk e=>by injection e with e;have:=hk.1;omega)),aW (ag HG7.out hg8),aW (Nat.le_trans HS7.out hg8.size)⟩
      have hs':ao T q [44]=false:=by simpa using hs
      have HR5:=aW (show r=if ao T q [93]=true then .ok (eOp 4 (acc++[x])) (q+1) else .bad q by rw [HRX.out,if_neg hs]);have HTN:=aW (ef [44] W7 g _ nT cap T q HV7.out hq.2 HP.out.2 hs');clear hs hs';by_cases hs:ao T q [93]=true
      ·have HR:=aW (show r=.ok (eOp 4 (acc++[x])) (q+1) by rw [HR5.out,if_pos hs]);have HW:=aW (λ W (h:Below W7.heap.size W7 W)=>fz [93] W g _ nT cap T q (HV7.out.keep h) hq.2 HP.out.2 hs);clear hs;go_wp2_with (first | (go_at_call 172;refine (HW.out _ hb8).mono ?_;rintro e w9 ⟨rfl,hv9,hg9⟩;obtain ⟨y0,y1,y2⟩:=((HX7.out.keep hb8).grown hg9 (by simpa using hxg)).rules) | (go_at_call 139;refine HTN.out.mono ?_;rintro e w8 ⟨rfl,hb8⟩));refine bodyPost_ret (v:=.agg #[Zi Zq 4,Zi Zq 0,Zi Zq 0,Zt ⟨#[]⟩,Zs none 0 0,Zs none 0 0,Zt ⟨#[]⟩,Zs RA (acc.length+1) rc]) (by simp only [results,Tryz.results198];go_simp) rfl ?_;rw [HR.out];have hg10:=ag (aw hb8 (some g)) hg9;refine bI HV.out hv9 (ag HG7.out hg10) (HX7.out.grown hg10 (by simpa using hxg)) _ _ _ _ _ _ _ _ ?_;obtain ⟨RA',rc',e,hrc',hrn',hrr'⟩:=bJ HO7.out;injection e with e1 e2 e3
       subst e1 e3;have hk:aj (λ b=>w.heap.size+2<=b) W7 ((((((((w9.setCell ⟨w.heap.size,0,none⟩ (Zi Zq 4)).setCell ⟨w.heap.size,1,none⟩ (Zi Zq 0)).setCell ⟨w.heap.size,2,none⟩ (Zi Zq 0)).setCell ⟨w.heap.size,3,none⟩ (Zt ⟨#[]⟩)).setCell ⟨w.heap.size,4,none⟩ (Zs none 0 0)).setCell ⟨w.heap.size,5,none⟩ (Zs none 0 0)).setCell ⟨w.heap.size,6,none⟩ (Zt ⟨#[]⟩)).setCell ⟨w.heap.size,7,none⟩ (Zs RA (acc.length+1) rc)) :=
        gN (λ k hk=>by omega) (aj.of_grown hg10 λ k hk e=>by injection e with e;omega) _ _ _ _ _ _ _ _
       exact ER.into (s:=[]) VR.zero (RR.imp HE7.out λ c y hc=>((ER.mono hc λ k _ hk=>hk.1).keep hk).mono λ k _ hk=>by unfold NW;omega) (by simp) (by simpa using hrc') hrn' ((hrr'.keep hk).mono λ k _ hk=>by unfold NW;omega)
      ·have hs':ao T q [93]=false:=by simpa using hs
       have HR:=aW (show r=.bad q by rw [HR5.out,if_neg hs]);have hw:=λ W (h:Below W7.heap.size W7 W)=>fy [93] W g _ nT cap T q (HV7.out.keep h) hq.2 HP.out.2 hs'
       unfold aG at hw;have HW:=aW hw;clear hs hs' hw;go_wp2_with (first | (go_at_call 172;refine (HW.out _ hb8).mono ?_;rintro e w9 ⟨rfl,hb9⟩) | (go_at_call 139;refine HTN.out.mono ?_;rintro e w8 ⟨rfl,hb8⟩));rw [HR.out];exact ⟨rfl,rfl,ag (ag HG7.out (aw hb8 (some g))) (aw hb9 _)⟩
  have HR:=aW (show r=.bad p by rw [HCS.out,if_neg k1,if_neg k3,if_neg k4,if_neg (λ h=>k2 h.1),if_neg (λ h=>k2 h.1),if_neg (λ h=>k2 h.1),if_neg (λ h=>hn0 h.2),if_neg (λ h=>hn1 h.2)]);have q0:(t == [40])=false:=by simpa using hn0
  have qs0:((⟨t.toArray⟩:ByteArray).toList == (⟨#[40]⟩:ByteArray).toList)=false:=by rw [show (⟨#[40]⟩:ByteArray)=⟨[40].toArray⟩ from rfl,dP];simpa using hn0
  have q1:(t == [91])=false:=by simpa using hn1
  have qs1:((⟨t.toArray⟩:ByteArray).toList == (⟨#[91]⟩:ByteArray).toList)=false:=by rw [show (⟨#[91]⟩:ByteArray)=⟨[91].toArray⟩ from rfl,dP];simpa using hn1
  clear k1 k2 k3 k4 k5 hn0 hn1;obtain ⟨c0,f0,l0⟩:=HV1.out.blk.rules;have hp9:(p:Int)<=1000:=by have:=HP.out;omega
  have HFA:=aW (λ W1 (h:VP W1 g (some ⟨b,o,none⟩) nT cap T p)=>gL W1 g _ nT cap T p h HP.out.1 HP.out.2);unfold aG at HFA;go_wp2_with (go_at_call 87;refine (HFA.out _ (HV1.out.set0 (by omega))).mono ?_;rintro e w2 ⟨rfl,hb2⟩);have hg9:=HG1.out;rw [HR.out];exact ⟨rfl,rfl,ag (bt hg9 0 _) (aw hb2 _)⟩
 have e5:(k == 5)=false:=by simp [k5]
 have HR:=aW (show r=.bad p by rw [HCS.out,if_neg k1,if_neg k3,if_neg k4,if_neg (λ h=>k2 h.1),if_neg (λ h=>k2 h.1),if_neg (λ h=>k2 h.1),if_neg (λ h=>k5 h.1),if_neg (λ h=>k5 h.1)]);clear k1 k2 k3 k4 k5;obtain ⟨c0,f0,l0⟩:=HV1.out.blk.rules;have hp9:(p:Int)<=1000:=by have:=HP.out;omega
 have HFA:=aW (λ W1 (h:VP W1 g (some ⟨b,o,none⟩) nT cap T p)=>gL W1 g _ nT cap T p h HP.out.1 HP.out.2);unfold aG at HFA;go_wp2_with (go_at_call 87;refine (HFA.out _ (HV1.out.set0 (by omega))).mono ?_;rintro e w2 ⟨rfl,hb2⟩);have hg9:=HG1.out;rw [HR.out];exact ⟨rfl,rfl,ag (bt hg9 0 _) (aw hb2 _)⟩
end
end Go.Proofs.YtgmnmnnoahdjnaaGreatDoor
