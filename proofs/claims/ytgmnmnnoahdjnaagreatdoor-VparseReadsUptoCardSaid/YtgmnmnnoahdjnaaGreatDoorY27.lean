import Derived.Test.YtgmnmnnoahdjnaaGreatDoorY25
import Derived.Test.YtgmnmnnoahdjnaaGreatDoorY24
open Go.Value renaming int → Zi, slice → Zs, string → Zt, pointer → Zp
open Go.IntKind renaming i64 → Zq
set_option maxRecDepth 100000
set_option maxHeartbeats 16000000
set_option linter.unusedVariables false
set_option linter.unusedSimpArgs false
namespace Go.Proofs.YtgmnmnnoahdjnaaGreatDoor
section
open Go.RowKit
attribute [local go_sem] aa ac ae ab
def mV (lvl:Int) (l:List (List UInt8 × Int × Int)):List (List UInt8 × Int):=(l.filter λ o=>decide (o.2.2=lvl)).map λ o=>(o.1,o.2.1)
theorem uX {lvl:Nat} (h:lvl<=9):mV lvl fU=eZ lvl:=by
 rcases (by omega:lvl=0∨lvl=1∨lvl=2∨lvl=3∨lvl=4∨lvl=5∨lvl=6∨lvl=7∨lvl=8∨lvl=9) with rfl | rfl | rfl | rfl | rfl | rfl | rfl | rfl | rfl | rfl<;>rfl
theorem tz {T:List ap} {p:Nat} {lvl:Int} {k:Nat} {t:List UInt8} {q1 q2:Int} (h:k<11) (hx:fU.getD k fB=(t,q1,q2)) :
  fs T p (mV lvl (fU.drop k))=if q2=lvl/\al T p t=true then some q1 else fs T p (mV lvl (fU.drop (k+1))):=by
 have e:fU.drop k=(t,q1,q2)::fU.drop (k+1):=by
  have hk:k<fU.length:=h;rw [List.drop_eq_getElem_cons hk,← hx];simp [List.getD,hk]
 rw [e];unfold mV;rw [List.filter_cons];by_cases hq:q2=lvl
 ·rw [if_pos (by simpa using hq),List.map_cons,fs];by_cases hs:al T p t=true
  ·rw [if_pos hs,if_pos ⟨hq,hs⟩]
  ·rw [if_neg hs,if_neg (λ h=>hs h.2)]
 ·rw [if_neg (by simpa using hq),if_neg (λ h=>hq h.1)]
theorem uY {T:List ap} {p:Nat} {lvl:Int}:fs T p (mV lvl (fU.drop 11))=none:=rfl
theorem yr {k:Nat} {t:List UInt8} {q1 q2:Int} (h:k<11) (hx:fU.getD k fB=(t,q1,q2)):ofJ q1=(t,q1,q2):=by
 rcases (by omega:k=0∨k=1∨k=2∨k=3∨k=4∨k=5∨k=6∨k=7∨k=8∨k=9∨k=10) with rfl | rfl | rfl | rfl | rfl | rfl | rfl | rfl | rfl | rfl | rfl <;>
  (injection hx with h1 h2;injection h2 with h2 h3;subst h1 h2 h3;rfl)
def sR (o:Option Int) (g:Nat) (A:Option Addr) (nT cap:Nat) (T:List ap) (p:Nat) (W:World) (e:Ending) (W':World):Prop:=match o with
 | none=>e=.returned (.agg #[Zt ⟨#[]⟩,Zi Zq 0,Zi Zq 0])/\Below W.heap.size W W'
 | some k=>e=.returned (.agg (cL (ofJ k)).toArray)/\VP W' g A nT cap T (p+1)/\W.grownBy W' (some g)
theorem qw {w W:World} {g:Nat} (h:w.grownBy W (some g)) {b:Nat} (hb:w.heap.size<=b) (x y z:Value):w.grownBy (((W.setCell ⟨b,0,none⟩ x).setCell ⟨b,1,none⟩ y).setCell ⟨b,2,none⟩ z) (some g) :=
 dn (dn (dn h ⟨b,0,none⟩ x hb) ⟨b,1,none⟩ y hb) ⟨b,2,none⟩ z hb
theorem Blk.far3 {w:World} {g b:Nat} {t:TypeId} {cs:Array Value} (h:Blk w g t cs) (hb:g≠b) (x y z:Value):Blk (((w.setCell ⟨b,0,none⟩ x).setCell ⟨b,1,none⟩ y).setCell ⟨b,2,none⟩ z) g t cs :=
 ((h.far (p:=⟨b,0,none⟩) hb x).far (p:=⟨b,1,none⟩) hb y).far (p:=⟨b,2,none⟩) hb z
theorem vQ (lvl:Nat) (q:Int) (w:World) (g:Nat) (A:Option Addr) (nT cap:Nat) (T:List ap) (p:Nat) (hV:VP w g A nT cap T p) (hp:p<nT) (hn:nT<=1000) (hq:q=lvl) (hl:lvl<=9) :
  Calls Tryz.prog 197 #[Zp (some ⟨g,0,none⟩),Zi Zq q] w (sR (eo T lvl p) g A nT cap T p w):=by
 obtain ⟨r,hr⟩:∃ r,eo T lvl p=r:=⟨_,rfl⟩
 have HR:=aW (show fs T p (mV q (fU.drop 0))=r by rw [← hr,hq];show fs T p (mV lvl fU)=_;rw [uX hl];rfl);rw [hr];have HV:=aW hV;have HH0:=aW ((az.nil w).push 154 #[Zt ⟨#[]⟩,Zi Zq 0,Zi Zq 0] (g:=w.heap.size) rfl);have hgw:g<w.heap.size:=hV.blk.lt;have hq9:q<=9/\0<=q:=by omega
 have HTN:=aW (λ (s:List UInt8) W (h:Below w.heap.size w W) (hs:al T p s=false)=>ff s W g A nT cap T p (hV.keep h) hp hn hs);have HTY:=aW (λ (s:List UInt8) W (h:Below w.heap.size w W) (hs:al T p s=true)=>fg s W g A nT cap T p (hV.keep h) hp hn hs);clear hV hr hq hl hp hn;go_enter Tryz.func197,Tryz.ntmps197;go_wp2_with fail;refine (lH _).mono ?_;rintro e w1 ⟨rfl,hb1⟩;have HH1:=aW (HH0.out.keep hb1);clear hb1 HH0;go_wp2;go_loopw [6,8] (λ _ i wr => ∃ k:Nat,k<=11/\i=Zi Zq k/\Hid (az [(w.heap.size,154,#[Zt ⟨#[]⟩,Zi Zq 0,Zi Zq 0])] w wr)/\Hid (fs T p (mV q (fU.drop k))=r)) (λ _ i _=>11-(intOf i).toNat)
 case atStart=>exact ⟨0,by omega,rfl,HH1,HR⟩
 case round =>
  obtain ⟨k,hk,rfl,HH,HN⟩:=hrel;by_cases h11:k<11
  ·have hix:=λ W=>uZ k h11 W
   obtain ⟨⟨t,q1,q2⟩,hx⟩:∃ x,fU.getD k fB=x:=⟨_,rfl⟩
   rw [hx] at hix;unfold cL at hix;simp only at hix;have HST:=aW (tz (T:=T) (p:=p) (lvl:=q) h11 hx);have HAT:=aW (yr h11 hx);clear hx;have HH2:=aW (HH.out.push 154 #[Zt ⟨t.toArray⟩,Zi Zq q1,Zi Zq q2] (g:=wr.heap.size) rfl);by_cases hqq:q2=q
   ·have hqe:(q2 == q)=true:=by simp [hqq]
    by_cases hs:al T p t=true
    ·have HRR:=aW (show r=some q1 by rw [← HN.out,HST.out,if_pos ⟨hqq,hs⟩]);have HTA:=aW (HTY.out t _ HH2.out.1 hs);clear hqq hs;go_wp2_with (go_at_call 139;refine HTA.out.mono ?_;rintro e w3 ⟨rfl,hv3,hg3⟩;have hne:some wr.heap.size≠some g:=(by have:=HH.out.1.size;simp;omega);have hne0:some w.heap.size≠some g:=(by simp;omega);obtain ⟨c1,f1,l1⟩:=(HH2.out.b0.grown hg3 hne).rules;obtain ⟨c2,f2,l2⟩:=(HH2.out.b1.grown hg3 hne0).rules;have HV3:=aW hv3;have HG3:=aW hg3;clear hv3 hg3);refine bodyPost_ret (v:=.agg #[Zt ⟨t.toArray⟩,Zi Zq q1,Zi Zq q2]) (by simp only [results,Tryz.results197];go_simp) rfl ?_;rw [HRR.out];have hg9:=ag (aw HH2.out.1 (some g)) HG3.out;refine ⟨by rw [HAT.out];rfl,HV.out.step (qw hg9 (Nat.le_refl _) _ _ _) (Blk.far3 HV3.out.blk (by omega) _ _ _),qw hg9 (Nat.le_refl _) _ _ _⟩
    ·have hs':al T p t=false:=by simpa using hs
     have HRR:=aW (show fs T p (mV q (fU.drop (k+1)))=r by rw [← HN.out,HST.out,if_neg (λ h=>hs h.2)]);have HTA:=aW (HTN.out t _ HH2.out.1 hs');clear hqq hs hs';go_wp2_with (go_at_call 139;refine HTA.out.mono ?_;rintro e w3 ⟨rfl,hb3⟩;have HH3:=aW (HH2.out.keep hb3);clear hb3);go_roundw
     case rel=>exact ⟨k+1,by omega,by go_num,aW HH3.out.pop,HRR⟩
     case measure=>simp [intOf];omega
   ·have hqe:(q2 == q)=false:=by simp [hqq]
    have HRR:=aW (show fs T p (mV q (fU.drop (k+1)))=r by rw [← HN.out,HST.out,if_neg (λ h=>hqq h.1)]);clear hqq;go_wp2;go_roundw
    case rel=>exact ⟨k+1,by omega,by go_num,aW HH2.out.pop,HRR⟩
    case measure=>simp [intOf];omega
  ·obtain rfl:k=11:=by omega
   have HRR:=aW (show r=none by rw [← HN.out,uY]);have hg:=HV.out.goe.keep HH.out.1;have hg0:=hg.c0;have hg1:=hg.c1;have hg2:=hg.c2;clear hg;obtain ⟨c0,f0,l0⟩:=HH.out.b0.rules;go_wp2;refine bodyPost_ret (v:=.agg #[Zt ⟨#[]⟩,Zi Zq 0,Zi Zq 0]) (by simp only [results,Tryz.results197];go_simp) rfl ?_;rw [HRR.out];exact ⟨rfl,kz HH.out.1 (Nat.le_refl _) _ _ _⟩
def NW (W:World) (b:Nat):Prop:=W.heap.size<=b
def dD (r:PR EJ) (g:Nat) (A:Option Addr) (nT cap:Nat) (T:List ap) (W:World) (e:Ending) (W':World):Prop:=match r with
 | .ok x q => ∃ cs,e=.returned (.agg cs.toArray)/\ER W' (NW W) cs x/\VP W' g A nT cap T q/\W.grownBy W' (some g)
 | .bad q=>e=aM (tkA T q)/\W.grownBy W' (some g)
def pp (g:Nat) (A:Option Addr) (nT cap:Nat) (T:List ap) (N:Nat):Prop:=∀ (lvl p:Nat) (q:Int) (W:World),VP W g A nT cap T p->1<=lvl->lvl<=8->p<nT->q=lvl->12*(nT-p)+(10-lvl)<=N ->
 Calls Tryz.prog 171 #[Zp (some ⟨g,0,none⟩),Zi Zq q] W (dD (eE T lvl p) g A nT cap T W)
theorem Blk.far8 {w:World} {g b:Nat} {t:TypeId} {cs:Array Value} (h:Blk w g t cs) (hb:g≠b) (x0 x1 x2 x3 x4 x5 x6 x7:Value) :
  Blk ((((((((w.setCell ⟨b,0,none⟩ x0).setCell ⟨b,1,none⟩ x1).setCell ⟨b,2,none⟩ x2).setCell ⟨b,3,none⟩ x3).setCell ⟨b,4,none⟩ x4).setCell ⟨b,5,none⟩ x5).setCell ⟨b,6,none⟩ x6).setCell ⟨b,7,none⟩ x7) g t cs :=
 Blk.farC hb [x0,x1,x2,x3,x4,x5,x6,x7] 0 h
theorem li {w:World} {r:Option Nat} {b:Nat} (hb:w.heap.size<=b):∀ (l:List Value) (o:Nat) {W:World},w.grownBy W r->w.grownBy (W.setCells b o l) r
 | [],_,_,h=>h
 | v::l,o,W,h=>li hb l (o+1) (dn h ⟨b,o,none⟩ v hb)
theorem jH {w W:World} {r:Option Nat} (h:w.grownBy W r) {b:Nat} (hb:w.heap.size<=b) (x0 x1 x2 x3 x4 x5 x6 x7:Value) :
  w.grownBy ((((((((W.setCell ⟨b,0,none⟩ x0).setCell ⟨b,1,none⟩ x1).setCell ⟨b,2,none⟩ x2).setCell ⟨b,3,none⟩ x3).setCell ⟨b,4,none⟩ x4).setCell ⟨b,5,none⟩ x5).setCell ⟨b,6,none⟩ x6).setCell ⟨b,7,none⟩ x7) r :=
 li hb [x0,x1,x2,x3,x4,x5,x6,x7] 0 h
theorem ed {F:Nat->Prop} {a w:World} {b:Nat} (hb:∀ k,F k->k≠b) (h:af F a w) (x0 x1 x2 x3 x4 x5 x6 x7:Value) :
  af F a ((((((((w.setCell ⟨b,0,none⟩ x0).setCell ⟨b,1,none⟩ x1).setCell ⟨b,2,none⟩ x2).setCell ⟨b,3,none⟩ x3).setCell ⟨b,4,none⟩ x4).setCell ⟨b,5,none⟩ x5).setCell ⟨b,6,none⟩ x6).setCell ⟨b,7,none⟩ x7) :=
 af.setC hb [x0,x1,x2,x3,x4,x5,x6,x7] 0 h
theorem kv {T:List ap} (hT:WT T) {p:Nat} {s:List UInt8} (hs:s ∈ cC):al T p s=decide (tkK T p=2/\tkT T p=s):=by
 unfold al;rw [Bool.eq_iff_iff,decide_eq_true_eq,decide_eq_true_eq];constructor
 ·rintro ⟨h | h,e⟩
  ·exact absurd (by rw [e];exact hs) (hT.signs p h)
  ·exact ⟨h,e⟩
 ·rintro ⟨h,e⟩;exact ⟨.inr h,e⟩
theorem nY {T:List ap} (hT:WT T) {p:Nat} {s:List UInt8} (hs:s ∉ cC):al T p s=decide (tkK T p=5/\tkT T p=s):=by
 unfold al;rw [Bool.eq_iff_iff,decide_eq_true_eq,decide_eq_true_eq];constructor
 ·rintro ⟨h | h,e⟩
  ·exact ⟨h,e⟩
  ·exact absurd (by rw [← e];exact hT.words p h) hs
 ·rintro ⟨h,e⟩;exact ⟨.inl h,e⟩
theorem uq {T:List ap} (hT:WT T) {p:Nat} (hp:p<T.length):eA T p=(
  if tkK T p=1 then .ok (.mk 2 cS (tkT T p) []) (p+1)
  else if tkK T p=3 then .ok (dF (lQ (tkN T p))) (p+1)
  else if tkK T p=4 then .ok (dF (je (tkT T p))) (p+1)
  else if tkK T p=2/\tkT T p=m9 then .ok (dF (.mk 1 0 [] [] [])) (p+1)
  else if tkK T p=2/\tkT T p=gV then .ok (dF (eY true)) (p+1)
  else if tkK T p=2/\tkT T p=fA then .ok (dF (eY false)) (p+1)
  else if tkK T p=5/\tkT T p=[40] then (match eE T 1 (p+1) with
   | .ok x q=>if al T q [41]=true then .ok x (q+1) else .bad q
   | .bad q=>.bad q)
  else if tkK T p=5/\tkT T p=[91] then (if al T (p+1) [93]=true then .ok (eOp 4 []) (p+2) else eL T [] (p+1))
  else .bad p):=by
 rw [xx hT hp,kv hT (s:=m9) (by decide),kv hT (s:=gV) (by decide),kv hT (s:=fA) (by decide),nY hT (p:=p) (s:=[40]) (by decide),nY hT (p:=p) (s:=[91]) (by decide)];simp only [decide_eq_true_eq];rfl
theorem sI {P:Program} {md:Region.Mode} {ops:Array Oper} {Q:Exit->Act->World->Prop} {S:World->Prop} {fuel:Nat} {listed:Array Bool} {act:Int->Int->Int->ByteArray->Option Addr->Nat->Nat->Option Addr->Nat->Nat->ByteArray->Option Addr->Nat->Nat->World->Act} {wd:Int->Int->Int->ByteArray->Option Addr->Nat->Nat->Option Addr->Nat->Nat->ByteArray->Option Addr->Nat->Nat->World->World} {R:Int->Int->Int->ByteArray->Option Addr->Nat->Nat->Option Addr->Nat->Nat->ByteArray->Option Addr->Nat->Nat->World->Prop} {goal:Prop}
  (hleaf:∀ k k1 n1 s1 A1 na1 ca1 B1 nb1 cb1 s A2 n2 ca2 Z,R k k1 n1 s1 A1 na1 ca1 B1 nb1 cb1 s A2 n2 ca2 Z->wpAnyH P md ops Q S fuel listed (act k k1 n1 s1 A1 na1 ca1 B1 nb1 cb1 s A2 n2 ca2 Z) (wd k k1 n1 s1 A1 na1 ca1 B1 nb1 cb1 s A2 n2 ca2 Z)) (h:(∀ k k1 n1 s1 A1 na1 ca1 B1 nb1 cb1 s A2 n2 ca2 Z,R k k1 n1 s1 A1 na1 ca1 B1 nb1 cb1 s A2 n2 ca2 Z->wpAnyH P md ops Q S fuel listed (act k k1 n1 s1 A1 na1 ca1 B1 nb1 cb1 s A2 n2 ca2 Z) (wd k k1 n1 s1 A1 na1 ca1 B1 nb1 cb1 s A2 n2 ca2 Z))->goal):goal:=h hleaf
theorem dv {P:Program} {md:Region.Mode} {ops:Array Oper} {Q:Exit->Act->World->Prop} {S:World->Prop} {fuel:Nat} {l l':Array Bool} {a:Act} {w:World} (e:l=l') (h:wpAnyH P md ops Q S fuel l' a w):wpAnyH P md ops Q S fuel l a w:=by rw [e];exact h
theorem lj {w W W':World} {row row':Option Nat} (h:w.grownBy W row) (h':W.grownBy W' row') (hr:∀ k,row'=some k->w.heap.size<=k):w.grownBy W' row :=
 ⟨h'.os.trans h.os,h'.tape.trans h.tape,h'.output.trans h.output,Nat.le_trans h.size h'.size,λ k hk hne =>
  (h'.block k (Nat.lt_of_lt_of_le hk h.size) (λ e=>by have:=hr k e.symm;omega)).trans (h.block k hk hne)⟩
theorem pR:(Tryz.prog.info? 45).map (λ i=>(i.zero,i.size,i.bytes))=some (some (.agg #[Zi Zq 0,Zi Zq 0,Zi Zq 0,Zt ⟨#[]⟩,Zs none 0 0,Zs none 0 0,Zt ⟨#[]⟩,Zs none 0 0]),8,128):=by kernel_rfl
theorem pv {w:World} {g:Nat} {A:Option Addr} {nT cap:Nat} {T:List ap} {p:Nat} (hV:VP w g A nT cap T p) (t8 tt:TypeId) (e8 tk:Array Value) {WX:World}
  (hW:(((w.setCell ⟨g,0,none⟩ (Zi Zq ((p:Int)+1))).alloc (.cells e8 t8)).alloc (.cells tk tt)).drew=WX) :
  VP WX g A nT cap T (p+1)/\w.grownBy WX (some g)/\Blk WX w.heap.size t8 e8/\Blk WX (w.heap.size+1) tt tk/\w.heap.size+2<=WX.heap.size:=by
 subst hW;have hs:(w.setCell ⟨g,0,none⟩ (Zi Zq ((p:Int)+1))).heap.size=w.heap.size:=by simp [World.setCell]
 have h1:w.grownBy (w.setCell ⟨g,0,none⟩ (Zi Zq ((p:Int)+1))) (some g):=aH (dw _ _) 0 _;have hb:=(((Below.refl _ (w.setCell ⟨g,0,none⟩ (Zi Zq ((p:Int)+1)))).alloc (Nat.le_refl _) (.cells e8 t8)).alloc (by simp) (.cells tk tt)).drew;have h2:=ag h1 (aw hb (some g));have b0:=Blk.new (w.setCell ⟨g,0,none⟩ (Zi Zq ((p:Int)+1))) t8 e8;have b1:=Blk.new ((w.setCell ⟨g,0,none⟩ (Zi Zq ((p:Int)+1))).alloc (.cells e8 t8)) tt tk;rw [World.size_alloc] at b1;rw [hs] at b0 b1;refine ⟨hV.step h2 ((((hV.blk.set_ 0 _).alloc _).alloc _).drew),h2,(b0.alloc _).drew,b1.drew,?_⟩;show w.heap.size+2<=(((w.setCell ⟨g,0,none⟩ (Zi Zq ((p:Int)+1))).alloc (.cells e8 t8)).alloc (.cells tk tt)).heap.size
 rw [World.size_alloc,World.size_alloc,hs];omega
theorem ci {w WX:World} {g:Nat} {A:Option Addr} {nT cap:Nat} {T:List ap} {p q:Nat} (hV:VP w g A nT cap T p) (hv:VP WX g A nT cap T q) (hg:w.grownBy WX (some g)) {t8:TypeId} {e8:Array Value} (hx:Blk WX w.heap.size t8 e8) (x0 x1 x2 x3 x4 x5 x6 x7:Value) {x:EJ}
  (hE:ER ((((((((WX.setCell ⟨w.heap.size,0,none⟩ x0).setCell ⟨w.heap.size,1,none⟩ x1).setCell ⟨w.heap.size,2,none⟩ x2).setCell ⟨w.heap.size,3,none⟩ x3).setCell ⟨w.heap.size,4,none⟩ x4).setCell ⟨w.heap.size,5,none⟩ x5).setCell ⟨w.heap.size,6,none⟩ x6).setCell ⟨w.heap.size,7,none⟩ x7) (NW w) [x0,x1,x2,x3,x4,x5,x6,x7] x) :
  dD (.ok x q) g A nT cap T w (.returned (.agg #[x0,x1,x2,x3,x4,x5,x6,x7])) ((((((((WX.setCell ⟨w.heap.size,0,none⟩ x0).setCell ⟨w.heap.size,1,none⟩ x1).setCell ⟨w.heap.size,2,none⟩ x2).setCell ⟨w.heap.size,3,none⟩ x3).setCell ⟨w.heap.size,4,none⟩ x4).setCell ⟨w.heap.size,5,none⟩ x5).setCell ⟨w.heap.size,6,none⟩ x6).setCell ⟨w.heap.size,7,none⟩ x7):=by
 have hgl:=hV.blk.lt;have hg2:=jH hg (Nat.le_refl w.heap.size) x0 x1 x2 x3 x4 x5 x6 x7;exact ⟨_,rfl,hE,hV.step hg2 (Blk.far8 hv.blk (by omega) x0 x1 x2 x3 x4 x5 x6 x7),hg2⟩
theorem xq (g:Nat) (A:Option Addr) (nT cap:Nat) (T:List ap) (N:Nat) (hT:WT T) (hE:pp g A nT cap T N) (p:Nat) (w:World) (hV:VP w g A nT cap T p) (hp:p<nT) (hn:nT<=1000) (hN:12*(nT-p)<=N+3) :
  Calls Tryz.prog 198 #[Zp (some ⟨g,0,none⟩)] w (dD (eA T p) g A nT cap T w):=by
 have hcs:=uq hT (p:=p) (by rw [hV.len];exact hp);obtain ⟨r,hr⟩:∃ r,eA T p=r:=⟨_,rfl⟩
 rw [hr] at hcs;have HNX:=aW (λ h=>hT.next (p:=p) (by rw [hV.len];exact hp) h);have HKD:=aW (hT.kinds p);obtain ⟨b,o,rfl,hb,hbg,x0,x1,x2,x3⟩:=hV.tok hp;obtain ⟨k,hk⟩:∃ k,tkK T p=k:=⟨_,rfl⟩
 obtain ⟨t,ht⟩:∃ t,tkT T p=t:=⟨_,rfl⟩
 obtain ⟨at_,hat⟩:∃ a,tkA T p=a:=⟨_,rfl⟩
 obtain ⟨m,hm⟩:∃ a,tkN T p=a:=⟨_,rfl⟩
 rw [hk,ht,hm] at hcs;rw [hk] at x0 HKD HNX;rw [ht] at x2;rw [hat] at x1;rw [hm] at x3;rw [hr];obtain ⟨c0,f0,l0⟩:=hV.blk.rules;have c00:=c0 0;have c01:=c0 1;simp at c00 c01;have hpi:(p:Int)<(nT:Int):=by omega
 have hp9:(p:Int)<=1000:=by omega
 have HCS:=aW hcs;have HV:=aW hV;have HP:=aW (And.intro hp hn);have HAT:=aW hat;have HNN:=aW hN;have HGW:=aW l0;clear hV hr hcs hk ht hat hm hp hn hN;go_enter Tryz.func198,Tryz.ntmps198;go_upto_region 1 with fail;go_region_held3 (λ w'=>w'.cell? ⟨g,0,none⟩=some (Zi Zq (p:Int))/\w'.cell? ⟨g,1,none⟩=some (Zs (some ⟨b,o,none⟩) nT cap)/\w'.cell? ⟨b,o+p*4,none⟩=some (Zi Zq k)/\w'.cell? ⟨b,o+p*4+1,none⟩=some (Zi Zq (at_:Int))/\w'.cell? ⟨b,o+p*4+2,none⟩=some (Zt ⟨t.toArray⟩)/\w'.cell? ⟨b,o+p*4+3,none⟩=some (Zi Zq m)) (go_keep) (fail);go_upto_region 3 with fail;obtain ⟨WX,hWX⟩:∃ W',((((w.setCell ⟨g,0,none⟩ (Zi Zq ((p:Int)+1))).alloc (.cells #[Zi Zq 0,Zi Zq 0,Zi Zq 0,Zt ⟨#[]⟩,Zs none 0 0,Zs none 0 0,Zt ⟨#[]⟩,Zs none 0 0] 45)).alloc (.cells #[Zi Zq k,Zi Zq (at_:Int),Zt ⟨t.toArray⟩,Zi Zq m] 86)).drew)=W':=⟨_,rfl⟩
 rw [hWX];obtain ⟨hv1,hg1,hx1,ht1,hs1⟩:=pv HV.out _ _ _ _ hWX;have HV1:=aW hv1;have HG1:=aW hg1;have HX1:=aW hx1;have HT1:=aW ht1;have HS1:=aW hs1;obtain ⟨y0,y1,y2⟩:=hx1.rules;obtain ⟨z0,z1,z2⟩:=ht1.rules;clear hWX hv1 hg1 hx1 ht1 hs1 c0 f0 l0 x0 x1 x2 x3 c00 c01 hb hbg hpi hp9;by_cases k1:k=1
 ·have e1:(k == 1)=true:=by simp [k1]
  have HR:=aW (show r=.ok (.mk 2 cS t []) (p+1) by rw [HCS.out,if_pos k1]);clear k1;go_wp2;refine bodyPost_ret (v:=.agg #[Zi Zq 2,Zi Zq 0,Zi Zq 0,Zt ⟨#[]⟩,Zs none 0 0,Zs none 0 0,Zt ⟨t.toArray⟩,Zs none 0 0]) (by simp only [results,Tryz.results198];go_simp) rfl ?_;rw [HR.out];exact ci HV.out HV1.out HG1.out HX1.out _ _ _ _ _ _ _ _ (ER.leaf _ _ (VR.atom _ _ _))
 have e1:(k == 1)=false:=by simp [k1]
 by_cases k3:k=3
 ·have e3:(k == 3)=true:=by simp [k3]
  have HR:=aW (show r=.ok (dF (lQ m)) (p+1) by rw [HCS.out,if_neg k1,if_pos k3]);clear k1 k3;go_wp2;refine bodyPost_ret (v:=.agg #[Zi Zq 1,Zi Zq 3,Zi Zq m,Zt ⟨#[]⟩,Zs none 0 0,Zs none 0 0,Zt ⟨#[]⟩,Zs none 0 0]) (by simp only [results,Tryz.results198];go_simp) rfl ?_;rw [HR.out];exact ci HV.out HV1.out HG1.out HX1.out _ _ _ _ _ _ _ _ (ER.leaf _ _ (VR.atom _ _ _))
 have e3:(k == 3)=false:=by simp [k3]
 by_cases k4:k=4
 ·have e4:(k == 4)=true:=by simp [k4]
  have HR:=aW (show r=.ok (dF (je t)) (p+1) by rw [HCS.out,if_neg k1,if_neg k3,if_pos k4]);clear k1 k3 k4;go_wp2;refine bodyPost_ret (v:=.agg #[Zi Zq 1,Zi Zq 4,Zi Zq 0,Zt ⟨t.toArray⟩,Zs none 0 0,Zs none 0 0,Zt ⟨#[]⟩,Zs none 0 0]) (by simp only [results,Tryz.results198];go_simp) rfl ?_;rw [HR.out];exact ci HV.out HV1.out HG1.out HX1.out _ _ _ _ _ _ _ _ (ER.leaf _ _ (VR.atom _ _ _))
 have e4:(k == 4)=false:=by simp [k4]
 by_cases k2:k=2
 ·have e2:(k == 2)=true:=by simp [k2]
  have e5:(k == 5)=false:=by rw [k2];rfl
  by_cases hn0:t=m9
  ·have HR:=aW (show r=.ok (dF (.mk 1 0 [] [] [])) (p+1) by rw [HCS.out,if_neg k1,if_neg k3,if_neg k4,if_pos ⟨k2,hn0⟩]);subst hn0;unfold m9 at z0 HT1 ⊢;clear k1 k2 k3 k4;go_wp2;refine bodyPost_ret (v:=.agg #[Zi Zq 1,Zi Zq 1,Zi Zq 0,Zt ⟨#[]⟩,Zs none 0 0,Zs none 0 0,Zt ⟨#[]⟩,Zs none 0 0]) (by simp only [results,Tryz.results198];go_simp) rfl ?_;rw [HR.out];exact ci HV.out HV1.out HG1.out HX1.out _ _ _ _ _ _ _ _ (ER.leaf _ _ (VR.atom _ _ _))
  by_cases hn1:t=gV
  ·have HR:=aW (show r=.ok (dF (eY true)) (p+1) by rw [HCS.out,if_neg k1,if_neg k3,if_neg k4,if_neg (λ h=>hn0 h.2),if_pos ⟨k2,hn1⟩]);subst hn1;unfold gV at z0 HT1 ⊢;clear k1 k2 k3 k4 hn0;go_wp2;refine bodyPost_ret (v:=.agg #[Zi Zq 1,Zi Zq 2,Zi Zq 1,Zt ⟨#[]⟩,Zs none 0 0,Zs none 0 0,Zt ⟨#[]⟩,Zs none 0 0]) (by simp only [results,Tryz.results198];go_simp) rfl ?_;rw [HR.out];exact ci HV.out HV1.out HG1.out HX1.out _ _ _ _ _ _ _ _ (ER.leaf _ _ (VR.atom _ _ _))
  by_cases hn2:t=fA
  ·have HR:=aW (show r=.ok (dF (eY false)) (p+1) by rw [HCS.out,if_neg k1,if_neg k3,if_neg k4,if_neg (λ h=>hn0 h.2),if_neg (λ h=>hn1 h.2),if_pos ⟨k2,hn2⟩]);subst hn2;unfold fA at z0 HT1 ⊢;clear k1 k2 k3 k4 hn0 hn1;go_wp2;refine bodyPost_ret (v:=.agg #[Zi Zq 1,Zi Zq 2,Zi Zq 0,Zt ⟨#[]⟩,Zs none 0 0,Zs none 0 0,Zt ⟨#[]⟩,Zs none 0 0]) (by simp only [results,Tryz.results198];go_simp) rfl ?_;rw [HR.out];exact ci HV.out HV1.out HG1.out HX1.out _ _ _ _ _ _ _ _ (ER.leaf _ _ (VR.atom _ _ _))
  have HR:=aW (show r=.bad p by rw [HCS.out,if_neg k1,if_neg k3,if_neg k4,if_neg (λ h=>hn0 h.2),if_neg (λ h=>hn1 h.2),if_neg (λ h=>hn2 h.2),if_neg (λ h=>by omega),if_neg (λ h=>by omega)]);unfold m9 at hn0;unfold gV at hn1;unfold fA at hn2;have q0:(t == [110,117,108,108])=false:=by simpa using hn0
  have qs0:((⟨t.toArray⟩:ByteArray).toList == (⟨#[110,117,108,108]⟩:ByteArray).toList)=false:=by rw [show (⟨#[110,117,108,108]⟩:ByteArray)=⟨[110,117,108,108].toArray⟩ from rfl,dV];simpa using hn0
  have q1:(t == [116,114,117,101])=false:=by simpa using hn1
  have qs1:((⟨t.toArray⟩:ByteArray).toList == (⟨#[116,114,117,101]⟩:ByteArray).toList)=false:=by rw [show (⟨#[116,114,117,101]⟩:ByteArray)=⟨[116,114,117,101].toArray⟩ from rfl,dV];simpa using hn1
  have q2:(t == [102,97,108,115,101])=false:=by simpa using hn2
  have qs2:((⟨t.toArray⟩:ByteArray).toList == (⟨#[102,97,108,115,101]⟩:ByteArray).toList)=false:=by rw [show (⟨#[102,97,108,115,101]⟩:ByteArray)=⟨[102,97,108,115,101].toArray⟩ from rfl,dV];simpa using hn2
  clear k1 k2 k3 k4 hn0 hn1 hn2;obtain ⟨c0,f0,l0⟩:=HV1.out.blk.rules;have hp9:(p:Int)<=1000:=by have:=HP.out;omega
  have HFA:=aW (λ W1 (h:VP W1 g (some ⟨b,o,none⟩) nT cap T p)=>iT W1 g _ nT cap T p h HP.out.1 HP.out.2);unfold aM at HFA;go_wp2_with (go_at_call 87;refine (HFA.out _ (HV1.out.set0 (by omega))).mono ?_;rintro e w2 ⟨rfl,hb2⟩);have hg9:=HG1.out;rw [HR.out];exact ⟨rfl,rfl,ag (aH hg9 0 _) (aw hb2 _)⟩
 have e2:(k == 2)=false:=by simp [k2]
 by_cases k5:k=5
 ·have e5:(k == 5)=true:=by simp [k5]
  by_cases hn0:t=[40]
  ·subst hn0;have hk6:p+1<nT:=by have h9:=HNX.out (by omega);rw [HV.out.len] at h9;exact h9
   have HC0:=aW (show r=(match eE T 1 (p+1) with | .ok x q=>if al T q [41]=true then .ok x (q+1) else .bad q | .bad q=>.bad q) by rw [HCS.out,if_neg k1,if_neg k3,if_neg k4,if_neg (λ h=>k2 h.1),if_neg (λ h=>k2 h.1),if_neg (λ h=>k2 h.1),if_pos ⟨k5,rfl⟩]);have hce:=hE 1 (p+1) 1 WX HV1.out (by omega) (by omega) hk6 rfl (by have:=HNN.out;omega);clear k1 k2 k3 k4 k5;cases hr1:eE T 1 (p+1) with
   |bad q =>
    rw [hr1] at hce;have HR:=aW (show r=.bad q by rw [HC0.out,hr1]);unfold dD aM at hce;have HCE:=aW hce;clear hce;go_wp2_with (go_at_call 171;refine HCE.out.mono ?_;rintro e w2 ⟨rfl,hg2⟩);rw [HR.out];exact ⟨rfl,rfl,ag HG1.out hg2⟩
   |ok x q =>
    rw [hr1] at hce;have HC1:=aW (show r=if al T q [41]=true then .ok x (q+1) else .bad q by rw [HC0.out,hr1]);have hq:=(dm hT (by rw [HV.out.len];exact hk6) hr1).2;rw [HV.out.len] at hq;have HQ:=aW hq;unfold dD at hce;have HCE:=aW hce;clear hce hr1 hq;go_wp2_with fail;refine HCE.out.mono ?_;rintro e w2 ⟨cs,rfl,he2,hv2,hg2⟩;obtain ⟨k9,k19,n19,s19,A19,na19,ca19,B19,nb19,cb19,s9,A29,n29,ca29,rfl⟩:=he2.form;have hgl:=HV.out.blk.lt;have hxg:w.heap.size≠g:=by omega
    have HX2:=aW (HX1.out.grown hg2 (by simpa using hxg));obtain ⟨y0,y1,y2⟩:=HX2.out.rules;go_upto_region 17 with fail;obtain ⟨W3,hW3⟩:∃ W',((((((((w2.setCell ⟨w.heap.size,0,none⟩ (Zi Zq k9)).setCell ⟨w.heap.size,1,none⟩ (Zi Zq k19)).setCell ⟨w.heap.size,2,none⟩ (Zi Zq n19)).setCell ⟨w.heap.size,3,none⟩ (Zt s19)).setCell ⟨w.heap.size,4,none⟩ (Zs A19 na19 ca19)).setCell ⟨w.heap.size,5,none⟩ (Zs B19 nb19 cb19)).setCell ⟨w.heap.size,6,none⟩ (Zt s9)).setCell ⟨w.heap.size,7,none⟩ (Zs A29 n29 ca29))=W':=⟨_,rfl⟩
    rw [hW3];have hX3:Blk W3 w.heap.size 45 #[Zi Zq k9,Zi Zq k19,Zi Zq n19,Zt s19,Zs A19 na19 ca19,Zs B19 nb19 cb19,Zt s9,Zs A29 n29 ca29]:=by rw [← hW3];exact HX2.out.set8C _ _ _ _ _ _ _ _
    have hg3:w.grownBy W3 (some g):=by rw [← hW3];exact jH (ag HG1.out hg2) (Nat.le_refl _) _ _ _ _ _ _ _ _
    have hv3:VP W3 g (some ⟨b,o,none⟩) nT cap T q:=HV.out.step hg3 (by rw [← hW3];exact Blk.far8 hv2.blk (by omega) _ _ _ _ _ _ _ _);have he3:ER W3 (λ b=>w.heap.size+2<=b) [Zi Zq k9,Zi Zq k19,Zi Zq n19,Zt s19,Zs A19 na19 ca19,Zs B19 nb19 cb19,Zt s9,Zs A29 n29 ca29] x:=by
     rw [← hW3];refine (he2.keep (ed (λ k hk=>?_) af.refl _ _ _ _ _ _ _ _)).mono λ k _ hk=>?_
     ·have:=HS1.out;unfold NW at hk;omega
     ·have:=HS1.out;unfold NW at hk;show w.heap.size+2<=k;omega
    have HX3:=aW hX3;have HG3:=aW hg3;have HV3:=aW hv3;have HE3:=aW he3;clear hW3 hX3 hg3 hv3 he3 he2 hv2 hg2 y0 y1 y2;by_cases hs:al T q [41]=true
    ·have HR:=aW (show r=.ok x (q+1) by rw [HC1.out,if_pos hs]);have HW:=aW (gT [41] W3 g _ nT cap T q HV3.out HQ.out HP.out.2 hs);clear hs;go_wp2_with (go_at_call 172;refine HW.out.mono ?_;rintro e w4 ⟨rfl,hv4,hg4⟩;obtain ⟨y0,y1,y2⟩:=(HX3.out.grown hg4 (by simpa using hxg)).rules);refine bodyPost_ret (v:=.agg #[Zi Zq k9,Zi Zq k19,Zi Zq n19,Zt s19,Zs A19 na19 ca19,Zs B19 nb19 cb19,Zt s9,Zs A29 n29 ca29]) (by simp only [results,Tryz.results198];go_simp) rfl ?_;rw [HR.out];have hx4:=HX3.out.grown hg4 (by simpa using hxg);refine ci HV.out hv4 (ag HG3.out hg4) hx4 _ _ _ _ _ _ _ _ ?_;exact ((HE3.out.keep (af.of_grown hg4 λ k hk e=>by injection e with e;omega)).keep (ed (λ k hk=>by omega) af.refl _ _ _ _ _ _ _ _)).mono λ k _ hk=>by unfold NW;omega
    ·have hs':al T q [41]=false:=by simpa using hs
     have HR:=aW (show r=.bad q by rw [HC1.out,if_neg hs]);have hw:=gS [41] W3 g _ nT cap T q HV3.out HQ.out HP.out.2 hs';unfold aM at hw;have HW:=aW hw;clear hs hs' hw;go_wp2_with (go_at_call 172;refine HW.out.mono ?_;rintro e w4 ⟨rfl,hb4⟩);rw [HR.out];exact ⟨rfl,rfl,ag HG3.out (aw hb4 _)⟩
  by_cases hn1:t=[91]
  ·subst hn1;have hk6:p+1<nT:=by have h9:=HNX.out (by omega);rw [HV.out.len] at h9;exact h9
   have HC0:=aW (show r=if al T (p+1) [93]=true then .ok (eOp 4 []) (p+2) else eL T [] (p+1) by rw [HCS.out,if_neg k1,if_neg k3,if_neg k4,if_neg (λ h=>k2 h.1),if_neg (λ h=>k2 h.1),if_neg (λ h=>k2 h.1),if_neg (λ h=>absurd h.2 (by decide)),if_pos ⟨k5,rfl⟩]);have hgl:=HV.out.blk.lt;have hxg:w.heap.size≠g:=by omega
   clear k1 k2 k3 k4 k5 hn0;go_upto_region 21 with fail;obtain ⟨W2,hW2⟩:∃ W',WX.setCell ⟨w.heap.size,0,none⟩ (Zi Zq 4)=W':=⟨_,rfl⟩
   rw [hW2];have HX2:=aW (show Blk W2 w.heap.size 45 #[Zi Zq 4,Zi Zq 0,Zi Zq 0,Zt ⟨#[]⟩,Zs none 0 0,Zs none 0 0,Zt ⟨#[]⟩,Zs none 0 0] by rw [← hW2];exact HX1.out.set_ 0 _);have hg2:w.grownBy W2 (some g):=by rw [← hW2];exact dn HG1.out ⟨w.heap.size,0,none⟩ _ (Nat.le_refl _)
   have HV2:=aW (show VP W2 g (some ⟨b,o,none⟩) nT cap T (p+1) from HV.out.step hg2 (by rw [← hW2];exact HV1.out.blk.far (p:=⟨w.heap.size,0,none⟩) (Ne.symm hxg) _));have HG2:=aW hg2;have HS2:=aW (show w.heap.size+2<=W2.heap.size by rw [← hW2];have:=HS1.out;simpa [World.setCell] using this);clear hW2 hg2 y0 y1 y2 z0 z1 z2;by_cases hs:al T (p+1) [93]=true
   ·have HR:=aW (show r=.ok (eOp 4 []) (p+2) by rw [HC0.out,if_pos hs]);have HTY:=aW (fg [93] W2 g _ nT cap T (p+1) HV2.out hk6 HP.out.2 hs);clear hs;go_wp2_with (go_at_call 139;refine HTY.out.mono ?_;rintro e w4 ⟨rfl,hv4,hg4⟩;obtain ⟨y0,y1,y2⟩:=(HX2.out.grown hg4 (by simpa using hxg)).rules);refine bodyPost_ret (v:=.agg #[Zi Zq 4,Zi Zq 0,Zi Zq 0,Zt ⟨#[]⟩,Zs none 0 0,Zs none 0 0,Zt ⟨#[]⟩,Zs none 0 0]) (by simp only [results,Tryz.results198];go_simp) rfl ?_;rw [HR.out];have hx4:=HX2.out.grown hg4 (by simpa using hxg);exact ci HV.out hv4 (ag HG2.out hg4) hx4 _ _ _ _ _ _ _ _ (ER.leaf 4 [] VR.zero)
   have hs':al T (p+1) [93]=false:=by simpa using hs
   have HR0:=aW (show r=eL T [] (p+1) by rw [HC0.out,if_neg hs]);have HTN:=aW (ff [93] W2 g _ nT cap T (p+1) HV2.out hk6 HP.out.2 hs');obtain ⟨i0,hi,hz0,hz1,hz2⟩:=info_parts pR;have HI:=aW hi;clear hs hs' hi;go_wp2_with (go_at_call 139;refine HTN.out.mono ?_;rintro e w4 ⟨rfl,hb4⟩);have HX4:=aW (HX2.out.keep hb4);have HV4:=aW (HV2.out.keep hb4);have HG4:=aW (ag HG2.out (aw hb4 (some g)));have HS4:=aW (Nat.le_trans HS2.out hb4.size);clear hb4 HX2 HV2 HG2 HS2 HTN HC0;go_loopg [] (nT-(p+1)) (λ gk wr => ∃ (p':Nat) (acc:List EJ) (row:Value) (css:List (List Value)),p+1<=p'/\p'<nT/\acc.length<=p'/\gk=nT-p'/\Hid (r=eL T acc p')/\Hid (VP wr g (some ⟨b,o,none⟩) nT cap T p')/\Hid (Blk wr w.heap.size 45 #[Zi Zq 4,Zi Zq 0,Zi Zq 0,Zt ⟨#[]⟩,Zs none 0 0,Zs none 0 0,Zt ⟨#[]⟩,row]) /\
    Hid (wr.ownsRow (w.heap.size+2) 45 8 row acc.length css.flatten)/\Hid (ERs wr (FO (λ b=>w.heap.size+2<=b) row) css acc)/\Hid (w.grownBy wr (some g))/\Hid (w.heap.size+2<=wr.heap.size))
   case atStart=>exact ⟨p+1,[],_,[],Nat.le_refl _,hk6,Nat.zero_le _,rfl,HR0,HV4,HX4,aW (World.ownsRow_nil _ _ _ _),aW RR.nil,HG4,HS4⟩
   case round =>
    obtain ⟨p',acc,row,css,hpp,hpn,hal,hgk,HR1,HV2,HX2,HO,HER,HG2,HSW⟩:=hrel;have HGK:=aW hgk;clear hgk HR0 HV4 HX4 HG4 HS4;have hn9:=HP.out.2;have hce:=hE 1 p' 1 wr.drew (HV2.out.keep ((Below.refl _ wr).drew)) (by omega) (by omega) hpn rfl (by have:=HNN.out;omega);cases hr1:eE T 1 p' with
    |bad q =>
     rw [hr1] at hce;have HR:=aW (show r=.bad q by rw [HR1.out,r5 hT (by rw [HV2.out.len];exact hpn),hr1]);unfold dD aM at hce;have HCE:=aW hce;clear hce hr1;go_upto_region 23 with fail;refine wp_region_held_drew (S:=λ _=>True) (by kernel_rfl) trivial (λ hHeld=>?_);refine tA 0 107 (Zp (some ⟨w.heap.size,7,none⟩)) rfl ?_;refine tA 2 109 (Zp (some ⟨g,0,none⟩)) rfl ?_;refine wpAnyH_ready (rs:=[1,3]) (by kernel_rfl) (by simp) ?_;refine AllReadyH.cons (o:=⟨some 108,_,_,_,_,_⟩) rfl (λ K hK=>?_) (AllReadyH.cons (o:=⟨some 110,_,_,_,_,_⟩) rfl (λ K hK=>?_) AllReadyH.nil)
     ·obtain ⟨y0,y1,y2⟩:=HX2.out.rules;go_simp;refine hK.out _ _ trivial (λ hHeld=>?_);clear hK K y0 y1 y2
      try simp only [pU]
      refine aV 3 110 rfl (λ K hK=>?_);go_simp;refine HCE.out.mono ?_;rintro e w4 ⟨rfl,hg4⟩
      try rw [HR.out]
      exact ⟨rfl,rfl,ag HG2.out (ag (aw ((Below.refl wr.heap.size wr).drew) (some g)) hg4)⟩
     ·go_simp;refine HCE.out.mono ?_;rintro e w4 ⟨rfl,hg4⟩
      try rw [HR.out]
      exact ⟨rfl,rfl,ag HG2.out (ag (aw ((Below.refl wr.heap.size wr).drew) (some g)) hg4)⟩
    |ok x q =>
     rw [hr1] at hce;have HRX:=aW (show r=if al T q [44]=true then eL T (acc++[x]) (q+1) else if al T q [93]=true then .ok (eOp 4 (acc++[x])) (q+1) else .bad q by rw [HR1.out,r5 hT (by rw [HV2.out.len];exact hpn),hr1]);have hq:=dm hT (by rw [HV2.out.len];exact hpn) hr1;rw [HV2.out.len] at hq;unfold dD at hce;have HCE:=aW hce;clear hce hr1;go_upto_region 23 with fail;apply sI (R:=λ k9 k19 n19 s19 A19 na19 ca19 B19 nb19 cb19 s9 A29 n29 ca29 Z=>ER Z (NW wr.drew) [Zi Zq k9,Zi Zq k19,Zi Zq n19,Zt s19,Zs A19 na19 ca19,Zs B19 nb19 cb19,Zt s9,Zs A29 n29 ca29] x/\VP Z g (some ⟨b,o,none⟩) nT cap T q/\wr.drew.grownBy Z (some g))
     case h =>
      intro HL;refine wp_region_held_drew (S:=λ _=>True) (by kernel_rfl) trivial (λ hHeld=>?_);refine tA 0 107 (Zp (some ⟨w.heap.size,7,none⟩)) rfl ?_;refine tA 2 109 (Zp (some ⟨g,0,none⟩)) rfl ?_;refine wpAnyH_ready (rs:=[1,3]) (by kernel_rfl) (by simp) ?_;refine AllReadyH.cons (o:=⟨some 108,_,_,_,_,_⟩) rfl (λ K hK=>?_) (AllReadyH.cons (o:=⟨some 110,_,_,_,_,_⟩) rfl (λ K hK=>?_) AllReadyH.nil)
      ·obtain ⟨y0,y1,y2⟩:=HX2.out.rules;go_simp;refine hK.out _ _ trivial (λ hHeld=>?_);clear hK K y0 y1 y2
       try simp only [pU]
       refine aV 3 110 rfl (λ K hK=>?_);go_simp;refine HCE.out.mono ?_;rintro e w4 ⟨cs,rfl,he4,hv4,hg4⟩;obtain ⟨k9,k19,n19,s19,A19,na19,ca19,B19,nb19,cb19,s9,A29,n29,ca29,rfl⟩:=he4.form;have HR4:=aW (And.intro he4 (And.intro hv4 hg4));have HXB:=aW (HX2.out.drew.grown hg4 (by simpa using hxg));clear he4 hv4 hg4;refine hK.out _ _ trivial (λ hHeld=>?_);clear hK K
       try simp only [pU]
       refine aV 4 111 rfl (λ K hK=>?_);go_simp;have HXC:=aW (HXB.out.alloc (.cells #[Zi Zq k9,Zi Zq k19,Zi Zq n19,Zt s19,Zs A19 na19 ca19,Zs B19 nb19 cb19,Zt s9,Zs A29 n29 ca29] 45));refine hK.out _ _ trivial (λ hHeld=>?_);clear hK K
       try simp only [pU]
       refine dv (l':=#[true,true,true,true,true,false,false,false]) (by kernel_rfl) ?_;exact HL _ _ _ _ _ _ _ _ _ _ _ _ _ _ _ HR4.out
      ·go_simp;refine HCE.out.mono ?_;rintro e w4 ⟨cs,rfl,he4,hv4,hg4⟩;obtain ⟨k9,k19,n19,s19,A19,na19,ca19,B19,nb19,cb19,s9,A29,n29,ca29,rfl⟩:=he4.form;have HR4:=aW (And.intro he4 (And.intro hv4 hg4));have HXB:=aW (HX2.out.drew.grown hg4 (by simpa using hxg));clear he4 hv4 hg4;refine hK.out _ _ trivial (λ hHeld=>?_);clear hK K
       try simp only [pU]
       refine wpAnyH_ready (rs:=[1,4]) (by kernel_rfl) (by simp) ?_;refine AllReadyH.cons (o:=⟨some 108,_,_,_,_,_⟩) rfl (λ K hK=>?_) (AllReadyH.cons (o:=⟨some 111,_,_,_,_,_⟩) rfl (λ K hK=>?_) AllReadyH.nil)
       ·obtain ⟨y0,y1,y2⟩:=HXB.out.rules;go_simp;refine hK.out _ _ trivial (λ hHeld=>?_);clear hK K y0 y1 y2
        try simp only [pU]
        refine aV 4 111 rfl (λ K hK=>?_);go_simp;have HXC:=aW (HXB.out.alloc (.cells #[Zi Zq k9,Zi Zq k19,Zi Zq n19,Zt s19,Zs A19 na19 ca19,Zs B19 nb19 cb19,Zt s9,Zs A29 n29 ca29] 45));refine hK.out _ _ trivial (λ hHeld=>?_);clear hK K
        try simp only [pU]
        refine dv (l':=#[true,true,true,true,true,false,false,false]) (by kernel_rfl) ?_;exact HL _ _ _ _ _ _ _ _ _ _ _ _ _ _ _ HR4.out
       ·go_simp;have HXC:=aW (HXB.out.alloc (.cells #[Zi Zq k9,Zi Zq k19,Zi Zq n19,Zt s19,Zs A19 na19 ca19,Zs B19 nb19 cb19,Zt s9,Zs A29 n29 ca29] 45));refine hK.out _ _ trivial (λ hHeld=>?_);clear hK K
        try simp only [pU]
        refine aV 1 108 rfl (λ K hK=>?_);obtain ⟨y0,y1,y2⟩:=HXC.out.rules;go_simp;refine hK.out _ _ trivial (λ hHeld=>?_);clear hK K y0 y1 y2
        try simp only [pU]
        refine dv (l':=#[true,true,true,true,true,false,false,false]) (by kernel_rfl) ?_;exact HL _ _ _ _ _ _ _ _ _ _ _ _ _ _ _ HR4.out
     case hleaf =>
      rintro k9 k19 n19 s19 A19 na19 ca19 B19 nb19 cb19 s9 A29 n29 ca29 Z ⟨he4,hv4,hg4⟩;have hgr0:=ag (aw ((Below.refl wr.heap.size wr).drew) (some g)) hg4;have hrwg:row.ownBlock=none∨row.ownBlock≠some g:=by
       rcases hro:row.ownBlock with _ | j
       ·exact .inl rfl
       ·refine .inr λ e=>?_
        have:=(HO.out.lt j hro).1;injection e with e
        omega
      have HO4:=aW ((HO.out.kept hgr0 hrwg).alloc (.cells #[Zi Zq k9,Zi Zq k19,Zi Zq n19,Zt s19,Zs A19 na19 ca19,Zs B19 nb19 cb19,Zt s9,Zs A29 n29 ca29] 45));have HX4:=aW ((HX2.out.drew.grown hg4 (by simpa using hxg)).alloc (.cells #[Zi Zq k9,Zi Zq k19,Zi Zq n19,Zt s19,Zs A19 na19 ca19,Zs B19 nb19 cb19,Zt s9,Zs A29 n29 ca29] 45));have HR6:=aW (Rd.of_blk (Blk.new Z 45 #[Zi Zq k9,Zi Zq k19,Zi Zq n19,Zt s19,Zs A19 na19 ca19,Zs B19 nb19 cb19,Zt s9,Zs A29 n29 ca29]));have H1C:=aW (show ∀ u ∈ ([Zi Zq k9,Zi Zq k19,Zi Zq n19,Zt s19,Zs A19 na19 ca19,Zs B19 nb19 cb19,Zt s9,Zs A29 n29 ca29]:List Value),u.oneCell'=true from he4.one);have HBS:=aW (show w.heap.size+2<=(Z.alloc (.cells #[Zi Zq k9,Zi Zq k19,Zi Zq n19,Zt s19,Zs A19 na19 ca19,Zs B19 nb19 cb19,Zt s9,Zs A29 n29 ca29] 45)).heap.size by rw [World.size_alloc];have:=hgr0.size;have:=HSW.out;omega);have HLT:=aW (And.intro HO.out.lt hgr0);clear hgr0 hrwg;refine aV 5 112 rfl (λ K hK=>?_);rw [if_pos (by kernel_rfl)];refine j0 _ (.tmp 108) (.tmp 111) 43 rfl (w.heap.size+2) 45 i0 _ 8 128 Tryz.underlying43 HI.out hz0 hz1 hz2 rfl (by decide) row acc.length css.flatten rfl HO4.out (some ⟨Z.heap.size,0,none⟩) 1 1 (λ h=>by cases h) [Zi Zq k9,Zi Zq k19,Zi Zq n19,Zt s19,Zs A19 na19 ca19,Zs B19 nb19 cb19,Zt s9,Zs A29 n29 ca29] rfl rfl HR6.out H1C.out (by unfold maxLen;omega) (by omega) HBS.out ?_;intro row2 w6 hown6 hgr6 hob6;obtain ⟨RA,rc,rfl,hrc,hrn,hrr⟩:=bP hown6;have hrx:some w.heap.size≠row.ownBlock:=λ e=>by have:=(HLT.out.1 _ e.symm).1;omega
      have hrg:some g≠row.ownBlock:=λ e=>by have:=(HLT.out.1 _ e.symm).1;omega
      have HX6:=aW (HX4.out.grown hgr6 hrx);obtain ⟨y0,y1,y2⟩:=HX6.out.rules;refine hK.out _ _ trivial (λ hHeld2=>?_);clear hK K;have hHeld:=hHeld2;clear hHeld2
      try simp only [pU]
      refine tA 6 113 (Zp (some ⟨w.heap.size,7,none⟩)) rfl ?_;refine aU 7 rfl (λ K hK=>?_);go_simp;refine hK.out _ _ trivial (λ hHeld2=>?_);clear hK K hHeld hHeld2
      try simp only [pU]
      refine aX ?_;obtain ⟨W7,hW7⟩:∃ W',w6.setCell ⟨w.heap.size,7,none⟩ (Zs RA (acc.length+1) rc)=W':=⟨_,rfl⟩
      rw [hW7];have hz:Below Z.heap.size Z (Z.alloc (.cells #[Zi Zq k9,Zi Zq k19,Zi Zq n19,Zt s19,Zs A19 na19 ca19,Zs B19 nb19 cb19,Zt s9,Zs A29 n29 ca29] 45)):=(Below.refl _ Z).alloc (Nat.le_refl _) _;have hxr:w.heap.size<Z.heap.size:=Nat.lt_of_lt_of_le (by have:=HSW.out;omega) HLT.out.2.size;have HX7:=aW (show Blk W7 w.heap.size 45 #[Zi Zq 4,Zi Zq 0,Zi Zq 0,Zt ⟨#[]⟩,Zs none 0 0,Zs none 0 0,Zt ⟨#[]⟩,Zs RA (acc.length+1) rc] by rw [← hW7];exact HX6.out.set_ 7 _);have hgA:w.grownBy (Z.alloc (.cells #[Zi Zq k9,Zi Zq k19,Zi Zq n19,Zt s19,Zs A19 na19 ca19,Zs B19 nb19 cb19,Zt s9,Zs A29 n29 ca29] 45)) (some g):=ag (ag HG2.out HLT.out.2) (aw hz _);have hg7:w.grownBy W7 (some g):=by rw [← hW7];exact dn (lj hgA hgr6 λ k e=>by have:=(HLT.out.1 k e).1;omega) ⟨w.heap.size,7,none⟩ _ (Nat.le_refl _)
      have hv7:VP W7 g (some ⟨b,o,none⟩) nT cap T q:=HV.out.step hg7 (by rw [← hW7];exact (((hv4.keep hz).blk.grown hgr6 hrg).far (p:=⟨w.heap.size,7,none⟩) (Ne.symm hxg) _));have hrgX:(Value.slice RA (acc.length+1) rc).ownBlock=none∨(Value.slice RA (acc.length+1) rc).ownBlock≠some w.heap.size:=by
       rcases hro:(Value.slice RA (acc.length+1) rc).ownBlock with _ | j
       ·exact .inl rfl
       ·refine .inr λ e=>?_
        have:=(hown6.lt j hro).1;injection e with e
        omega
      have HO7:=aW (show W7.ownsRow (w.heap.size+2) 45 8 (Zs RA (acc.length+1) rc) (acc++[x]).length (css++[([Zi Zq k9,Zi Zq k19,Zi Zq n19,Zt s19,Zs A19 na19 ca19,Zs B19 nb19 cb19,Zt s9,Zs A29 n29 ca29]:List Value)]).flatten by
       rw [← hW7,List.length_append,List.flatten_append];have h9:=hown6.kept (aH (dw w6 (some w.heap.size)) 7 (Zs RA (acc.length+1) rc)) hrgX;simpa using h9)
      have HE7:=aW (show ERs W7 (FO (λ b=>w.heap.size+2<=b) (Zs RA (acc.length+1) rc)) (css++[([Zi Zq k9,Zi Zq k19,Zi Zq n19,Zt s19,Zs A19 na19 ca19,Zs B19 nb19 cb19,Zt s9,Zs A29 n29 ca29]:List Value)]) (acc++[x]) by
       rw [← hW7];have h1:ERs (Z.alloc (.cells #[Zi Zq k9,Zi Zq k19,Zi Zq n19,Zt s19,Zs A19 na19 ca19,Zs B19 nb19 cb19,Zt s9,Zs A29 n29 ca29] 45)) (FO (λ b=>w.heap.size+2<=b) row) (css++[([Zi Zq k9,Zi Zq k19,Zi Zq n19,Zt s19,Zs A19 na19 ca19,Zs B19 nb19 cb19,Zt s9,Zs A29 n29 ca29]:List Value)]) (acc++[x]):=by
        refine RR.snoc (RR.imp HER.out λ c y hc=>?_) ?_
        ·exact (ER.keep hc (af.of_grown HLT.out.2 λ k hk e=>by injection e with e;have:=hk.1;omega)).bel hz
        ·refine (he4.bel hz).mono λ k _ hk=>⟨Nat.le_trans HSW.out hk,λ e=>?_⟩
         have:=(HLT.out.1 k e.symm).2;exact absurd hk (Nat.not_le.2 this)
       refine RR.imp (nu h1 hgr6 hob6) λ c y hc=>ER.keep hc (af.set af.refl (λ k hk=>by have:=hk.1;omega) 7 _))
      have HG7:=aW hg7;have HV7:=aW hv7;have HS7:=aW (show w.heap.size+2<=W7.heap.size from Nat.le_trans HSW.out (by rw [← hW7];exact Nat.le_trans (Nat.le_trans HLT.out.2.size hz.size) (by simpa [World.setCell] using hgr6.size)));clear hz hxr hgA hg7 hv7 hW7 he4 hv4 hg4 hown6 hgr6 hob6 hrr hrgX HX6 HX4 HO4 y0 y1 y2;by_cases hs:al T q [44]=true
      ·have HR:=aW (show r=eL T (acc++[x]) (q+1) by rw [HRX.out,if_pos hs]);have HTY:=aW (fg [44] W7 g _ nT cap T q HV7.out hq.2 HP.out.2 hs);have hq1:q+1<nT:=by have h9:=hT.next (p:=q) (by rw [HV.out.len];exact hq.2) (ar hs);rw [HV.out.len] at h9;exact h9
       clear hs;go_wp2_with (go_at_call 139;refine HTY.out.mono ?_;rintro e w8 ⟨rfl,hv8,hg8⟩);have hrg8:(Value.slice RA (acc.length+1) rc).ownBlock=none∨(Value.slice RA (acc.length+1) rc).ownBlock≠some g:=by
        rcases hro:(Value.slice RA (acc.length+1) rc).ownBlock with _ | j
        ·exact .inl rfl
        ·refine .inr λ e=>?_
         have:=(HO7.out.lt j hro).1;injection e with e
         omega
       go_roundg (nT-(q+1))
       case measure=>have:=HGK.out;omega
       case rel=>exact ⟨q+1,acc++[x],_,_,by omega,hq1,by simp;omega,rfl,HR,aW hv8,aW (HX7.out.grown hg8 (by simpa using hxg)),aW (HO7.out.kept hg8 hrg8),aW (RR.imp HE7.out λ c y hc=>ER.keep hc (af.of_grown hg8 λ k hk e=>by injection e with e;have:=hk.1;omega)),aW (ag HG7.out hg8),aW (Nat.le_trans HS7.out hg8.size)⟩
      have hs':al T q [44]=false:=by simpa using hs
      have HR5:=aW (show r=if al T q [93]=true then .ok (eOp 4 (acc++[x])) (q+1) else .bad q by rw [HRX.out,if_neg hs]);have HTN:=aW (ff [44] W7 g _ nT cap T q HV7.out hq.2 HP.out.2 hs');clear hs hs';by_cases hs:al T q [93]=true
      ·have HR:=aW (show r=.ok (eOp 4 (acc++[x])) (q+1) by rw [HR5.out,if_pos hs]);have HW:=aW (λ W (h:Below W7.heap.size W7 W)=>gT [93] W g _ nT cap T q (HV7.out.keep h) hq.2 HP.out.2 hs);clear hs;go_wp2_with (first | (go_at_call 172;refine (HW.out _ hb8).mono ?_;rintro e w9 ⟨rfl,hv9,hg9⟩;obtain ⟨y0,y1,y2⟩:=((HX7.out.keep hb8).grown hg9 (by simpa using hxg)).rules) | (go_at_call 139;refine HTN.out.mono ?_;rintro e w8 ⟨rfl,hb8⟩));refine bodyPost_ret (v:=.agg #[Zi Zq 4,Zi Zq 0,Zi Zq 0,Zt ⟨#[]⟩,Zs none 0 0,Zs none 0 0,Zt ⟨#[]⟩,Zs RA (acc.length+1) rc]) (by simp only [results,Tryz.results198];go_simp) rfl ?_;rw [HR.out];have hg10:=ag (aw hb8 (some g)) hg9;refine ci HV.out hv9 (ag HG7.out hg10) (HX7.out.grown hg10 (by simpa using hxg)) _ _ _ _ _ _ _ _ ?_;obtain ⟨RA',rc',e,hrc',hrn',hrr'⟩:=bP HO7.out;injection e with e1 e2 e3
       subst e1 e3;have hk:af (λ b=>w.heap.size+2<=b) W7 ((((((((w9.setCell ⟨w.heap.size,0,none⟩ (Zi Zq 4)).setCell ⟨w.heap.size,1,none⟩ (Zi Zq 0)).setCell ⟨w.heap.size,2,none⟩ (Zi Zq 0)).setCell ⟨w.heap.size,3,none⟩ (Zt ⟨#[]⟩)).setCell ⟨w.heap.size,4,none⟩ (Zs none 0 0)).setCell ⟨w.heap.size,5,none⟩ (Zs none 0 0)).setCell ⟨w.heap.size,6,none⟩ (Zt ⟨#[]⟩)).setCell ⟨w.heap.size,7,none⟩ (Zs RA (acc.length+1) rc)) :=
        ed (λ k hk=>by omega) (af.of_grown hg10 λ k hk e=>by injection e with e;omega) _ _ _ _ _ _ _ _
       exact ER.into (s:=[]) VR.zero (RR.imp HE7.out λ c y hc=>((ER.mono hc λ k _ hk=>hk.1).keep hk).mono λ k _ hk=>by unfold NW;omega) (by simp) (by simpa using hrc') hrn' ((hrr'.keep hk).mono λ k _ hk=>by unfold NW;omega)
      ·have hs':al T q [93]=false:=by simpa using hs
       have HR:=aW (show r=.bad q by rw [HR5.out,if_neg hs]);have hw:=λ W (h:Below W7.heap.size W7 W)=>gS [93] W g _ nT cap T q (HV7.out.keep h) hq.2 HP.out.2 hs'
       unfold aM at hw;have HW:=aW hw;clear hs hs' hw;go_wp2_with (first | (go_at_call 172;refine (HW.out _ hb8).mono ?_;rintro e w9 ⟨rfl,hb9⟩) | (go_at_call 139;refine HTN.out.mono ?_;rintro e w8 ⟨rfl,hb8⟩));rw [HR.out];exact ⟨rfl,rfl,ag (ag HG7.out (aw hb8 (some g))) (aw hb9 _)⟩
  have HR:=aW (show r=.bad p by rw [HCS.out,if_neg k1,if_neg k3,if_neg k4,if_neg (λ h=>k2 h.1),if_neg (λ h=>k2 h.1),if_neg (λ h=>k2 h.1),if_neg (λ h=>hn0 h.2),if_neg (λ h=>hn1 h.2)]);have q0:(t == [40])=false:=by simpa using hn0
  have qs0:((⟨t.toArray⟩:ByteArray).toList == (⟨#[40]⟩:ByteArray).toList)=false:=by rw [show (⟨#[40]⟩:ByteArray)=⟨[40].toArray⟩ from rfl,dV];simpa using hn0
  have q1:(t == [91])=false:=by simpa using hn1
  have qs1:((⟨t.toArray⟩:ByteArray).toList == (⟨#[91]⟩:ByteArray).toList)=false:=by rw [show (⟨#[91]⟩:ByteArray)=⟨[91].toArray⟩ from rfl,dV];simpa using hn1
  clear k1 k2 k3 k4 k5 hn0 hn1;obtain ⟨c0,f0,l0⟩:=HV1.out.blk.rules;have hp9:(p:Int)<=1000:=by have:=HP.out;omega
  have HFA:=aW (λ W1 (h:VP W1 g (some ⟨b,o,none⟩) nT cap T p)=>iT W1 g _ nT cap T p h HP.out.1 HP.out.2);unfold aM at HFA;go_wp2_with (go_at_call 87;refine (HFA.out _ (HV1.out.set0 (by omega))).mono ?_;rintro e w2 ⟨rfl,hb2⟩);have hg9:=HG1.out;rw [HR.out];exact ⟨rfl,rfl,ag (aH hg9 0 _) (aw hb2 _)⟩
 have e5:(k == 5)=false:=by simp [k5]
 have HR:=aW (show r=.bad p by rw [HCS.out,if_neg k1,if_neg k3,if_neg k4,if_neg (λ h=>k2 h.1),if_neg (λ h=>k2 h.1),if_neg (λ h=>k2 h.1),if_neg (λ h=>k5 h.1),if_neg (λ h=>k5 h.1)]);clear k1 k2 k3 k4 k5;obtain ⟨c0,f0,l0⟩:=HV1.out.blk.rules;have hp9:(p:Int)<=1000:=by have:=HP.out;omega
 have HFA:=aW (λ W1 (h:VP W1 g (some ⟨b,o,none⟩) nT cap T p)=>iT W1 g _ nT cap T p h HP.out.1 HP.out.2);unfold aM at HFA;go_wp2_with (go_at_call 87;refine (HFA.out _ (HV1.out.set0 (by omega))).mono ?_;rintro e w2 ⟨rfl,hb2⟩);have hg9:=HG1.out;rw [HR.out];exact ⟨rfl,rfl,ag (aH hg9 0 _) (aw hb2 _)⟩
end
section
theorem yV:(cW [101,109,105,116,32,49,44,32,50]).2=(9,330):=by kernel_rfl
theorem yY:(cW [101,109,105,116,32,97,32,60,32,98,32,60,32,99,44,32,49,59]).2=(11,330):=by kernel_rfl
def ji:List UInt8:=[105,102,32,110,111,116,32,40,97,32,61,61,32,49,41,32,97,110,100,32,40,98,32,111,114,32,99,41,32,123,32,101,109,105,116,32,40,49,41,46,120,44,32,48,59,32,125,32,101,108,115,101,32,123,32,125]
theorem zB:(cW ji).2=(0,0):=by kernel_rfl
theorem xt:mj (cW ji).1=[105,102,32,110,111,116,32,97,61,61,49,32,97,110,100,40,98,32,111,114,32,99,41,123,101,109,105,116,32,49,32,46,120,44,48,59,125]:=by kernel_rfl
theorem yX:lX (cW ji).1=true:=by kernel_rfl
theorem vS:(match (cW ji).1 with | [.mk k _ _ _ body _]=>decide (k=2/\body.length=1) | _=>false)=true:=by kernel_rfl
end
section
open Go.RowKit Go.Shelf
attribute [local go_sem] aa ac ae ab
theorem rH:∀ (N:Nat) (x y:EJ),qu x<=N->∀ (cs cs':List Value) (F F':Nat->Prop) (w:World),ER w F cs x->ER w F' cs' y->cj x->cj y->Calls Tryz.prog 49 #[.agg cs.toArray,.agg cs'.toArray] w (EqX (x=y) w)
 | 0,x,_,h,_,_,_,_,_,_,_,_,_=>by have:=vJ x;omega
 |N+1,.mk k v s kids,.mk kq vq sq kidsq,hN,cs,cs',F,F',w,hx,hy,hC,hC'=>by
  have ih:=rH N;unfold qu at hN;unfold cj at hC hC';obtain ⟨_,hcv,hsl,hkl,hck⟩:=hC;obtain ⟨_,hcv',hsl',hkl',hck'⟩:=hC';have hck:=bU.1 hck;have hck':=bU.1 hck';obtain ⟨k1,n1,s1,A1,na1,ca1,B1,nb1,cb1,A,ca,css,rfl,hv,h1,h2,h3,h4⟩:=hx.out;obtain ⟨k2,n2,s2,A2,na2,ca2,B2,nb2,cb2,A',ca',css',rfl,hv',h1',h2',h3',h4'⟩:=hy.out;have HIH:=aW (λ (i:Nat) (x:EJ) (hx:kids[i]? = some x)=>fq h1 h4 hx);have HIH':=aW (λ (i:Nat) (x:EJ) (hx:kidsq[i]? = some x)=>fq h1' h4' hx);have HEQ:=aW (λ (x y:EJ) (c c':List Value) (W2:World) (hx:x ∈ kids) (hy:y ∈ kidsq) (hc:ER W2 F c x) (hc':ER W2 F' c' y)=>show Calls Tryz.prog 49 #[.agg c.toArray,.agg c'.toArray] W2 (EqX (x=y) W2) from
   ih x y (by have:=og hx;omega) c c' F F' W2 hc hc' (hck x hx) (hck' y hy))
  have HSV:=aW (λ W (h:Below w.heap.size w W)=>sE _ v vq (Nat.le_refl _) _ _ F F' W (hv.bel h) (hv'.bel h) hcv hcv');obtain ⟨nk,hnk⟩:∃ nk,kids.length=nk:=⟨_,rfl⟩
  obtain ⟨nkq,hnkq⟩:∃ nkq,kidsq.length=nkq:=⟨_,rfl⟩
  rw [hnk] at hkl h2;rw [hnkq] at hkl' h2';rw [hnk,hnkq];have HNK:=aW (And.intro hnk hnkq);have HT0:=aW (iW.new w 45 #[Zi Zq k,Zi Zq k1,Zi Zq n1,Zt s1,Zs A1 na1 ca1,Zs B1 nb1 cb1,Zt ⟨s.toArray⟩,Zs A nk ca] #[Zi Zq kq,Zi Zq k2,Zi Zq n2,Zt s2,Zs A2 na2 ca2,Zs B2 nb2 cb2,Zt ⟨sq.toArray⟩,Zs A' nkq ca']);have y1:w.heap.size≠w.heap.size+1:=by omega
  have y2:w.heap.size+1≠w.heap.size:=by omega
  clear hx hy hv hv' hck hck' hcv hcv' h1 h1' h3 h3' h4 h4' hnk hnkq ih hN;obtain ⟨PP,hPP⟩:∃ PP:Prop,(EJ.mk k v s kids=EJ.mk kq vq sq kidsq)=PP:=⟨_,rfl⟩
  rw [hPP];have HPN:=aW (show (k≠kq∨s≠sq∨v≠vq∨kids≠kidsq)->¬ PP by
   rw [← hPP];intro h e;injection e with e1 e2 e3 e4
   rcases h with h | h | h | h
   ·exact h e1
   ·exact h e3
   ·exact h e2
   ·exact h e4)
  have HPY:=aW (show k=kq->s=sq->v=vq->kids=kidsq->PP by rw [← hPP];rintro rfl rfl rfl rfl;rfl);clear hPP;obtain ⟨c1,f1,l1⟩:=HT0.out.1.rules;obtain ⟨c2,f2,l2⟩:=HT0.out.2.1.rules;by_cases ek:k=kq
  case neg =>
   have HNO:=aW (HPN.out (.inl ek));have hb1:(k != kq)=true:=by simp [ek]
   go_enter Tryz.func49,Tryz.ntmps49;go_wp2;go_ret;exact EqX.no HNO.out HT0.out.2.2
  by_cases es:s=sq
  case neg =>
   have HNO:=aW (HPN.out (.inr (.inl es)));have hb1:(s != sq)=true:=by simp [es]
   subst ek;go_enter Tryz.func49,Tryz.ntmps49;go_wp2;go_ret;exact EqX.no HNO.out HT0.out.2.2
  by_cases elk:nk=nkq
  case neg =>
   have HNO:=aW (HPN.out (.inr (.inr (.inr λ e=>elk (by rw [← HNK.out.1,← HNK.out.2,e])))));have hb1:((nk:Int) != nkq)=true:=by simp;omega
   subst ek es;go_enter Tryz.func49,Tryz.ntmps49;go_wp2;go_ret;exact EqX.no HNO.out HT0.out.2.2
  subst ek es elk;go_enter Tryz.func49,Tryz.ntmps49;go_wp2_with fail;refine (HSV.out _ HT0.out.2.2).mono ?_;rintro e w1 ⟨t1,rfl,ht1,hb1⟩;have HT1:=aW (HT0.out.keep hb1);have HE1:=aW ht1;clear hb1 ht1 c1 f1 l1 c2 f2 l2 HT0;cases t1 with
  |false =>
   have HNO:=aW (HPN.out (.inr (.inr (.inl λ e=>by have:=HE1.out.2 e;cases this))));go_wp2;go_ret;exact EqX.no HNO.out HT1.out.2.2
  |true =>
   go_wp2;go_loopg [5] nk (λ gk s5 wr => ∃ i:Nat,i<=nk/\gk=nk-i/\s5=Zi Zq (i:Int)/\Hid (kids.take i=kidsq.take i)/\Hid (iW w 45 #[Zi Zq k,Zi Zq k1,Zi Zq n1,Zt s1,Zs A1 na1 ca1,Zs B1 nb1 cb1,Zt ⟨s.toArray⟩,Zs A nk ca] #[Zi Zq k,Zi Zq k2,Zi Zq n2,Zt s2,Zs A2 na2 ca2,Zs B2 nb2 cb2,Zt ⟨s.toArray⟩,Zs A' nk ca'] wr))
   case atStart=>exact ⟨0,Nat.zero_le _,rfl,by go_num,aW rfl,HT1⟩
   case round =>
    obtain ⟨i,hi,hgk,rfl,HSM,HT⟩:=hrel;have HGK:=aW hgk;clear hgk HT1;obtain ⟨c1,f1,l1⟩:=HT.out.1.rules;obtain ⟨c2,f2,l2⟩:=HT.out.2.1.rules;have HB0:=aW HT.out.2.2;by_cases hlt:i<nk
    ·obtain ⟨x,hx⟩:∃ x,kids[i]? = some x:=⟨_,List.getElem?_eq_getElem (by rw [HNK.out.1];exact hlt)⟩
     obtain ⟨y,hy⟩:∃ y,kidsq[i]? = some y:=⟨_,List.getElem?_eq_getElem (by rw [HNK.out.2];exact hlt)⟩
     obtain ⟨b,o,kx,k1x,n1x,s1x,A1x,na1x,ca1x,B1x,nb1x,cb1x,sx,A2x,n2x,ca2x,rfl,hb,hvx,hz⟩:=HIH.out i x hx;obtain ⟨b',o',ky,k1y,n1y,s1y,A1y,na1y,ca1y,B1y,nb1y,cb1y,sy,A2y,n2y,ca2y,rfl,hb',hvx',hz'⟩:=HIH'.out i y hy;have HCL:=aW (λ (W:World) (h:Below wr.heap.size wr W)=>have hh:=HB0.out.trans (h.mono HB0.out.size);HEQ.out x y _ _ W (List.mem_of_getElem? hx) (List.mem_of_getElem? hy) (hvx.bel hh) (hvx'.bel hh));have HXY:=aW (show x=y->kids.take (i+1)=kidsq.take (i+1) from λ e=>by rw [List.take_add_one,List.take_add_one,HSM.out,hx,hy,e]);have HXN:=aW (show x≠y->kids≠kidsq from λ e h=>e (by rw [h,hy] at hx;exact (Option.some.inj hx).symm));clear hvx hvx' hx hy hb hb';go_upto_region 6 with fail;clear c1 f1 l1 c2 f2 l2;refine wp_region_held_drew (S:=λ W'=>Below wr.heap.size wr W') (by kernel_rfl) (by exact (Below.refl _ _).drew) (λ hHeld=>?_);refine ai (λ w2 hw2=>?_);have HW2:=aW (show Below wr.heap.size wr w2 by rw [hw2];exact (Below.refl _ _).drew);clear hw2;refine tA 0 42 (Zp (some ⟨w.heap.size,7,none⟩)) rfl ?_;refine aY 1 43 (Zs (some ⟨b,o,none⟩) nk ca) rfl ?_ ?_
     ·intro W hSw;obtain ⟨c8,f8,l8⟩:=(HT.out.keep hSw).1.rules;go_simp
     refine tA 2 44 (Zi Zq (i:Int)) rfl ?_;refine tA 3 45 (Zp (some ⟨b,o+i*8,none⟩)) rfl ?_;refine aY 4 46 (.agg #[Zi Zq kx,Zi Zq k1x,Zi Zq n1x,Zt s1x,Zs A1x na1x ca1x,Zs B1x nb1x cb1x,Zt sx,Zs A2x n2x ca2x]) rfl ?_ ?_
     ·intro W hSw;obtain ⟨z0,z1,z2,z3,z4,z5,z6,z7⟩:=hz W (HB0.out.trans (hSw.mono HB0.out.size));go_simp
     refine tA 5 47 (Zp (some ⟨w.heap.size+1,7,none⟩)) rfl ?_;refine aY 6 48 (Zs (some ⟨b',o',none⟩) nk ca') rfl ?_ ?_
     ·intro W hSw;obtain ⟨c8,f8,l8⟩:=(HT.out.keep hSw).2.1.rules;go_simp
     refine tA 7 49 (Zi Zq (i:Int)) rfl ?_;refine tA 8 50 (Zp (some ⟨b',o'+i*8,none⟩)) rfl ?_;refine aY 9 51 (.agg #[Zi Zq ky,Zi Zq k1y,Zi Zq n1y,Zt s1y,Zs A1y na1y ca1y,Zs B1y nb1y cb1y,Zt sy,Zs A2y n2y ca2y]) rfl ?_ ?_
     ·intro W hSw;obtain ⟨z0,z1,z2,z3,z4,z5,z6,z7⟩:=hz' W (HB0.out.trans (hSw.mono HB0.out.size));go_simp
     refine aV 10 52 rfl (λ K hK=>?_);go_simp;refine (HCL.out _ HW2.out).mono ?_;rintro e w3 ⟨tt,rfl,htt,hb3⟩;have HW3:=aW (HW2.out.trans (hb3.mono HW2.out.size));have HTT:=aW htt;clear hb3 htt;refine hK.out _ _ (by exact HW3.out) (λ hHeld=>?_);clear hK K
     try simp only [pU]
     refine tA 11 53 (.bool (!tt)) rfl ?_;refine aX ?_;have HT2:=aW (HT.out.keep HW3.out);cases tt with
     |true =>
      have HK:=aW (HXY.out (HTT.out.1 (by trivial)));go_wp2;go_roundg (nk-(i+1))
      case measure=>have:=HGK.out;omega
      case rel=>exact ⟨i+1,hlt,rfl,by go_num,HK,HT2⟩
     |false =>
      have HNO:=aW (HPN.out (.inr (.inr (.inr (HXN.out λ e=>by have:=HTT.out.2 e;cases this)))));go_wp2;go_ret;exact EqX.no HNO.out HT2.out.2.2
    ·obtain rfl:nk=i:=by omega
     have HKK:=aW (show kids=kidsq by
      have e1:=HSM.out;rwa [List.take_of_length_le (Nat.le_of_eq HNK.out.1),List.take_of_length_le (Nat.le_of_eq HNK.out.2)] at e1)
     go_wp2;go_ret;exact EqX.yes (HPY.out (by trivial) (by trivial) (HE1.out.1 (by trivial)) HKK.out) HT.out.2.2
end
end Go.Proofs.YtgmnmnnoahdjnaaGreatDoor
