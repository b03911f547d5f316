import Derived.Test.YtgolomgmnanbpaaGreatDoorV18
import Derived.Shelf.Spec.SearchS
import Derived.Shelf.SlGeneric
import Derived.Test.YtgolomgmnanbpaaGreatDoorV17
open Go.Value renaming int → Zi, slice → Zs, string → Zt, pointer → Zp
open Go.IntKind renaming i64 → Zq
set_option maxRecDepth 100000
set_option maxHeartbeats 16000000
set_option linter.unusedVariables false
set_option linter.unusedSimpArgs false
namespace Go.Proofs.YtgolomgmnanbpaaGreatDoor
section
open Go.RowKit
attribute [local go_sem] aa ac ae ab
def qU (F:Nat->Prop) (xs:List JV) (w:World) (e:Ending) (w':World):Prop:=∃ cs:Array Value,e=.returned (.tuple #[.agg cs,Zi Zq (if good (.mk 5 0 [] xs [])=true then 0 else 140)]) /\
 (good (.mk 5 0 [] xs [])=true->VR w' (FN F w) cs.toList (.mk 5 0 [] xs []))/\(¬ good (.mk 5 0 [] xs [])=true->cs=cW)/\Below w.heap.size w w'
theorem vO (css:List (List Value)) (xs:List JV) (F:Nat->Prop) (A:Option Addr) (n cap:Nat) (w:World) (hG:GOK w) (h1:VRs w F css xs) (hn:xs.length=n) (hr:RdF w F A css.flatten) (hl:n<=4194304) (hc:au (.mk 5 0 [] xs [])) :
  Calls Tryz.prog 123 #[Zs A n cap] w (qU F xs w):=by
 have HB0:=aW ((Below.refl w.heap.size w).alloc (Nat.le_refl _) (.cells cW 25));have HCL:=aW (lY css xs F A n cap _ (h1.below HB0.out) hn (hr.keep (af.of_below HB0.out)) hl);have HV0:=aW (h1.mono (F':=λ b=>(F b/\b<w.heap.size)∨w.heap.size<b) λ b hb hF=>.inl ⟨hF,hb⟩);have HG:=aW hG;have HN:=aW hn;have HC:=aW hc;have HH0:=aW ((aj.nil w).push 25 cW (g:=w.heap.size) rfl);clear h1 hn hr hl hc hG;have HNE:=aW (λ (b:Nat) (h:(F b/\b<w.heap.size)∨w.heap.size<b)=>show b≠w.heap.size by omega);have HTO:=aW (λ (b:Nat) (h:(F b/\b<w.heap.size)∨w.heap.size<b)=>show FN F w b from h.elim (λ h=>.inl h.1) (λ h=>.inr (by omega)));unfold cW at HB0 HCL HH0;go_enter Tryz.func123,Tryz.ntmps123;go_wp2_with fail;refine HCL.out.mono ?_;rintro e w1 ⟨v1,rfl,hown,hb1⟩;obtain ⟨A1,c1,rfl,hc1,hA1,hr1⟩:=aP hown;have HH1:=aW (HH0.out.keep hb1);have HVL:=aW (th (F:=λ b=>(F b/\b<w.heap.size)∨w.heap.size<b) ((HV0.out).below HH1.out.1) HN.out hc1 hA1 (hr1.mono λ b _ hb=>by simp at hb;exact .inr (by omega)));clear hb1 hown hc1 hA1 hr1 HH0 HCL HB0;go_wp2_with fail;refine (jL (.mk 5 0 [] xs []) [Zi Zq 5,Zi Zq 0,Zt ⟨#[]⟩,Zs A1 n c1,Zs none 0 0] _ w1 (HG.out.keep HH1.out.1) HVL.out HC.out).mono ?_;rintro e w2 ⟨rfl,hb2⟩;have HH2:=aW (HH1.out.keep hb2);have HVL2:=aW (HVL.out.bel hb2);clear hb2 HH1 HVL;obtain ⟨c3,f3,l3⟩:=HH2.out.b0.rules;by_cases hg:good (.mk 5 0 [] xs [])=true
 ·unfold qU;rw [if_pos hg,if_pos hg];go_wp2;have hb5:=ah HH2.out.1 (g:=w.heap.size) (Nat.le_refl _) (Zi Zq 5) (Zi Zq 0) (Zt ⟨#[]⟩) (Zs A1 n c1) (Zs none 0 0);refine bodyPost_ret (v:=.tuple #[.agg #[Zi Zq 5,Zi Zq 0,Zt ⟨#[]⟩,Zs A1 n c1,Zs none 0 0],Zi Zq 0]) (by simp only [results,Tryz.results123];go_simp) rfl ?_;exact ⟨_,by rw [if_pos hg],λ _=>(HVL2.out.keep (((((af.refl.set HNE.out 0 _).set HNE.out 1 _).set HNE.out 2 _).set HNE.out 3 _).set HNE.out 4 _)).mono (λ b _ hb=>HTO.out b hb),λ h=>absurd hg h,hb5⟩
 ·unfold qU;rw [if_neg hg,if_neg hg];unfold cW;go_wp2;refine bodyPost_ret (v:=.tuple #[.agg #[Zi Zq 0,Zi Zq 0,Zt ⟨#[]⟩,Zs none 0 0,Zs none 0 0],Zi Zq 140]) (by simp only [results,Tryz.results123];go_simp) rfl ?_;exact ⟨cW,by rw [if_neg hg];rfl,λ h=>absurd h hg,λ _=>rfl,ah HH2.out.1 (Nat.le_refl _) _ _ _ _ _⟩
end
end Go.Proofs.YtgolomgmnanbpaaGreatDoor
namespace Go.Proofs
open Go.Shelf
shelf_lay Lays2.n26 Nm2 26 at Tryz as Tryz.bsS
end Go.Proofs
namespace Go.Proofs.YtgolomgmnanbpaaGreatDoor
open Go.RowKit
attribute [local go_sem] aa ac ae ab
theorem p8:∀ (keys:List (List UInt8)) (x:List UInt8),UpB keys->∃ k,k<=keys.length/\(∀ t,t<k->ltB (keys.getD t x) x=true)/\(∀ t,k<=t->ltB (keys.getD t x) x=false)
 | [],x,_=>⟨0,Nat.le_refl _,λ t h=>by omega,λ t _=>by simpa using cw x⟩
 |a::r,x,h=>by
  have h2:=List.pairwise_cons.1 h;by_cases ha:ltB a x=true
  ·obtain ⟨k,h3,h4,h5⟩:=p8 r x h2.2;refine ⟨k+1,by simp;omega,λ t ht=>?_,λ t ht=>?_⟩
   ·cases t with
    | zero=>simpa using ha
    | succ t=>simpa using h4 t (by omega)
   ·cases t with
    | zero=>omega
    | succ t=>simpa using h5 t (by omega)
  ·refine ⟨0,by simp,λ t ht=>by omega,λ t _=>?_⟩;cases t with
   | zero=>simpa using ha
   |succ t =>
    rw [List.getD_cons_succ];rcases Nat.lt_or_ge t r.length with hlt | hge
    ·rw [List.getD_eq_getElem?_getD,List.getElem?_eq_getElem hlt,Option.getD_some];cases hq:ltB r[t] x with
     | false=>rfl
     | true=>exact absurd (dv (h2.1 _ (List.getElem_mem hlt)) hq) ha
    ·rw [List.getD_eq_getElem?_getD,List.getElem?_eq_none hge];simpa using cw x
def bsI (keys:List (List UInt8)) (x:List UInt8):Nat:=Go.Lib.bsGo (λ t=>ltB (keys.getD t x) x) keys.length 0 keys.length
theorem ut {keys:List (List UInt8)} {x:List UInt8} (h:UpB keys):keys.idxOf? x=if bsI keys x<keys.length/\keys.getD (bsI keys x) x=x then some (bsI keys x) else none:=by
 obtain ⟨k,hk,h1,h2⟩:=p8 keys x h;have e:bsI keys x=k:=Go.Lib.bsGo_spec _ k h1 h2 _ 0 _ (by omega) (Nat.zero_le _) hk;rw [e];have hat:∀ j (hj:j<keys.length),keys.getD j x=keys[j]:=λ j hj=>by rw [List.getD_eq_getElem?_getD,List.getElem?_eq_getElem hj,Option.getD_some]
 split
 ·rename_i hc
  refine List.idxOf?_eq_some_iff.2 ⟨hc.1,by rw [← hat k hc.1];exact hc.2,λ j hj he=>?_⟩;have:=h1 j hj;rw [hat j (by omega),he] at this;exact cw x this
 ·rename_i hc
  refine List.idxOf?_eq_none_iff.2 λ hm=>?_
  obtain ⟨j,hj,he⟩:=List.getElem_of_mem hm;rcases Nat.lt_trichotomy j k with hlt | rfl | hgt
  ·have:=h1 j hlt;rw [hat j hj,he] at this;exact cw x this
  ·exact hc ⟨hj,by rw [hat j hj,he]⟩
  ·have h3:=List.pairwise_iff_getElem.1 h k j (by omega) hj hgt;have h4:=h2 k (Nat.le_refl _);rw [hat k (by omega)] at h4;rw [he,h4] at h3;cases h3
theorem tG (keys:List (List UInt8)) (x:List UInt8) (F:Nat->Prop) (B:Option Addr) (n cb:Nat) (w:World) (hn:keys.length=n) (hr:RdF w F B (cQ keys)) (hl:n<=4194304) :
  Calls Tryz.prog 188 #[Zs B n cb,Zt ⟨x.toArray⟩] w λ e w'=>e=.returned (.tuple #[Zi Zq (bsI keys x:Nat),.bool (decide (bsI keys x<n/\keys.getD (bsI keys x) x=x))])/\Below w.heap.size w w':=by
 by_cases hne:keys=[]
 ·subst hne;obtain rfl:0=n:=hn;refine (Any2.slices_BinarySearch_string_empty Tryz.bsS B cb ⟨x.toArray⟩ w).mono ?_;rintro e w' ⟨rfl,rfl⟩;exact ⟨by simp [bsI,Go.Lib.bsGo],Below.refl _ _⟩
 ·obtain ⟨b,o,rfl,hb,_,hx⟩:=hr (by simpa [cQ] using hne);refine (Any2.slices_BinarySearch_string Tryz.bsS b o n cb (λ t=>⟨(keys.getD t x).toArray⟩) ⟨x.toArray⟩ w (by omega) (λ j hj=>?_)).mono ?_
  ·have hj':j<keys.length:=by omega
   rw [hx j (by rw [cP];exact hj')];simp [cQ,List.getD_eq_getElem?_getD,List.getElem?_eq_getElem hj']
  ·rintro e w' ⟨rfl,q,rfl⟩;have e1:(Go.Lib.bsGo (λ t=>Op.bytesLess (ByteArray.mk (keys.getD t x).toArray).toList (ByteArray.mk x.toArray).toList) n 0 n)=bsI keys x:=by
    unfold bsI ltB;rw [hn];simp only [Go.Lib.toList_data,List.toList_toArray]
   rw [e1];have e2:decide (bsI keys x<n/\(⟨(keys.getD (bsI keys x) x).toArray⟩:ByteArray)=⟨x.toArray⟩)=decide (bsI keys x<n/\keys.getD (bsI keys x) x=x):=by
    refine decide_eq_decide.2 ⟨λ h=>⟨h.1,?_⟩,λ h=>⟨h.1,by rw [h.2]⟩⟩;have:=h.2;injection this with this
    exact List.toArray_inj this
   exact ⟨by rw [e2],av (Below.refl _ _) q⟩
def plI (keys:List (List UInt8)) (x:List UInt8):Int:=match keys.idxOf? x with | some i=>(i:Int) | none => -1
theorem uR (keys:List (List UInt8)) (x:List UInt8) (F:Nat->Prop) (B:Option Addr) (n cb:Nat) (w:World) (hn:keys.length=n) (hr:RdF w F B (cQ keys)) (hl:n<=4194304) (hu:UpB keys) :
  Calls Tryz.prog 166 #[Zs B n cb,Zt ⟨x.toArray⟩] w λ e w'=>e=.returned (Zi Zq (plI keys x))/\Below w.heap.size w w':=by
 have HB:=aW (tG keys x F B n cb w hn hr hl);have hq:plI keys x=if bsI keys x<n/\keys.getD (bsI keys x) x=x then (bsI keys x:Int) else -1:=by
  unfold plI;rw [ut hu,hn];by_cases hc:bsI keys x<n/\keys.getD (bsI keys x) x=x
  ·rw [if_pos hc,if_pos hc]
  ·rw [if_neg hc,if_neg hc]
 obtain ⟨p,hp⟩:∃ p,plI keys x=p:=⟨_,rfl⟩
 obtain ⟨j,hj⟩:∃ j,bsI keys x=j:=⟨_,rfl⟩
 rw [hp] at hq ⊢;rw [hj] at hq HB;clear hn hr hl hu hp hj;by_cases hc:j<n/\keys.getD j x=x
 ·rw [decide_eq_true hc] at HB;rw [if_pos hc] at hq;have HQ:=aW hq;clear hc hq;go_enter Tryz.func166,Tryz.ntmps166;go_wp2_with fail;refine HB.out.mono ?_;rintro e w1 ⟨rfl,hb1⟩;have HB1:=aW hb1;clear hb1;go_wp2;go_ret;exact ⟨by rw [HQ.out];rfl,HB1.out⟩
 ·rw [decide_eq_false hc] at HB;rw [if_neg hc] at hq;have HQ:=aW hq;clear hc hq;go_enter Tryz.func166,Tryz.ntmps166;go_wp2_with fail;refine HB.out.mono ?_;rintro e w1 ⟨rfl,hb1⟩;have HB1:=aW hb1;clear hb1;go_wp2;go_ret;exact ⟨by rw [HQ.out];rfl,HB1.out⟩
end Go.Proofs.YtgolomgmnanbpaaGreatDoor
namespace Go.Proofs.YtgolomgmnanbpaaGreatDoor
section
open Go.RowKit
attribute [local go_sem] aa ac ae ab
def jK (o:Option JV) (F:Nat->Prop) (w:World) (e:Ending) (w':World):Prop:=∃ (cs:List Value) (u:JV) (b:Bool),e=.returned (.tuple #[.agg cs.toArray,.bool b])/\VR w' F cs u/\au u/\o=(if b=true then some u else none)/\(b=true->good u=true)/\Below w.heap.size w w'
theorem jK.none_ {o:Option JV} {F:Nat->Prop} {w w':World} (ho:o=none) (hb:Below w.heap.size w w') :
  jK o F w (.returned (.tuple #[.agg #[Zi Zq 0,Zi Zq 0,Zt ⟨#[]⟩,Zs none 0 0,Zs none 0 0],.bool false])) w' :=
 ⟨_,eP,false,rfl,VR.zero,aw (by unfold iw;omega) (by unfold iw;omega) (by simp),by rw [ho];rfl,(λ h=>by cases h),hb⟩
theorem xR {k n:Int} {s:List UInt8} {kids:List JV} {keys:List (List UInt8)} {cs:List Value} {F:Nat->Prop} (i:Int) (w:World) (hG:GOK w) (hv:VR w F cs (.mk k n s kids keys)) (hc:au (.mk k n s kids keys)) (hg:good (.mk k n s kids keys)=true) :
  Calls Tryz.prog 165 #[.agg cs.toArray,Zi Zq 6,Zi Zq i] w (jK (if k=6/\0<=i then kids[i.toNat]? else none) F w):=by
 have HR:=aW (λ (W:World) (h:Below w.heap.size w W)=>pQ _ cs F W (hG.keep h) (hv.bel h) hc);rw [hg] at HR;obtain ⟨A,B,ca,cb,css,rfl,hvs,h1,h2,h3,h4,h5,h6⟩:=hv.out;have HGD:=aW (λ (u:JV) (hu:u ∈ kids)=>And.intro (eN (v:=.mk k n s kids keys) hg hu) (hc.out.2.2.2.2.2.2 u hu));have hnk:kids.length<=4194304:=hc.out.2.2.2.1;have HKC:=aW (λ (j:Nat) (x:JV) (hx:kids[j]? = some x)=>aS (hvs.mono (F':=λ b=>F b/\b<w.heap.size) λ b hb hF=>⟨hF,hb⟩) (h5.mono (F':=λ b=>F b/\b<w.heap.size) λ b hb hF=>⟨hF,hb⟩) hx);obtain ⟨nk,hnk2⟩:∃ q,kids.length=q:=⟨_,rfl⟩
 obtain ⟨ny,hny⟩:∃ q,keys.length=q:=⟨_,rfl⟩
 rw [hnk2] at hnk h1;rw [hnk2,hny] at HR ⊢;rw [hny] at h2;have HNK:=aW hnk2;have HH0:=aW (((aj.nil w).push 25 #[Zi Zq k,Zi Zq n,Zt ⟨s.toArray⟩,Zs A nk ca,Zs B ny cb] (g:=w.heap.size) rfl).push 25 #[Zi Zq 0,Zi Zq 0,Zt ⟨#[]⟩,Zs none 0 0,Zs none 0 0] (g:=w.heap.size+1) (by simp));clear hG hv hc hg hvs h3 h4 h5 h6 hnk2 hny;obtain ⟨c0,f0,l0⟩:=HH0.out.b1.rules;obtain ⟨c1,f1,l1⟩:=HH0.out.b0.rules;obtain ⟨op,hop⟩:∃ p,(if k=6/\0<=i then kids[i.toNat]? else none)=p:=⟨_,rfl⟩
 have HOP:=aW hop;rw [hop];clear hop;by_cases h6:k=6
 ·subst h6;by_cases hi:i<0
  ·have HI:=aW hi;go_enter Tryz.func165,Tryz.ntmps165;go_wp2;refine bodyPost_ret (v:=.tuple #[.agg #[Zi Zq 0,Zi Zq 0,Zt ⟨#[]⟩,Zs none 0 0,Zs none 0 0],.bool false]) (by simp only [results,Tryz.results165];go_simp) rfl ?_;exact jK.none_ (by rw [← HOP.out,if_neg (by have:=HI.out;omega)]) HH0.out.1
  ·obtain ⟨j,rfl⟩:∃ j:Nat,(j:Int)=i:=⟨i.toNat,by omega⟩
   by_cases hj:j<nk
   ·obtain ⟨x,hx⟩:∃ x,kids[j]? = some x:=⟨_,List.getElem?_eq_getElem (by rw [HNK.out];exact hj)⟩
    obtain ⟨b,o,kx,nx,sx,Ax,nax,cax,Bx,nbx,cbx,rfl,hb,hVR,hz⟩:=HKC.out j x hx;have HX:=aW (HGD.out x (List.mem_of_getElem? hx));have HOX:=aW (show op=some x by rw [← HOP.out,if_pos (by first | exact ⟨rfl,by omega⟩ | exact ⟨trivial,by omega⟩),show ((j:Int)).toNat=j by omega,hx]);have HVR:=aW hVR;have HZ:=aW hz;have HLB:=aW hb;clear hVR hz hx hi hb HOP HGD HKC;go_enter Tryz.func165,Tryz.ntmps165;go_wp2_with fail;refine (HR.out _ HH0.out.1).mono ?_;rintro e w1 ⟨rfl,hb1⟩;have HH1:=aW (HH0.out.keep hb1);clear hb1 c0 f0 l0 c1 f1 l1;obtain ⟨c0,f0,l0⟩:=HH1.out.b1.rules;obtain ⟨c1,f1,l1⟩:=HH1.out.b0.rules;obtain ⟨z0,z1,z2,z3,z4⟩:=HZ.out _ HH1.out.1;have lb:b<w1.heap.size:=by have:=HLB.out;have:=HH1.out.1.size;omega
    go_wp2;refine bodyPost_ret (v:=.tuple #[.agg #[Zi Zq kx,Zi Zq nx,Zt sx,Zs Ax nax cax,Zs Bx nbx cbx],.bool true]) (by simp only [results,Tryz.results165];go_simp) rfl ?_;have hne:∀ b,(F b/\b<w.heap.size)->b≠w.heap.size+1:=λ b hb=>by have:=hb.2;omega
    exact ⟨_,x,true,rfl,((HVR.out.bel HH1.out.1).keep (((((af.refl.set hne 0 _).set hne 1 _).set hne 2 _).set hne 3 _).set hne 4 _)).mono (λ b _ hb=>hb.1),HX.out.2,HOX.out,λ _=>HX.out.1,ah HH1.out.1 (by omega) _ _ _ _ _⟩
   ·have HJ:=aW hj;go_enter Tryz.func165,Tryz.ntmps165;go_wp2;refine bodyPost_ret (v:=.tuple #[.agg #[Zi Zq 0,Zi Zq 0,Zt ⟨#[]⟩,Zs none 0 0,Zs none 0 0],.bool false]) (by simp only [results,Tryz.results165];go_simp) rfl ?_;exact jK.none_ (by rw [← HOP.out,if_pos (by first | exact ⟨rfl,by omega⟩ | exact ⟨trivial,by omega⟩),List.getElem?_eq_none (by rw [HNK.out];have:=HJ.out;omega)]) HH0.out.1
 ·have e1:(k == 6)=false:=by simp [h6]
  have e2:(k != 6)=true:=by simp [h6]
  have H6:=aW h6;clear h6;go_enter Tryz.func165,Tryz.ntmps165;go_wp2;refine bodyPost_ret (v:=.tuple #[.agg #[Zi Zq 0,Zi Zq 0,Zt ⟨#[]⟩,Zs none 0 0,Zs none 0 0],.bool false]) (by simp only [results,Tryz.results165];go_simp) rfl ?_;exact jK.none_ (by rw [← HOP.out,if_neg (λ h=>H6.out h.1)]) HH0.out.1
theorem yi {v:JV} {cs:List Value} {F:Nat->Prop} (t:List UInt8) (w:World) (hG:GOK w) (hv:VR w F cs v) (hc:au v) (hg:good v=true) :
  Calls Tryz.prog 122 #[.agg cs.toArray,Zt ⟨t.toArray⟩] w (jK (gv v t) F w):=by
 obtain ⟨k,n,s,kids,keys⟩:=v;have HK:=aW (λ (W:World) (i:Int) (h:Below w.heap.size w W)=>xR i W (hG.keep h) ((hv.mono (F':=λ b=>F b/\b<w.heap.size) λ b hb hF=>⟨hF,hb⟩).bel h) hc hg);have hup:UpB keys:=by
  have h1:=(aK (dH hg).1).1;by_cases h6:k=6
  ·subst h6;exact (eh.1 (dx h1).2.2.2).2
  ·have:=aH h1;have hky:keys=[]:=by
    by_cases h5:k=5
    ·subst h5;exact (eT h1).2.2
    ·exact (dz h1 (by omega)).2
   rw [hky];exact List.Pairwise.nil
 have hgj:gv (.mk k n s kids keys) t=(if k=6/\0<=plI keys t then kids[(plI keys t).toNat]? else none):=by
  unfold gv plI;show (if k=6 then _ else none)=_
  by_cases h6:k=6
  ·rw [if_pos h6];show (match keys.idxOf? t with | some i=>kids[i]? | none=>none)=_
   cases keys.idxOf? t with
   | none=>simp
   | some i=>simp [h6]
  ·rw [if_neg h6,if_neg (λ h=>h6 h.1)]
 rw [hgj];obtain ⟨A,B,ca,cb,css,rfl,hvs,h1,h2,h3,h4,h5,h6⟩:=hv.out;obtain ⟨ny,hny⟩:∃ q,keys.length=q:=⟨_,rfl⟩
 obtain ⟨nk,hnk⟩:∃ q,kids.length=q:=⟨_,rfl⟩
 have hcy:ny<=4194304:=by rw [← hny];exact hc.out.2.2.2.2.1
 have HPL:=aW (λ (W:World) (h:Below w.heap.size w W)=>uR keys t F B ny cb W hny (h6.keep (af.of_below h)) hcy hup);obtain ⟨p,hp⟩:∃ p,plI keys t=p:=⟨_,rfl⟩
 rw [hnk,hny] at HK ⊢;rw [hp] at HPL ⊢;have HH0:=aW (((aj.nil w).push 25 #[Zi Zq k,Zi Zq n,Zt ⟨s.toArray⟩,Zs A nk ca,Zs B ny cb] (g:=w.heap.size) rfl).push 25 #[Zi Zq 0,Zi Zq 0,Zt ⟨#[]⟩,Zs none 0 0,Zs none 0 0] (g:=w.heap.size+1) (by simp));clear hG hv hc hg hvs h1 h2 h3 h4 h5 h6 hnk hny hcy hup hgj hp;obtain ⟨op,hop⟩:∃ q,(if k=6/\0<=p then kids[p.toNat]? else none)=q:=⟨_,rfl⟩
 have HKP:=aW (HK.out · p);rw [hop] at HKP ⊢;clear hop HK;obtain ⟨c0,f0,l0⟩:=HH0.out.b1.rules;have k0:=c0 0;have k1:=c0 1;have k2:=c0 2;have k3:=c0 3;have k4:=c0 4;simp at k0 k1 k2 k3 k4;go_enter Tryz.func122,Tryz.ntmps122;go_wp2;go_region_held3 (λ w'=>w'.cell? ⟨w.heap.size,0,none⟩=some (Zi Zq k)/\w'.cell? ⟨w.heap.size,1,none⟩=some (Zi Zq n)/\w'.cell? ⟨w.heap.size,2,none⟩=some (Zt ⟨s.toArray⟩)/\w'.cell? ⟨w.heap.size,3,none⟩=some (Zs A nk ca)/\w'.cell? ⟨w.heap.size,4,none⟩=some (Zs B ny cb)) (go_keep) (first | (go_at_call 165;refine (HKP.out _ HH1.out.1).mono ?_;rintro e w2 ⟨cs2,u2,b2,rfl,hv2,hc2,ho2,hg2,hb2⟩;obtain ⟨k6,n6,s6,A6,na6,ca6,B6,nb6,cb6,rfl⟩:=hv2.form;have HH2:=aW (HH1.out.keep hb2);have HQ2:=aW (And.intro hv2 (And.intro hc2 (And.intro ho2 hg2)));have d0:=HH2.out.b1.cell 0;have d1:=HH2.out.b1.cell 1;have d2:=HH2.out.b1.cell 2;have d3:=HH2.out.b1.cell 3;have d4:=HH2.out.b1.cell 4;simp at d0 d1 d2 d3 d4;obtain ⟨c9,f9,l9⟩:=HH2.out.b0.rules) | (go_at_call 166;refine (HPL.out _ HH0.out.drew.1).mono ?_;rintro e w1 ⟨rfl,hb1⟩;have HH1:=aW (HH0.out.drew.keep hb1);have d0:=HH1.out.b1.cell 0;have d1:=HH1.out.b1.cell 1;have d2:=HH1.out.b1.cell 2;have d3:=HH1.out.b1.cell 3;have d4:=HH1.out.b1.cell 4;simp at d0 d1 d2 d3 d4))
 all_goals
  go_wp2;refine bodyPost_ret (v:=.tuple #[.agg #[Zi Zq k6,Zi Zq n6,Zt s6,Zs A6 na6 ca6,Zs B6 nb6 cb6],.bool b2]) (by simp only [results,Tryz.results122];go_simp) rfl ?_;have hne:∀ b,(F b/\b<w.heap.size)->b≠w.heap.size+1:=λ b hb=>by have:=hb.2;omega
  exact ⟨_,u2,b2,rfl,(HQ2.out.1.keep (((((af.refl.set hne 0 _).set hne 1 _).set hne 2 _).set hne 3 _).set hne 4 _)).mono (λ b _ hb=>hb.1),HQ2.out.2.1,HQ2.out.2.2.1,HQ2.out.2.2.2,ah HH2.out.1 (by omega) _ _ _ _ _⟩
def wN (g:Nat) (p:Nat) (w:World) (e:Ending) (w':World):Prop:=e=.returned (.bool (decide (p<256)))/\w'=(if p<256 then w.setCell ⟨g,0,none⟩ (Zi Zq ((p+1:Nat):Int)) else w)
theorem ta (g p:Nat) (ev mv:Value) (w:World) (hB:Blk w g 88 #[Zi Zq (p:Int),ev,mv]) (hp:p<=256):Calls Tryz.prog 95 #[Zp (some ⟨g,0,none⟩)] w (wN g p w):=by
 obtain ⟨c0,f0,l0⟩:=hB.rules;by_cases h:p<256
 ·have HH:=aW h;have he:((p:Int) == 256)=false:=by rw [beq_eq_false_iff_ne];omega
  have HE:=aW (show ((p+1:Nat):Int)=(p:Int)+1 by omega);clear hB h;go_enter Tryz.func95,Tryz.ntmps95;go_wp2;go_ret;exact ⟨by rw [decide_eq_true HH.out];rfl,by rw [if_pos HH.out,HE.out]⟩
 ·obtain rfl:p=256:=by omega
  clear hB h;go_enter Tryz.func95,Tryz.ntmps95;go_wp2;go_ret;exact ⟨rfl,rfl⟩
def cu (q:Nat):Bool:=decide (97<=q/\q<=122∨48<=q/\q<=57∨q=45)
def gi (l:List UInt8):Bool:=decide (1<=l.length/\l.length<=24) && l.all λ c=>cu c.toNat
theorem qt (q:Nat) (w:World):Calls Tryz.prog 91 #[Zi .u8 q] w λ e w'=>e=.returned (.bool (cu q))/\w=w':=by
 unfold cu;go_enter Tryz.func91,Tryz.ntmps91;go_wp2
 all_goals
  go_ret;exact ⟨ap (by rw [Bool.eq_iff_iff];simp;try omega),rfl⟩
theorem pg {s:List UInt8} {i:Nat} {a:UInt8} (ha:s[i]? = some a) (W:World):(Instr.index 9 (Zt ⟨s.toArray⟩) (Zi Zq (i:Int))).run Tryz.prog W=.ok (Zi .u8 a.toNat) W:=by
 obtain ⟨hi,e⟩:=List.getElem?_eq_some_iff.1 ha;have hsz:(ByteArray.mk s.toArray).size=s.length:=by simp [ByteArray.size]
 rw [run_index_string W 9 ⟨s.toArray⟩ .i64 (i:Int) Tryz.underlying9,dif_pos ⟨by omega,by rw [hsz];omega⟩];subst e;rfl
def IdP (q:Int) (w:World) (e:Ending) (w':World):Prop:=e=.returned (Zi Zq q)/\w=w'
theorem uZ (s:List UInt8) (hl:s.length<=4194304) (w:World):Calls Tryz.prog 58 #[Zt ⟨s.toArray⟩] w (IdP (if gi s=true then 0 else 290) w):=by
 obtain ⟨n,hn⟩:∃ n,s.length=n:=⟨_,rfl⟩
 have hsz:(ByteArray.mk s.toArray).size=n:=by rw [← hn];simp [ByteArray.size]
 have HI:=aW (λ (i:Nat) (a:UInt8) (ha:s[i]? = some a) W=>pg ha W);have HN:=aW hn;obtain ⟨q,hq⟩:∃ q:Int,(if gi s=true then 0 else 290)=q:=⟨_,rfl⟩
 have HQ:=aW hq;rw [hq];obtain ⟨lb,hlb⟩:∃ b,decide (1<=n/\n<=24)=b:=⟨_,rfl⟩
 have HLB:=aW hlb;obtain ⟨S,hS⟩:∃ S:ByteArray,⟨s.toArray⟩=S:=⟨_,rfl⟩
 rw [hS] at HI hsz ⊢;rw [hn] at hl;clear hn hq hlb hS;go_enter Tryz.func58,Tryz.ntmps58;go_upto_block 0 with fail
 all_goals
  go_wp2;go_loopw [4,5,16] (λ s4 _ s16 wr => ∃ (i:Nat) (t:Bool),i<=n/\s16=Zi Zq (i:Int)/\s4=.bool t/\wr=w/\Hid (t=(lb && (s.take i).all λ c=>cu c.toNat))) (λ _ _ s16 _=>n-(intOf s16).toNat)
  case atStart=>exact ⟨0,_,by omega,rfl,rfl,rfl,aW (by rw [← HLB.out,List.take_zero,List.all_nil,Bool.and_true];rw [Bool.eq_iff_iff];simp;omega)⟩
  case round =>
   obtain ⟨i,t,hi,rfl,rfl,rfl,HT⟩:=hrel;by_cases hin:i<n
   ·obtain ⟨c,hc⟩:∃ c,s[i]? = some c:=⟨_,List.getElem?_eq_getElem (by rw [HN.out];exact hin)⟩
    have hix:=λ W=>HI.out i c hc W
    have HTK:=aW (show (s.take (i+1)).all (λ c=>cu c.toNat)=((s.take i).all (λ c=>cu c.toNat) && cu c.toNat) by rw [List.take_add_one,hc];simp);clear hc;obtain ⟨cn,hcn⟩:∃ q,c.toNat=q:=⟨_,rfl⟩
    rw [hcn] at hix HTK;clear hcn;cases t
    ·go_wp2;go_roundw
     case rel=>exact ⟨i+1,false,by omega,by go_num,(by first | rfl | trivial),(by first | rfl | trivial),aW (by rw [HTK.out,← Bool.and_assoc,← HT.out];rfl)⟩
     case measure=>simp [intOf];omega
    ·go_wp2_with fail;refine (qt cn _).mono ?_;rintro e w1 ⟨rfl,rfl⟩;go_wp2;go_roundw
     case rel=>exact ⟨i+1,cu cn,by omega,by go_num,(by first | rfl | trivial),(by first | rfl | trivial),aW (by rw [HTK.out,← Bool.and_assoc,← HT.out];rfl)⟩
     case measure=>simp [intOf];omega
   ·obtain rfl:i=n:=by omega
    have HQ2:=aW (show t=gi s by
     rw [HT.out,List.take_of_length_le (Nat.le_of_eq HN.out)];unfold gi;rw [HN.out,HLB.out])
    cases t
    ·have HQ3:=aW (show q=290 by rw [← HQ.out,← HQ2.out];rfl);go_wp2;go_ret;exact ⟨by rw [HQ3.out];rfl,rfl⟩
    ·have HQ3:=aW (show q=0 by rw [← HQ.out,← HQ2.out];rfl);go_wp2;go_ret;exact ⟨by rw [HQ3.out];rfl,rfl⟩
def ue (cs:Array Value) (w:World) (e:Ending) (w':World):Prop:=e=.returned (.agg cs)/\Below w.heap.size w w'
theorem mt (s:ByteArray) (w:World):Calls Tryz.prog 26 #[Zt s] w (ue #[Zi Zq 2,Zi Zq 0,Zi Zq 0,Zt ⟨#[]⟩,Zs none 0 0,Zs none 0 0,Zt s,Zs none 0 0] w):=by
 go_enter Tryz.func26,Tryz.ntmps26;go_wp2;refine bodyPost_ret (v:=.agg #[Zi Zq 2,Zi Zq 0,Zi Zq 0,Zt ⟨#[]⟩,Zs none 0 0,Zs none 0 0,Zt s,Zs none 0 0]) (by simp only [results,Tryz.results26];go_simp) rfl ?_;exact ⟨rfl,by go_grown⟩
theorem p6 (n:Int) (w:World):Calls Tryz.prog 31 #[Zi Zq n] w (ue #[Zi Zq 1,Zi Zq 3,Zi Zq n,Zt ⟨#[]⟩,Zs none 0 0,Zs none 0 0,Zt ⟨#[]⟩,Zs none 0 0] w):=by
 go_enter Tryz.func31,Tryz.ntmps31;go_wp2;refine bodyPost_ret (v:=.agg #[Zi Zq 1,Zi Zq 3,Zi Zq n,Zt ⟨#[]⟩,Zs none 0 0,Zs none 0 0,Zt ⟨#[]⟩,Zs none 0 0]) (by simp only [results,Tryz.results31];go_simp) rfl ?_;exact ⟨rfl,by go_grown⟩
end
section
def ex (k:Int):Int:=if k=1∨k=2 then 0 else if k=3∨k=5∨k=6∨k=7 then 1 else if k=4 then -1 else 2
mutual
def dpR:Nat->EJ->Nat
 | room,.mk k v s kids=>if room=0 then 13 else if okX k v s kids.length=true then (match dpL (room-1) kids with | none=>0 | some m=>m+1) else 0
def dpL:Nat->List EJ->Option Nat
 | _,[]=>some 0
 | room,x::r=>if dpR room x=0 then none else match dpL room r with | none=>none | some m=>some (max (dpR room x) m)
end
def dpF (r:Nat) (l:List EJ):Nat:=l.foldl (λ m x=>if m<dpR r x then dpR r x else m) 0
theorem kt {r:Nat}:∀ {l:List EJ} {x:EJ},x ∈ l->dpR r x=0->dpL r l=none
 |y::l,x,hx,h0=>by
  unfold dpL;rcases List.mem_cons.1 hx with rfl | hx
  ·rw [if_pos h0]
  ·split
   ·rfl
   ·rw [kt hx h0]
theorem sr {r:Nat}:∀ (l:List EJ) (m:Nat),(∀ x ∈ l,dpR r x≠0)->∃ q,dpL r l=some q/\l.foldl (λ m x=>if m<dpR r x then dpR r x else m) m=max m q
 | [],m,_=>⟨0,by rw [dpL],by simp⟩
 |x::l,m,h=>by
  obtain ⟨q,h1,h2⟩:=sr l (if m<dpR r x then dpR r x else m) λ y hy=>h y (List.mem_cons_of_mem _ hy)
  refine ⟨max (dpR r x) q,by rw [dpL,if_neg (h x List.mem_cons_self),h1],?_⟩;rw [List.foldl_cons,h2];split<;>omega
theorem jR {r:Nat} {l:List EJ} (h:∀ x ∈ l,dpR r x≠0):dpL r l=some (dpF r l):=by
 obtain ⟨q,h1,h2⟩:=sr l 0 h;unfold dpF;rw [h1,h2,Nat.zero_max]
theorem oZ {r n:Nat}:∀ {l:List EJ} {q:Nat},dpL r l=some q->(q<n+1 ↔ ∀ x ∈ l,dpR r x<n+1)
 |[],q,h=>by
  rw [dpL] at h;obtain rfl:=Option.some.inj h;simp
 |x::l,q,h=>by
  rw [dpL] at h;split at h
  ·cases h
  ·split at h
   ·cases h
   ·rename_i m hm
    obtain rfl:=Option.some.inj h;have:=oZ (n:=n) hm;simp only [List.mem_cons,forall_eq_or_imp,← this];omega
theorem sZ {r:Nat}:∀ {l:List EJ} {q:Nat},dpL r l=some q->∀ x ∈ l,dpR r x≠0
 |y::l,q,h,x,hx=>by
  intro e;rw [kt hx e] at h;cases h
theorem lw:∀ (R:Nat) (x:EJ),(dpR R x≠0/\dpR R x<R) ↔ (R≠0/\bx (R-1) x≠0)
 |0,.mk k v s kids=>by
  constructor
  ·rintro ⟨_,h⟩;omega
  ·rintro ⟨h,_⟩;exact absurd rfl h
 |1,.mk k v s kids=>by
  constructor
  ·rintro ⟨h1,h2⟩;omega
  ·rintro ⟨_,h⟩;exact absurd rfl (eF h).1
 |n+2,.mk k v s kids=>by
  have ih:=λ x=>lw (n+1) x
  constructor
  ·rintro ⟨h1,h2⟩;refine ⟨by omega,?_⟩;rw [dpR,if_neg (by omega)] at h1 h2;by_cases hk:okX k v s kids.length=true
   ·rw [if_pos hk] at h1 h2;cases hd:dpL (n+2-1) kids with
    | none=>rw [hd] at h1;exact absurd rfl h1
    |some q =>
     rw [hd] at h2;refine pl (by omega) hk λ x hx=>?_
     have h3:q+1<n+2:=h2;have:=(ih x).1 ⟨sZ hd x hx,(oZ hd).1 (by omega) x hx⟩;exact this.2
   ·rw [if_neg hk] at h1;exact absurd rfl h1
  ·rintro ⟨_,h⟩;obtain ⟨_,hk,hkids⟩:=eF h;have h9:∀ x ∈ kids,dpR (n+1) x≠0/\dpR (n+1) x<n+1:=λ x hx=>(ih x).2 ⟨by omega,hkids x hx⟩
   rw [dpR,if_neg (by omega),if_pos hk,show n+2-1=n+1 by omega,jR λ x hx=>(h9 x hx).1];refine ⟨by simp,?_⟩;have:=(oZ (n:=n) (jR λ x hx=>(h9 x hx).1)).2 λ x hx=>(h9 x hx).2
   show dpF (n+1) kids+1<n+2
   omega
theorem ri (x:EJ):(1<=dpR 13 x/\dpR 13 x<=12) ↔ dF x:=by
 have:=lw 13 x;unfold dF;constructor
 ·rintro ⟨h1,h2⟩;exact (this.1 ⟨by omega,by omega⟩).2
 ·intro h;have h9:=this.2 ⟨by omega,h⟩;omega
def okA (k:Int) (nk:Nat):Bool:=decide (1<=k/\k<=15) && (decide (ex k<0) || decide ((nk:Int)=ex k))
def okB (k:Int) (v:JV):Bool:=if k=1 then ef v else dn v
def okC (k:Int) (s:List UInt8):Bool:=if k=2∨k=3 then dN s else decide (s=[])
theorem tv (k:Int) (v:JV) (s:List UInt8) (nk:Nat):okX k v s nk=(okA k nk && (okB k v && okC k s)):=by
 have hk:k<1∨15<k∨k=1∨k=2∨k=3∨k=4∨(5<=k/\k<=7)∨(8<=k/\k<=15):=by omega
 unfold okX okA okB okC;rcases hk with h | h | rfl | rfl | rfl | rfl | ⟨h,h'⟩ | ⟨h,h'⟩
 ·have e:decide (1<=k/\k<=15)=false:=decide_eq_false (by omega);rw [e,if_neg (by omega)];split
  ·simp
  ·rw [if_neg (by omega),if_neg (by omega),if_neg (by omega),if_neg (by omega),if_neg (by omega)];simp
 ·have e:decide (1<=k/\k<=15)=false:=decide_eq_false (by omega);rw [e,if_neg (by omega)];split
  ·simp
  ·rw [if_neg (by omega),if_neg (by omega),if_neg (by omega),if_neg (by omega),if_neg (by omega)];simp
 ·simp [ex];cases ef v<;>simp [Bool.and_comm]
 ·simp [ex];cases dn v<;>simp [Bool.and_comm]
 ·have e3:decide ((nk:Int)=1)=decide (nk=1):=by rw [decide_eq_decide];omega
  simp [ex,e3];cases dn v<;>simp [Bool.and_comm]
 ·simp [ex]
 ·have n1:¬ k=1:=by omega
  have n2:¬ k=2:=by omega
  have n3:¬ k=3:=by omega
  have n4:¬ k=4:=by omega
  have n5:5<=k/\k<=7:=by omega
  have n6:¬ (k=2∨k=3):=by omega
  have e:decide (1<=k/\k<=15)=true:=decide_eq_true (by omega);have e2:ex k=1:=by unfold ex;rw [if_neg (by omega),if_pos (by omega)]
  have e3:decide ((nk:Int)=1)=decide (nk=1):=by rw [decide_eq_decide];omega
  rw [if_neg n1,if_neg n1,if_neg n2,if_neg n3,if_neg n4,if_pos n5,if_neg n6,e,e2,e3];cases dn v<;>simp [Bool.and_comm]
 ·have n1:¬ k=1:=by omega
  have n2:¬ k=2:=by omega
  have n3:¬ k=3:=by omega
  have n4:¬ k=4:=by omega
  have n5:¬ (5<=k/\k<=7):=by omega
  have n6:¬ (k=2∨k=3):=by omega
  have n7:8<=k/\k<=15:=by omega
  have e:decide (1<=k/\k<=15)=true:=decide_eq_true (by omega);have e2:ex k=2:=by unfold ex;rw [if_neg (by omega),if_neg (by omega),if_neg (by omega)]
  have e3:decide ((nk:Int)=2)=decide (nk=2):=by rw [decide_eq_decide];omega
  rw [if_neg n1,if_neg n1,if_neg n2,if_neg n3,if_neg n4,if_neg n5,if_pos n7,if_neg n6,e,e2,e3];cases dn v<;>simp [Bool.and_comm]
end
section
open Go.RowKit
attribute [local go_sem] aa ac ae ab
theorem rI (v:JV) (cs:List Value) (F:Nat->Prop) (w:World) (hv:VR w F cs v):Calls Tryz.prog 16 #[.agg cs.toArray] w (aF (dn v) w):=by
 obtain ⟨k,n,s,kids,keys⟩:=v;obtain ⟨A,B,a,b,css,rfl,_⟩:=hv.out;obtain ⟨nk,hnk⟩:∃ q,kids.length=q:=⟨_,rfl⟩
 obtain ⟨ny,hny⟩:∃ q,keys.length=q:=⟨_,rfl⟩
 obtain ⟨g,hg⟩:∃ g,dn (.mk k n s kids keys)=g:=⟨_,rfl⟩
 have hz:g=decide (k=0/\n=0/\s=[]/\nk+ny=0):=by rw [← hg,dn,hnk,hny]
 obtain ⟨sv,hsv⟩:∃ b:ByteArray,(⟨s.toArray⟩:ByteArray)=b:=⟨_,rfl⟩
 have hse:sv.toList=s:=by rw [← hsv,ByteArray.toList_eq]
 rw [hg,hnk,hny,hsv];clear hv hnk hny hsv hg;by_cases h1:k=0;rotate_left
 ·have e1:(k == 0)=false:=by simp [h1]
  obtain rfl:g=false:=by rw [hz];exact decide_eq_false λ h=>h1 h.1
  have HH0:=aW ((aj.nil w).push 25 #[Zi Zq k,Zi Zq n,Zt sv,Zs A nk a,Zs B ny b] (g:=w.heap.size) rfl);obtain ⟨c0,f0,l0⟩:=HH0.out.b0.rules;clear h1 hse hz;go_enter Tryz.func16,Tryz.ntmps16;go_wp2;go_ret;exact ⟨rfl,HH0.out.1⟩
 subst h1;by_cases h2:n=0;rotate_left
 ·have e1:(n == 0)=false:=by simp [h2]
  obtain rfl:g=false:=by rw [hz];exact decide_eq_false λ h=>h2 h.2.1
  have HH0:=aW ((aj.nil w).push 25 #[Zi Zq 0,Zi Zq n,Zt sv,Zs A nk a,Zs B ny b] (g:=w.heap.size) rfl);obtain ⟨c0,f0,l0⟩:=HH0.out.b0.rules;clear h2 hse hz;go_enter Tryz.func16,Tryz.ntmps16;go_wp2;go_ret;exact ⟨rfl,HH0.out.1⟩
 subst h2;by_cases h3:s=[];rotate_left
 ·have hsn:¬ sv.toList=[]:=by rw [hse];exact h3
  obtain rfl:g=false:=by rw [hz];exact decide_eq_false λ h=>h3 h.2.2.1
  have HH0:=aW ((aj.nil w).push 25 #[Zi Zq 0,Zi Zq 0,Zt sv,Zs A nk a,Zs B ny b] (g:=w.heap.size) rfl);obtain ⟨c0,f0,l0⟩:=HH0.out.b0.rules;clear h3 hz hse;go_enter Tryz.func16,Tryz.ntmps16;go_wp2;go_ret;exact ⟨rfl,HH0.out.1⟩
 have hsy:sv.toList=[]:=by rw [hse];exact h3
 clear hse;by_cases h4:nk=0;rotate_left
 ·have e1:((nk:Int) == 0)=false:=by simp;omega
  obtain rfl:g=false:=by rw [hz];exact decide_eq_false λ h=>by omega
  have HH0:=aW ((aj.nil w).push 25 #[Zi Zq 0,Zi Zq 0,Zt sv,Zs A nk a,Zs B ny b] (g:=w.heap.size) rfl);obtain ⟨c0,f0,l0⟩:=HH0.out.b0.rules;clear h3 hz;go_enter Tryz.func16,Tryz.ntmps16;go_wp2;go_ret;exact ⟨rfl,HH0.out.1⟩
 subst h4;by_cases h5:ny=0;rotate_left
 ·have e1:((ny:Int) == 0)=false:=by simp;omega
  obtain rfl:g=false:=by rw [hz];exact decide_eq_false λ h=>by omega
  have HH0:=aW ((aj.nil w).push 25 #[Zi Zq 0,Zi Zq 0,Zt sv,Zs A 0 a,Zs B ny b] (g:=w.heap.size) rfl);obtain ⟨c0,f0,l0⟩:=HH0.out.b0.rules;clear h3 hz;go_enter Tryz.func16,Tryz.ntmps16;go_wp2;go_ret;exact ⟨rfl,HH0.out.1⟩
 subst h5;obtain rfl:g=true:=by rw [hz];exact decide_eq_true ⟨rfl,rfl,h3,rfl⟩
 have HH0:=aW ((aj.nil w).push 25 #[Zi Zq 0,Zi Zq 0,Zt sv,Zs A 0 a,Zs B 0 b] (g:=w.heap.size) rfl);obtain ⟨c0,f0,l0⟩:=HH0.out.b0.rules;clear h3 hz;go_enter Tryz.func16,Tryz.ntmps16;go_wp2;go_ret;exact ⟨rfl,HH0.out.1⟩
theorem vQ (k:Int) (q:Int) (hq:ex k=q) (w:World):Calls Tryz.prog 42 #[Zi Zq k] w λ e w'=>e=.returned (Zi Zq q)/\w=w':=by
 have HQ:=aW hq;clear hq;have hk:k=1∨k=2∨k=3∨k=5∨k=6∨k=7∨k=4∨((k == 1)=false/\(k == 2)=false/\(k == 3)=false/\(k == 5)=false/\(k == 6)=false/\(k == 7)=false/\(k == 4)=false):=by
  simp only [beq_eq_false_iff_ne];omega
 rcases hk with rfl | rfl | rfl | rfl | rfl | rfl | rfl | ⟨h1,h2,h3,h5,h6,h7,h4⟩
 rotate_right
 ·obtain rfl:q=2:=by
   have g1:=beq_eq_false_iff_ne.1 h1;have g2:=beq_eq_false_iff_ne.1 h2;have g3:=beq_eq_false_iff_ne.1 h3;have g4:=beq_eq_false_iff_ne.1 h4;have g5:=beq_eq_false_iff_ne.1 h5;have g6:=beq_eq_false_iff_ne.1 h6;have g7:=beq_eq_false_iff_ne.1 h7;rw [← HQ.out];unfold ex;rw [if_neg (by omega),if_neg (by omega),if_neg (by omega)]
  clear HQ;go_enter Tryz.func42,Tryz.ntmps42;go_wp2;go_ret;exact ⟨rfl,rfl⟩
 all_goals
  obtain rfl:=HQ.out.symm.trans (by rfl:ex _=_);clear HQ;go_enter Tryz.func42,Tryz.ntmps42;go_wp2;go_ret;exact ⟨rfl,rfl⟩
theorem jF {v:JV} (h:good v=true):1<=v.kind/\v.kind<=6:=by
 obtain ⟨k,n,s,kids,keys⟩:=v;have h1:=(aK (dH h).1).1;show 1<=k/\k<=6
 unfold aI at h1;split at h1
 ·omega
 split at h1
 ·omega
 split at h1
 ·omega
 split at h1
 ·omega
 split at h1
 ·omega
 split at h1
 ·omega
 cases h1
theorem yv (v:JV) (cs:List Value) (F:Nat->Prop) (w:World) (hv:VR w F cs v) (hc:au v):Calls Tryz.prog 43 #[.agg cs.toArray] w (aF (ef v) w):=by
 have HRI:=aW (λ (W:World) (h:Below w.heap.size w W)=>gz v cs F W (hv.bel h) hc);have HK:=aW (λ (h:good v=true)=>jF h);have HLT:=aW (show ef v=(good v && (decide (v.kind=3/\0<=v.num) || decide (v.kind=1∨v.kind=2∨v.kind=4))) from rfl);obtain ⟨g,hg⟩:∃ g,ef v=g:=⟨_,rfl⟩
 obtain ⟨k,n,s,kids,keys⟩:=v;obtain ⟨A,B,a,b,css,rfl,_⟩:=hv.out;have HH0:=aW ((aj.nil w).push 25 #[Zi Zq k,Zi Zq n,Zt ⟨s.toArray⟩,Zs A kids.length a,Zs B keys.length b] (g:=w.heap.size) rfl);rw [hg] at HLT ⊢;clear hv hc hg;obtain ⟨c0,f0,l0⟩:=HH0.out.b0.rules;obtain ⟨gd,hgd⟩:∃ q,good (.mk k n s kids keys)=q:=⟨_,rfl⟩
 rw [hgd] at HRI HLT HK;clear hgd;cases gd with
 |false =>
  obtain rfl:g=false:=HLT.out;clear HLT HK;go_enter Tryz.func43,Tryz.ntmps43;go_wp2_with fail;refine (HRI.out _ HH0.out.1).mono ?_;rintro e w1 ⟨rfl,hb1⟩;have HH1:=aW (HH0.out.keep hb1);clear hb1 c0 f0 l0;go_wp2;go_ret;exact ⟨rfl,HH1.out.1⟩
 |true =>
  have hk:1<=k/\k<=6:=HK.out rfl;have hgv:g=(decide (k=3/\0<=n) || decide (k=1∨k=2∨k=4)):=HLT.out;clear HLT HK;by_cases h4:4<k
  ·have e4:¬ k<=4:=by omega
   have e5:decide (k<=4)=false:=decide_eq_false e4;obtain rfl:g=false:=by rw [hgv,decide_eq_false (by omega),decide_eq_false (by omega)];rfl
   clear hgv;go_enter Tryz.func43,Tryz.ntmps43;go_wp2_with fail;refine (HRI.out _ HH0.out.1).mono ?_;rintro e w1 ⟨rfl,hb1⟩;have HH1:=aW (HH0.out.keep hb1);clear hb1 c0 f0 l0;obtain ⟨c0,f0,l0⟩:=HH1.out.b0.rules;go_wp2;go_ret;exact ⟨rfl,HH1.out.1⟩
  have e4:k<=4:=by omega
  have e5:decide (k<=4)=true:=decide_eq_true e4;by_cases h3:k=3;rotate_left
  ·have e3:(k != 3)=true:=by simp [h3]
   obtain rfl:g=true:=by rw [hgv,decide_eq_true (p:=k=1∨k=2∨k=4) (by omega),Bool.or_true]
   clear hgv;go_enter Tryz.func43,Tryz.ntmps43;go_wp2_with fail;refine (HRI.out _ HH0.out.1).mono ?_;rintro e w1 ⟨rfl,hb1⟩;have HH1:=aW (HH0.out.keep hb1);clear hb1 c0 f0 l0;obtain ⟨c0,f0,l0⟩:=HH1.out.b0.rules;go_wp2;go_ret;exact ⟨rfl,HH1.out.1⟩
  subst h3;have HGV:=aW (show g=decide (0<=n) by rw [hgv];simp);by_cases h0:0<=n
  ·obtain rfl:g=true:=by rw [HGV.out];exact decide_eq_true h0
   have e0:decide (0<=n)=true:=decide_eq_true h0;clear hgv HGV;go_enter Tryz.func43,Tryz.ntmps43;go_wp2_with fail;refine (HRI.out _ HH0.out.1).mono ?_;rintro e w1 ⟨rfl,hb1⟩;have HH1:=aW (HH0.out.keep hb1);clear hb1 c0 f0 l0;obtain ⟨c0,f0,l0⟩:=HH1.out.b0.rules;go_wp2;go_ret;exact ⟨rfl,HH1.out.1⟩
  ·obtain rfl:g=false:=by rw [HGV.out];exact decide_eq_false h0
   have e0:decide (0<=n)=false:=decide_eq_false h0;clear hgv HGV;go_enter Tryz.func43,Tryz.ntmps43;go_wp2_with fail;refine (HRI.out _ HH0.out.1).mono ?_;rintro e w1 ⟨rfl,hb1⟩;have HH1:=aW (HH0.out.keep hb1);clear hb1 c0 f0 l0;obtain ⟨c0,f0,l0⟩:=HH1.out.b0.rules;go_wp2;go_ret;exact ⟨rfl,HH1.out.1⟩
theorem sj {ba:ByteArray} {i:Nat} (hi:i<ba.size) (W:World):(Instr.index 9 (Zt ba) (Zi Zq (i:Int))).run Tryz.prog W=.ok (Zi .u8 ba[i].toNat) W:=by
 rw [run_index_string W 9 ba .i64 (i:Int) Tryz.underlying9,dif_pos ⟨by omega,by omega⟩];rfl
theorem yx (l:List UInt8) (hl:l.length<=4194304) (w:World):Calls Tryz.prog 23 #[Zt ⟨l.toArray⟩] w λ e w'=>e=.returned (.bool (gi l))/\w'=w:=by
 obtain ⟨n,hn⟩:∃ n,l.length=n:=⟨_,rfl⟩
 obtain ⟨g,hg⟩:∃ g,gi l=g:=⟨_,rfl⟩
 have HG:=aW (show g=(decide (1<=n/\n<=24) && l.all λ c=>cu c.toNat) by rw [← hg,gi,hn]);obtain ⟨ba,hba⟩:∃ b:ByteArray,(⟨l.toArray⟩:ByteArray)=b:=⟨_,rfl⟩
 have hsz:ba.size=n:=by rw [← hba];simpa [ByteArray.size] using hn
 have HBA:=aW (show sl ba=l by rw [← hba,fW]);rw [hg,hba];rw [hn] at hl;clear hg hba hn;by_cases h0:n=0
 ·have e0:((n:Int) == 0)=true:=by simp [h0]
  obtain rfl:g=false:=by rw [HG.out,decide_eq_false (by omega)];rfl
  clear HG HBA;go_enter Tryz.func23,Tryz.ntmps23;go_wp2;go_ret;exact ⟨rfl,rfl⟩
 have e0:((n:Int) == 0)=false:=by simp;omega
 by_cases h24:24<n
 ·have e1:decide ((24:Int)<(n:Int))=true:=decide_eq_true (by omega);have e1':(24:Int)<(n:Int):=by omega
  obtain rfl:g=false:=by rw [HG.out,decide_eq_false (by omega)];rfl
  clear HG HBA;go_enter Tryz.func23,Tryz.ntmps23;go_wp2;go_ret;exact ⟨rfl,rfl⟩
 have e1:decide ((24:Int)<(n:Int))=false:=decide_eq_false (by omega);have e1':¬ (24:Int)<(n:Int):=by omega
 have HGA:=aW (show g=l.all λ c=>cu c.toNat by rw [HG.out,decide_eq_true (by omega)];rfl);clear HG;go_enter Tryz.func23,Tryz.ntmps23;go_upto_region 4 with fail;go_loopg [3] n (λ gk s3 wr => ∃ (i:Nat),i<=n/\gk=n-i/\s3=Zi Zq (i:Int)/\wr=w/\Hid (∀ c ∈ l.take i,cu c.toNat=true))
 case atStart=>exact ⟨0,Nat.zero_le _,by go_num,rfl,rfl,aW (by simp)⟩
 case round =>
  obtain ⟨i,hin,hgk,rfl,rfl,HNO⟩:=hrel;have HGK:=aW hgk;clear hgk;by_cases hlt:i<n
  ·have hib:i<ba.size:=by omega
   have hget:(sl ba)[i]? = some ba[i]:=sC ba i hib;rw [HBA.out] at hget;obtain ⟨c,hc⟩:∃ c:Nat,ba[i].toNat=c:=⟨_,rfl⟩
   have hc256:c<256:=by rw [← hc];exact UInt8.toNat_lt _
   have HCM:=aW (show cu c=false->g=false from λ h=>by
    rw [HGA.out,← Bool.not_eq_true,List.all_eq_true];intro h9;have:=h9 _ (List.mem_of_getElem? hget);rw [hc,h] at this;cases this)
   have HTK:=aW (show cu c=true->∀ c ∈ l.take (i+1),cu c.toNat=true from λ h x hx=>by
    rw [List.take_add_one,hget] at hx;rcases List.mem_append.1 hx with hx | hx
    ·exact HNO.out x hx
    ·obtain rfl:x=ba[i]:=by simpa using hx
     rw [hc];exact h)
   clear hget;have hix:=λ W=>sj (ba:=ba) hib W
   rw [hc] at hix;have hge:0<=(c:Int)/\(c:Int)<=255:=by omega
   clear hc HGA HNO;go_wp2
   all_goals
    first
     |go_roundg (n-(i+1))
      case measure=>have:=HGK.out;omega
      case rel=>exact ⟨i+1,by omega,rfl,by go_num,rfl,aW (HTK.out (by
       unfold cu;refine decide_eq_true ?_;clear hix hsz HBA HCM HTK HGK
       try simp only [bne_iff_ne,ne_eq,bne_eq_false_iff_eq] at *
       omega))⟩
     |obtain rfl:g=false:=HCM.out (by
       unfold cu;refine decide_eq_false ?_;clear hix hsz HBA HCM HTK HGK
       try simp only [bne_iff_ne,ne_eq,bne_eq_false_iff_eq] at *
       omega)
      go_ret;exact ⟨rfl,rfl⟩
  ·obtain rfl:i=n:=by omega
   obtain rfl:g=true:=by
    rw [HGA.out,List.all_eq_true];intro c hc;refine HNO.out c ?_;rw [List.take_of_length_le (by rw [← HBA.out,bR];omega)];exact hc
   clear HGA;go_wp2;go_ret;exact ⟨rfl,rfl⟩
def xQ (n:Int) (w:World) (e:Ending) (w':World):Prop:=e=.returned (Zi Zq n)/\Below w.heap.size w w'
theorem qf (a b:JV) (cs cs':List Value) (F F':Nat->Prop) (w:World) (hv:VR w F cs a) (hv':VR w F' cs' b) (g:gd a) (g':gd b) (c:au a) (c':au b) :
  Calls Tryz.prog 90 #[.agg cs.toArray,.agg cs'.toArray] w (aF (decide (bp a b = -1)) w)/\Calls Tryz.prog 90 #[.agg cs'.toArray,.agg cs.toArray] w (aF (decide (bp a b=1)) w):=by
 have h1:=gZ _ a b (Nat.le_refl _) 8 8 cs cs' F F' w hv hv' g.j g'.j c c';have h2:=gZ _ b a (Nat.le_refl _) 8 8 cs' cs F' F w hv' hv g'.j g.j c' c;have e:decide (bp b a = -1)=decide (bp a b=1):=by rw [iD g.j g'.j];rw [decide_eq_decide];omega
 rw [e] at h2;exact ⟨h1,h2⟩
theorem js (a b:JV) (cs cs':List Value) (F F':Nat->Prop) (w:World) (hv:VR w F cs a) (hv':VR w F' cs' b) (g:gd a) (g':gd b) (c:au a) (c':au b) :
  Calls Tryz.prog 52 #[.agg cs.toArray,.agg cs'.toArray] w (xQ (bp a b) w):=by
 have HL:=aW (λ (W:World) (h:Below w.heap.size w W)=>qf a b cs cs' F F' W (hv.bel h) (hv'.bel h) g g' c c');obtain ⟨k0,n0,s0,A0,na0,ca0,B0,nb0,cb0,rfl⟩:=hv.form;obtain ⟨k1,n1,s1,A1,na1,ca1,B1,nb1,cb1,rfl⟩:=hv'.form;have h3:=iu a b;obtain ⟨R,hR⟩:∃ R,bp a b=R:=⟨_,rfl⟩
 rw [hR] at HL h3 ⊢;clear hv hv' g g' c c' hR;have HH:=aW (((aj.nil w).push 25 #[Zi Zq k0,Zi Zq n0,Zt s0,Zs A0 na0 ca0,Zs B0 nb0 cb0] rfl).push 25 #[Zi Zq k1,Zi Zq n1,Zt s1,Zs A1 na1 ca1,Zs B1 nb1 cb1] (g:=w.heap.size+1) (by simp));have y1:w.heap.size≠w.heap.size+1:=by omega
 have y2:w.heap.size+1≠w.heap.size:=by omega
 have HH9:=HH;go_enter Tryz.func52,Tryz.ntmps52;rcases h3 with rfl | rfl | rfl
 ·have H1:=aW (show Calls Tryz.prog 90 _ _ (aF true _) from (HL.out _ HH.out.1).1);go_wp2_with fail;refine H1.out.mono ?_;rintro e w1 ⟨rfl,hb1⟩;have HH1:=aW (HH.out.keep hb1);clear hb1;go_wp2;go_ret;exact ⟨rfl,HH1.out.1⟩
 ·have H1:=aW (show Calls Tryz.prog 90 _ _ (aF false _) from (HL.out _ HH.out.1).1);have H2:=aW (λ W (h:Below w.heap.size w W)=>show Calls Tryz.prog 90 _ _ (aF false _) from (HL.out W h).2);go_wp2_with fail;refine H1.out.mono ?_;rintro e w1 ⟨rfl,hb1⟩;have HH1:=aW (HH.out.keep hb1);clear hb1;obtain ⟨c1,f1,l1⟩:=HH1.out.b1.rules;obtain ⟨c2,f2,l2⟩:=HH1.out.b0.rules;go_wp2_with fail;refine (H2.out _ HH1.out.1).mono ?_;rintro e w2 ⟨rfl,hb2⟩;have HH2:=aW (HH1.out.keep hb2);clear hb2;go_wp2;go_ret;exact ⟨rfl,HH2.out.1⟩
 ·have H1:=aW (show Calls Tryz.prog 90 _ _ (aF false _) from (HL.out _ HH.out.1).1);have H2:=aW (λ W (h:Below w.heap.size w W)=>show Calls Tryz.prog 90 _ _ (aF true _) from (HL.out W h).2);go_wp2_with fail;refine H1.out.mono ?_;rintro e w1 ⟨rfl,hb1⟩;have HH1:=aW (HH.out.keep hb1);clear hb1;obtain ⟨c1,f1,l1⟩:=HH1.out.b1.rules;obtain ⟨c2,f2,l2⟩:=HH1.out.b0.rules;go_wp2_with fail;refine (H2.out _ HH1.out.1).mono ?_;rintro e w2 ⟨rfl,hb2⟩;have HH2:=aW (HH1.out.keep hb2);clear hb2;go_wp2;go_ret;exact ⟨rfl,HH2.out.1⟩
end
end Go.Proofs.YtgolomgmnanbpaaGreatDoor
