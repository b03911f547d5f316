import Derived.Test.YtgmnmnnoahdjnaaGreatDoorY32
open Go.Value renaming int → Zi, slice → Zs, string → Zt, pointer → Zp
open Go.IntKind renaming i64 → Zq
set_option maxRecDepth 100000
set_option maxHeartbeats 16000000
set_option linter.unusedVariables false
set_option linter.unusedSimpArgs false
namespace Go.Proofs.YtgmnmnnoahdjnaaGreatDoor
section
open Go.RowKit
attribute [local go_sem] aa ac ae ab
def gK (r:lu) (p:Nat) (w:World) (e:Ending) (w':World):Prop :=
 (match r with
  | .inl (k,t,n,m)=>e=.returned (.tuple #[k8 k p ⟨t.toArray⟩ n,Zi Zq m,Zi Zq 0])
  | .inr (q,er)=>e=.returned (.tuple #[fh,Zi Zq q,Zi Zq er]))/\Below w.heap.size w w'
theorem bu {w W:World} {k:Nat} (h:Below w.heap.size w W) (hk:w.heap.size<=k) (a b s d:Value):Below w.heap.size w ((((W.setCell ⟨k,0,none⟩ a).setCell ⟨k,1,none⟩ b).setCell ⟨k,2,none⟩ s).setCell ⟨k,3,none⟩ d) :=
 (((h.setCell (p:=⟨k,0,none⟩) hk a).setCell (p:=⟨k,1,none⟩) hk b).setCell (p:=⟨k,2,none⟩) hk s).setCell (p:=⟨k,3,none⟩) hk d
theorem mY (v:Value) (l:List UInt8) (p:Nat) (c:UInt8) (w:World) (hv:BS w v l) (hl:l.length<=4194304) (hc:l[p]? = some c) (hk:ay c=true) :
  Calls Tryz.prog 89 #[v,Zi Zq p] w (gK (cU l p) p w):=by
 have hp:=(List.getElem?_eq_some_iff.1 hc).1;obtain ⟨A,cap,rfl,hcap,hr⟩:=hv;obtain ⟨b,o,rfl,hb⟩:=hr.some_ (by omega);obtain ⟨W1,hW1⟩:∃ W1,w.alloc (.cells #[Zi Zq 0,Zi Zq 0,Zt ⟨#[]⟩,Zi Zq 0] 86)=W1:=⟨_,rfl⟩
 have hr1:Rd W1 (some ⟨b,o,none⟩) (aq l):=by rw [← hW1];exact hr.alloc _
 have ht1:Blk W1 w.heap.size 86 #[Zi Zq 0,Zi Zq 0,Zt ⟨#[]⟩,Zi Zq 0]:=by rw [← hW1];exact Blk.new _ _ _
 have hb1:Below w.heap.size w W1:=by rw [← hW1];exact (Below.refl _ w).alloc (Nat.le_refl _) _
 have hbW:b<W1.heap.size:=Nat.lt_of_lt_of_le hb hb1.size;have HW1:=aW hW1;have HR1:=aW hr1;have hx:=BS.at_ (n:=0) (cap:=0) hr1 hc;have HL:=aW eI;have HD:=aW fy;have HC:=aW (HL.out c);rw [hk] at HC;have HV0:=aW (show gK (cU l p) p w=gK (cU l p) p w from rfl);clear hc hr hr1;go_enter Tryz.func89,Tryz.ntmps89;go_wp2_with fail;clear hW1;refine (HC.out _).mono ?_;rintro e w1 ⟨rfl,rfl⟩;go_wp2_with fail;go_loopg [8] (l.length-p) (λ gk s8 wr => ∃ k:Nat,p<=k/\k<=l.length/\gk=l.length-k/\s8=Zi Zq k/\Hid ((l.drop p).takeWhile cK=(l.drop p).take (k-p)++(l.drop k).takeWhile cK)/\wr=W1)
 case atStart=>exact ⟨p,Nat.le_refl _,Nat.le_of_lt hp,rfl,rfl,aW (by simp),rfl⟩
 case round =>
  obtain ⟨k,hpk,hk2,hgk,rfl,HS,rfl⟩:=hrel;have HG:=aW hgk;clear hgk hx;have key:∀ t:List UInt8,(l.drop p).takeWhile cK=t->t=(l.drop p).take (k-p)->k=p+t.length:=λ t h1 h2=>by
   rw [h2,List.length_take,List.length_drop];omega
  by_cases hkl:k<l.length
  ·obtain ⟨x,hx⟩:∃ c,l[k]? = some c:=⟨_,List.getElem?_eq_getElem hkl⟩
   have hxx:=BS.at_ (n:=0) (cap:=0) HR1.out hx;cases h1:ay x with
   |true =>
    have hld:cK x=true:=by rw [cK,h1];rfl
    have HX:=aW (HL.out x);rw [h1] at HX;have HS2:=aW (iR HS.out hx (jL hx hld) hpk);clear hx h1 hld key;go_wp2_with fail;refine (HX.out _).mono ?_;rintro e w1 ⟨rfl,rfl⟩;go_wp2_with fail;go_roundg (l.length-(k+1))
    case measure=>rw [HG.out];omega
    case rel=>exact ⟨k+1,by omega,hkl,rfl,by go_num,HS2,rfl⟩
   |false =>
    have HX:=aW (HL.out x);rw [h1] at HX;have HY:=aW (HD.out x);cases h2:aJ x with
    |true =>
     have hld:cK x=true:=by rw [cK,h2];simp
     rw [h2] at HY;have HS2:=aW (iR HS.out hx (jL hx hld) hpk);clear hx h1 h2 hld key;go_wp2_with fail;refine (HX.out _).mono ?_;rintro e w1 ⟨rfl,rfl⟩;go_wp2_with fail;refine (HY.out _).mono ?_;rintro e w1 ⟨rfl,rfl⟩;go_wp2_with fail;go_roundg (l.length-(k+1))
     case measure=>rw [HG.out];omega
     case rel=>exact ⟨k+1,by omega,hkl,rfl,by go_num,HS2,rfl⟩
    |false =>
     have hld:cK x=false:=by rw [cK,h1,h2];rfl
     rw [h2] at HY;obtain ⟨t,ht⟩:∃ t,(l.drop p).takeWhile cK=t:=⟨_,rfl⟩
     have htt:(l.drop p).take (k-p)=t:=by rw [← ht,HS.out,sj hx hld,List.append_nil]
     have hkp:=key t ht htt.symm;have HNM:=aW ht;clear hx h1 h2 hld key ht;have hcv:(convert 67 9 (Zs (some ⟨b,o+p,none⟩) (k-p) (cap-p))).run Tryz.prog wr=.ok (Zt ⟨t.toArray⟩) wr:=by
      have h:=eT (w:=wr) (p:=p) (k:=k) hpk (by omega) hcap (gP HR1.out);rw [htt] at h;exact h
     have hpc:¬ cap=p:=by omega
     have HHK:=aW hkp;have HVN:=aW (show cU l p=if cO t then .inl (2,t,0,p+t.length) else if bc ⟨t.toArray⟩ then .inl (1,t,0,p+t.length) else .inr (p,320) by unfold cU;rw [HNM.out]);obtain ⟨bw,hbw⟩:∃ b,cO t=b:=⟨_,rfl⟩
     obtain ⟨bn,hbn⟩:∃ b,bc ⟨t.toArray⟩=b:=⟨_,rfl⟩
     have hWd:=λ w=>kt ⟨t.toArray⟩ w
     rw [eO,hbw] at hWd;have hNm:=λ w=>iM ⟨t.toArray⟩ w
     rw [hbn] at hNm;have HWd:=aW hWd;have HNm:=aW hNm;have HBW:=aW hbw;have HBN:=aW hbn;obtain ⟨cr,fr,lr⟩:=ht1.rules;clear hWd hNm hbw hbn hkp htt;go_wp2_with fail;refine (HX.out _).mono ?_;rintro e w1 ⟨rfl,rfl⟩;go_wp2_with fail;refine (HY.out _).mono ?_;rintro e w1 ⟨rfl,rfl⟩;go_wp2_with fail;cases bw with
     |true =>
      have HR:=aW (show cU l p=.inl (2,t,0,p+t.length) by rw [HVN.out,HBW.out];rfl);refine (HWd.out _).mono ?_;rintro e w1 ⟨rfl,rfl⟩;go_wp2;obtain ⟨cf,_,_⟩:=(ht1.put4 (Zi Zq 2) (Zi Zq p) (Zt ⟨t.toArray⟩) (Zi Zq 0)).rules;refine bodyPost_ret (v:=.tuple #[.agg #[Zi Zq 2,Zi Zq p,Zt ⟨t.toArray⟩,Zi Zq 0],Zi Zq k,Zi Zq 0]) (by simp only [results,Tryz.results89];go_simp) rfl ?_;rw [HR.out];exact ⟨by simp only [k8];rw [HHK.out],bu hb1 (Nat.le_refl _) _ _ _ _⟩
     |false =>
      refine (HWd.out _).mono ?_;rintro e w1 ⟨rfl,rfl⟩;go_wp2_with fail;cases bn with
      |true =>
       have HR:=aW (show cU l p=.inl (1,t,0,p+t.length) by rw [HVN.out,HBW.out,HBN.out];rfl);refine (HNm.out _).mono ?_;rintro e w1 ⟨rfl,rfl⟩;go_wp2;obtain ⟨cf,_,_⟩:=(ht1.put4 (Zi Zq 1) (Zi Zq p) (Zt ⟨t.toArray⟩) (Zi Zq 0)).rules;refine bodyPost_ret (v:=.tuple #[.agg #[Zi Zq 1,Zi Zq p,Zt ⟨t.toArray⟩,Zi Zq 0],Zi Zq k,Zi Zq 0]) (by simp only [results,Tryz.results89];go_simp) rfl ?_;rw [HR.out];exact ⟨by simp only [k8];rw [HHK.out],bu hb1 (Nat.le_refl _) _ _ _ _⟩
      |false =>
       have HR:=aW (show cU l p=.inr (p,320) by rw [HVN.out,HBW.out,HBN.out];rfl);refine (HNm.out _).mono ?_;rintro e w1 ⟨rfl,rfl⟩;go_wp2;obtain ⟨cf,_,_⟩:=(ht1.put4 (Zi Zq 0) (Zi Zq 0) (Zt ⟨#[]⟩) (Zi Zq 0)).rules;refine bodyPost_ret (v:=.tuple #[.agg #[Zi Zq 0,Zi Zq 0,Zt ⟨#[]⟩,Zi Zq 0],Zi Zq p,Zi Zq 320]) (by simp only [results,Tryz.results89];go_simp) rfl ?_;rw [HR.out];exact ⟨rfl,bu hb1 (Nat.le_refl _) _ _ _ _⟩
  ·obtain rfl:k=l.length:=by omega
   obtain ⟨t,ht⟩:∃ t,(l.drop p).takeWhile cK=t:=⟨_,rfl⟩
   have htt:(l.drop p).take (l.length-p)=t:=by rw [← ht,HS.out,uN (Nat.le_refl _),List.append_nil]
   have hkp:=key t ht htt.symm;have HNM:=aW ht;clear key ht;have hcv:(convert 67 9 (Zs (some ⟨b,o+p,none⟩) (l.length-p) (cap-p))).run Tryz.prog wr=.ok (Zt ⟨t.toArray⟩) wr:=by
    have h:=eT (w:=wr) (p:=p) (k:=l.length) hpk (by omega) hcap (gP HR1.out);rw [htt] at h;exact h
   have hpc:¬ cap=p:=by omega
   have HHK:=aW hkp;have HVN:=aW (show cU l p=if cO t then .inl (2,t,0,p+t.length) else if bc ⟨t.toArray⟩ then .inl (1,t,0,p+t.length) else .inr (p,320) by unfold cU;rw [HNM.out]);obtain ⟨bw,hbw⟩:∃ b,cO t=b:=⟨_,rfl⟩
   obtain ⟨bn,hbn⟩:∃ b,bc ⟨t.toArray⟩=b:=⟨_,rfl⟩
   have hWd:=λ w=>kt ⟨t.toArray⟩ w
   rw [eO,hbw] at hWd;have hNm:=λ w=>iM ⟨t.toArray⟩ w
   rw [hbn] at hNm;have HWd:=aW hWd;have HNm:=aW hNm;have HBW:=aW hbw;have HBN:=aW hbn;obtain ⟨cr,fr,lr⟩:=ht1.rules;clear hWd hNm hbw hbn hkp htt;go_wp2_with fail;cases bw with
   |true =>
    have HR:=aW (show cU l p=.inl (2,t,0,p+t.length) by rw [HVN.out,HBW.out];rfl);refine (HWd.out _).mono ?_;rintro e w1 ⟨rfl,rfl⟩;go_wp2;obtain ⟨cf,_,_⟩:=(ht1.put4 (Zi Zq 2) (Zi Zq p) (Zt ⟨t.toArray⟩) (Zi Zq 0)).rules;refine bodyPost_ret (v:=.tuple #[.agg #[Zi Zq 2,Zi Zq p,Zt ⟨t.toArray⟩,Zi Zq 0],Zi Zq l.length,Zi Zq 0]) (by simp only [results,Tryz.results89];go_simp) rfl ?_;rw [HR.out];exact ⟨by simp only [k8];rw [HHK.out],bu hb1 (Nat.le_refl _) _ _ _ _⟩
   |false =>
    refine (HWd.out _).mono ?_;rintro e w1 ⟨rfl,rfl⟩;go_wp2_with fail;cases bn with
    |true =>
     have HR:=aW (show cU l p=.inl (1,t,0,p+t.length) by rw [HVN.out,HBW.out,HBN.out];rfl);refine (HNm.out _).mono ?_;rintro e w1 ⟨rfl,rfl⟩;go_wp2;obtain ⟨cf,_,_⟩:=(ht1.put4 (Zi Zq 1) (Zi Zq p) (Zt ⟨t.toArray⟩) (Zi Zq 0)).rules;refine bodyPost_ret (v:=.tuple #[.agg #[Zi Zq 1,Zi Zq p,Zt ⟨t.toArray⟩,Zi Zq 0],Zi Zq l.length,Zi Zq 0]) (by simp only [results,Tryz.results89];go_simp) rfl ?_;rw [HR.out];exact ⟨by simp only [k8];rw [HHK.out],bu hb1 (Nat.le_refl _) _ _ _ _⟩
    |false =>
     have HR:=aW (show cU l p=.inr (p,320) by rw [HVN.out,HBW.out,HBN.out];rfl);refine (HNm.out _).mono ?_;rintro e w1 ⟨rfl,rfl⟩;go_wp2;obtain ⟨cf,_,_⟩:=(ht1.put4 (Zi Zq 0) (Zi Zq 0) (Zt ⟨#[]⟩) (Zi Zq 0)).rules;refine bodyPost_ret (v:=.tuple #[.agg #[Zi Zq 0,Zi Zq 0,Zt ⟨#[]⟩,Zi Zq 0],Zi Zq p,Zi Zq 320]) (by simp only [results,Tryz.results89];go_simp) rfl ?_;rw [HR.out];exact ⟨rfl,bu hb1 (Nat.le_refl _) _ _ _ _⟩
theorem nv {l:List UInt8} {e0 e:Nat} {pl:Bool} (h:fp l pl e0=(e,true,true)):e=e0/\pl=true:=by
 unfold fp at h;by_cases he:aB l e0 [101,69]=true
 ·rw [if_pos he] at h;generalize (if aB l (e0+1) [43,45]=true then e0+1+1 else e0+1)=X at h;by_cases hd:a0 l X=X
  ·rw [if_pos hd] at h;simp only [Prod.mk.injEq] at h;exact absurd h.2.1 (by decide)
  ·rw [if_neg hd] at h;simp only [Prod.mk.injEq] at h;exact absurd h.2.1 (by decide)
 ·rw [if_neg he] at h;simp only [Prod.mk.injEq] at h;exact ⟨h.1.symm,h.2.1⟩
theorem re {l:List UInt8} {e0 e:Nat} (h:d9 l e0=(e,true,true)):e=e0:=by
 unfold d9 at h;by_cases hf:aB l e0 [46]=true
 ·rw [if_pos hf] at h;by_cases hd:a0 l (e0+1)=e0+1
  ·rw [if_pos hd] at h;simp only [Prod.mk.injEq] at h;exact absurd h.2.1 (by decide)
  ·rw [if_neg hd] at h;exact absurd (nv h).2 (by decide)
 ·rw [if_neg hf] at h;exact (nv h).1
theorem qY {l:List UInt8} {p e:Nat} {c:UInt8} (hc:l[p]? = some c) (hd:aJ c=true) (h:jF l p=(e,true,true)) :
  p<e/\e<=l.length/\(∀ x ∈ (l.drop p).take (e-p),aJ x=true)/\(l.drop p).take (e-p)≠[]:=by
 have hlt:=(List.getElem?_eq_some_iff.1 hc).1;have hcr:48<=c.toNat/\c.toNat<=57:=of_decide_eq_true hd;have hm:aB l p [45]=false:=by
  rw [ew hc];have:c≠45:=λ e=>by rw [e] at hcr;exact absurd hcr (by decide)
  simpa using this
 have hs:aB l p [48,49,50,51,52,53,54,55,56,57]=true:=by rw [ew hc,rU c];exact hd
 have hde:p<a0 l p:=by
  rw [ii hs];have:=(fj l (p+1)).1;omega
 have he:e=if aB l p [48] then p+1 else a0 l p:=by
  unfold jF gm at h;rw [hm] at h;simp only [Bool.false_eq_true,if_false] at h;rw [if_neg (by omega)] at h;exact re h
 have hle:e<=l.length:=by rw [he];split;omega;exact (fj l p).2 (by omega)
 have hpe:p<e:=by rw [he];split<;>omega
 refine ⟨hpe,hle,?_,?_⟩
 ·intro x hx;by_cases hz:aB l p [48]=true
  ·rw [if_pos hz] at he;subst he;rw [show p+1-p=1 from by omega,List.drop_eq_getElem_cons hlt] at hx;have:l[p]=c:=(List.getElem?_eq_some_iff.1 hc).2;rw [this] at hx;simp at hx;rw [hx];exact hd
  ·rw [if_neg hz] at he;subst he;unfold a0 at hx;rw [show p+(cv l p).length-p=(cv l p).length from by omega,nt] at hx;exact pF l p x hx
 ·intro e0;have:=congrArg List.length e0;simp at this;omega
theorem o8 (v:Value) (l:List UInt8) (p:Nat) (c:UInt8) (w:World) (hv:BS w v l) (hl:l.length<=4194304) (hc:l[p]? = some c) (hk0:ay c=false) (hk:aJ c=true) :
  Calls Tryz.prog 89 #[v,Zi Zq p] w (gK (di l p) p w):=by
 rw [uU hc hk];have hp:=(List.getElem?_eq_some_iff.1 hc).1;obtain ⟨A,cap,rfl,hcap,hr⟩:=hv;obtain ⟨b,o,rfl,hb⟩:=hr.some_ (by omega);obtain ⟨W1,hW1⟩:∃ W1,w.alloc (.cells #[Zi Zq 0,Zi Zq 0,Zt ⟨#[]⟩,Zi Zq 0] 86)=W1:=⟨_,rfl⟩
 have hr1:Rd W1 (some ⟨b,o,none⟩) (aq l):=by rw [← hW1];exact hr.alloc _
 have ht1:Blk W1 w.heap.size 86 #[Zi Zq 0,Zi Zq 0,Zt ⟨#[]⟩,Zi Zq 0]:=by rw [← hW1];exact Blk.new _ _ _
 have hb1:Below w.heap.size w W1:=by rw [← hW1];exact (Below.refl _ w).alloc (Nat.le_refl _) _
 have HR1:=aW hr1;have hx:=BS.at_ (n:=0) (cap:=0) hr1 hc;have HC:=aW (eI c);rw [hk0] at HC;have HD:=aW (fy c);rw [hk] at HD;have HE:=aW (vm (Zs (some ⟨b,o,none⟩) l.length cap) l p W1 ⟨_,_,rfl,hcap,HR1.out⟩ hl (by omega));have hpl:=λ e=>qY (e:=e) hc hk
 obtain ⟨⟨e,pl,rt⟩,hr3⟩:∃ r,jF l p=r:=⟨_,rfl⟩
 rw [hr3] at HE hpl;obtain ⟨r,hrr⟩:∃ r,pa l p=r:=⟨_,rfl⟩
 rw [hrr];have hrd:r=if rt=false then .inr ((e:Int),7) else if pl=false then .inr ((p:Int),130) else match dP false (a8 ((l.drop p).take (e-p))) with
   | some n=>.inl (3,(l.drop p).take (e-p),n,e) | none=>.inr ((p:Int),130):=by rw [← hrr,pa,hr3];rfl
 have HRD:=aW hrd;have HPL:=aW hpl;clear hc hr hr1 hr3 hrr hrd hpl hk hk0;go_enter Tryz.func89,Tryz.ntmps89;go_wp2_with fail;clear hW1;refine (HC.out _).mono ?_;rintro e w1 ⟨rfl,rfl⟩;go_wp2_with fail;refine (HD.out _).mono ?_;rintro e w1 ⟨rfl,rfl⟩;go_wp2_with fail;refine HE.out.mono ?_;rintro e1 w1 ⟨rfl,q,rfl⟩;have ht2:=ht1.drewN q;have hb2:Below w.heap.size w (W1.drewN q):=aj hb1 q;have hr2:=HR1.out.drewN q;obtain ⟨W2,hW2⟩:∃ W2,W1.drewN q=W2:=⟨_,rfl⟩
 rw [hW2] at ht2 hb2 hr2 ⊢;have HR2:=aW hr2;clear hW2 hr2 ht1 hb1 hx;obtain ⟨cr,fr,lr⟩:=ht2.rules;cases rt with
 |false =>
  have HR:=aW (show r=.inr ((e:Int),7) by rw [HRD.out,if_pos rfl]);go_wp2;obtain ⟨cf,_,_⟩:=(ht2.put4 (Zi Zq 0) (Zi Zq 0) (Zt ⟨#[]⟩) (Zi Zq 0)).rules;refine bodyPost_ret (v:=.tuple #[.agg #[Zi Zq 0,Zi Zq 0,Zt ⟨#[]⟩,Zi Zq 0],Zi Zq e,Zi Zq 7]) (by simp only [results,Tryz.results89];go_simp) rfl ?_;rw [HR.out];exact ⟨rfl,bu hb2 (Nat.le_refl _) _ _ _ _⟩
 |true =>
  cases pl with
  |false =>
   have HR:=aW (show r=.inr ((p:Int),130) by rw [HRD.out,if_neg (by simp),if_pos rfl]);go_wp2;obtain ⟨cf,_,_⟩:=(ht2.put4 (Zi Zq 0) (Zi Zq 0) (Zt ⟨#[]⟩) (Zi Zq 0)).rules;refine bodyPost_ret (v:=.tuple #[.agg #[Zi Zq 0,Zi Zq 0,Zt ⟨#[]⟩,Zi Zq 0],Zi Zq p,Zi Zq 130]) (by simp only [results,Tryz.results89];go_simp) rfl ?_;rw [HR.out];exact ⟨rfl,bu hb2 (Nat.le_refl _) _ _ _ _⟩
  |true =>
   obtain ⟨hpe,hel,hdig,hne⟩:=HPL.out e rfl;have hpc:¬ cap=p:=by omega
   have hec:e<=cap:=by omega
   have hlen:((l.drop p).take (e-p)).length=e-p:=by rw [List.length_take,List.length_drop];omega
   have hbs:BS W2 (Zs (some ⟨b,o+p,none⟩) (e-p) (cap-p)) ((l.drop p).take (e-p)):=⟨_,_,by rw [hlen],by rw [hlen];omega,gP HR2.out⟩
   have hcv:=hbs.conv;have hN:=qo _ _ W2 hbs (by rw [hlen];omega) hdig hne;have hrd2:r=match dP false (a8 ((l.drop p).take (e-p))) with | some n=>.inl (3,(l.drop p).take (e-p),n,e) | none=>.inr ((p:Int),130):=by rw [HRD.out,if_neg (by simp),if_neg (by simp)]
   obtain ⟨t,ht⟩:∃ t,(l.drop p).take (e-p)=t:=⟨_,rfl⟩
   rw [ht] at hcv hN hrd2;obtain ⟨f,hf⟩:∃ f,dP false (a8 t)=f:=⟨_,rfl⟩
   rw [hf] at hN hrd2;have HN:=aW hN;have HRR:=aW hrd2;clear hN hrd2 hf ht hlen hbs hdig hne;cases f with
   |none =>
    have HR:=aW (show r=.inr ((p:Int),130) by rw [HRR.out]);go_wp2_with fail;refine HN.out.mono ?_;rintro e1 w1 ⟨rfl,rfl⟩;go_wp2;obtain ⟨cf,_,_⟩:=(ht2.put4 (Zi Zq 0) (Zi Zq 0) (Zt ⟨#[]⟩) (Zi Zq 0)).rules;refine bodyPost_ret (v:=.tuple #[.agg #[Zi Zq 0,Zi Zq 0,Zt ⟨#[]⟩,Zi Zq 0],Zi Zq p,Zi Zq 130]) (by simp only [results,Tryz.results89];go_simp) rfl ?_;rw [HR.out];exact ⟨rfl,bu hb2 (Nat.le_refl _) _ _ _ _⟩
   |some n =>
    have HR:=aW (show r=.inl (3,t,n,e) by rw [HRR.out]);go_wp2_with fail;refine HN.out.mono ?_;rintro e1 w1 ⟨rfl,rfl⟩;go_wp2;obtain ⟨cf,_,_⟩:=(ht2.put4 (Zi Zq 3) (Zi Zq p) (Zt ⟨t.toArray⟩) (Zi Zq n)).rules;refine bodyPost_ret (v:=.tuple #[.agg #[Zi Zq 3,Zi Zq p,Zt ⟨t.toArray⟩,Zi Zq n],Zi Zq e,Zi Zq 0]) (by simp only [results,Tryz.results89];go_simp) rfl ?_;rw [HR.out];exact ⟨rfl,bu hb2 (Nat.le_refl _) _ _ _ _⟩
theorem xS {xs:List (Int × Int)} (h:∀ x ∈ xs,∃ p m:Nat,x=((p:Int),(m:Int))/\bJ p≠0) :
  ∃ cs:List Nat,xs.map Prod.fst=(cs.map λ n:Nat=>(n:Int))/\(∀ c ∈ cs,eV (c:Int)=true)/\cs.flatMap ah=bv xs:=by
 induction xs with
 | nil=>exact ⟨[],rfl,by simp,rfl⟩
 |cons x r ih =>
  obtain ⟨p,m,rfl,hp⟩:=h x List.mem_cons_self;obtain ⟨cs,h1,h2,h3⟩:=ih (λ y hy=>h y (List.mem_cons_of_mem _ hy));refine ⟨p::cs,by simp [h1],?_,?_⟩
  ·intro c hc;rcases List.mem_cons.1 hc with rfl | hc
   ·rw [ec];have:¬ (1114111<c∨(55296<=c/\c<=57343)):=λ e=>hp ((bN c 0).2 (.inl ⟨rfl,e⟩))
    omega
   ·exact h2 c hc
  ·rw [List.flatMap_cons,h3];simp [bv]
theorem kS (l:List UInt8):∀ (k a:Nat),(dg l k a).length<=k
 | 0,_=>by simp [dg]
 |k+1,a=>by
  unfold dg;split
  ·have:=kS l k (qsS l a).2.1.toNat;simp;omega
  ·simp
theorem tJ {l:List UInt8} {p:Nat} (hp:p<l.length) (hl:l.length<=4194304):(aC l (p+1)).length<=4194304:=by
 have:=kS l (l.length-(p+1)) (p+1);unfold aC;omega
theorem m7 (v:Value) (l:List UInt8) (p:Nat) (w:World) (hv:BS w v l) (hl:l.length<=4194304) (hc:l[p]? = some 34) :
  Calls Tryz.prog 89 #[v,Zi Zq p] w (gK (fO l p) p w):=by
 have hp:=(List.getElem?_eq_some_iff.1 hc).1;obtain ⟨A,cap,rfl,hcap,hr⟩:=hv;obtain ⟨b,o,rfl,hb⟩:=hr.some_ (by omega);obtain ⟨W1,hW1⟩:∃ W1,w.alloc (.cells #[Zi Zq 0,Zi Zq 0,Zt ⟨#[]⟩,Zi Zq 0] 86)=W1:=⟨_,rfl⟩
 have hr1:Rd W1 (some ⟨b,o,none⟩) (aq l):=by rw [← hW1];exact hr.alloc _
 have ht1:Blk W1 w.heap.size 86 #[Zi Zq 0,Zi Zq 0,Zt ⟨#[]⟩,Zi Zq 0]:=by rw [← hW1];exact Blk.new _ _ _
 have hb1:Below w.heap.size w W1:=by rw [← hW1];exact (Below.refl _ w).alloc (Nat.le_refl _) _
 have hx:=BS.at_ (n:=0) (cap:=0) hr1 hc;have HC:=aW (show ∀ w,Calls Tryz.prog 88 #[Zi .u8 34,Zt ⟨#[97,98,99,100,101,102,103,104,105,106,107,108,109,110,111,112,113,114,115,116,117,118,119,120,121,122]⟩] w λ e w'=>e=.returned (.bool false)/\w=w' from eI 34);have HD:=aW (show ∀ w,Calls Tryz.prog 88 #[Zi .u8 34,Zt ⟨#[48,49,50,51,52,53,54,55,56,57]⟩] w λ e w'=>e=.returned (.bool false)/\w=w' from fy 34);have hR0:=vw (Zs (some ⟨b,o,none⟩) l.length cap) l p W1 ⟨_,_,rfl,hcap,hr1⟩ hl hc;have hq:fO l p=if (bZ l p).2.2=0 then .inl (4,(bZ l p).1,0,(bZ l p).2.1.toNat) else .inr ((bZ l p).2.1,(bZ l p).2.2):=rfl
 obtain ⟨_,hsp⟩:True/\_:=⟨trivial,iO (l:=l) (l.length-(p+1)) (p+1) (aC l (p+1)) (Nat.le_refl _) (List.prefix_refl _) hp⟩
 obtain ⟨cs,hcs1,hcs2,hcs3⟩:=xS hsp.1;have hby:(bZ l p).2.2=0->(bZ l p).1=bv (aC l (p+1))/\∃ m:Nat,(bZ l p).2.1=m:=λ h=>by
  obtain ⟨m,hm,_⟩:=mn h;refine ⟨?_,m,hm⟩;have:=jQ hc rfl rfl;rw [this] at h ⊢;split
  ·rfl
  ·rename_i hn
   rw [if_neg hn] at h;exfalso;have hnil:aC l (eW (p+1) (aC l (p+1)))=[]:=by
    have h2:=hsp.2.2.2;exact (List.append_right_eq_self.1 h2.symm)
   have hle:=hsp.2.2.1;simp only at h;unfold fM at h;rw [if_neg (by omega)] at h;by_cases he:eW (p+1) (aC l (p+1))=l.length
   ·rw [if_pos (by omega)] at h;exact absurd h (by decide)
   ·rw [if_neg (by omega),Int.toNat_natCast] at h;exact ql hnil (by omega) h
 obtain ⟨⟨by_,pl,er⟩,hqr⟩:∃ r,bZ l p=r:=⟨_,rfl⟩
 have hlen:(aC l (p+1)).length<=4194304:=tJ hp hl;unfold nf at hR0;rw [hqr] at hR0 hq hby;simp only at hq hby hR0;have hcl:cs.length<=4194304:=by have:=congrArg List.length hcs1;simp at this;omega
 rw [hcs1] at hR0;obtain ⟨r,hrt⟩:∃ r,fO l p=r:=⟨_,rfl⟩
 rw [hrt] at hq ⊢;have HQ:=aW hq;have HR0:=aW hR0;have HBY:=aW hby;have HCS:=aW hcs2;have HCS3:=aW hcs3;clear hrt hc hr hr1 hR0 hq hsp hcs1 hcs2 hby hqr hlen;go_enter Tryz.func89,Tryz.ntmps89;go_wp2_with fail;clear hW1;refine (HC.out _).mono ?_;rintro e w1 ⟨rfl,rfl⟩;go_wp2_with fail;refine (HD.out _).mono ?_;rintro e w1 ⟨rfl,rfl⟩;go_wp2_with fail;refine HR0.out.mono ?_;rintro e1 w1 ⟨⟨v1,rfl,hv1⟩,hbr⟩;have ht2:=ht1.keep hbr;have hb2:Below w.heap.size w w1:=hb1.trans (hbr.mono hb1.size);have HV1:=aW hv1;clear hv1 ht1 hb1 hx hbr;obtain ⟨cr,fr,lr⟩:=ht2.rules;by_cases her:er=0
 ·subst her;obtain ⟨hb,m,hm⟩:=HBY.out rfl;subst hm;have hT:=tG v1 cs w1 (IS.of_own rfl (HV1.out rfl)) hcl HCS.out;rw [HCS3.out,← hb] at hT;have HT:=aW hT;clear hT hb;have HR:=aW (show r=.inl (4,by_,0,m) by rw [HQ.out,if_pos rfl,Int.toNat_natCast]);go_wp2_with fail;refine HT.out.mono ?_;rintro e1 w2 ⟨rfl,hbt⟩;have ht3:=ht2.keep hbt;have hb3:Below w.heap.size w w2:=hb2.trans (hbt.mono hb2.size);clear cr fr lr;obtain ⟨cr,fr,lr⟩:=ht3.rules;go_wp2;obtain ⟨cf,_,_⟩:=(ht3.put4 (Zi Zq 4) (Zi Zq p) (Zt ⟨by_.toArray⟩) (Zi Zq 0)).rules;refine bodyPost_ret (v:=.tuple #[.agg #[Zi Zq 4,Zi Zq p,Zt ⟨by_.toArray⟩,Zi Zq 0],Zi Zq m,Zi Zq 0]) (by simp only [results,Tryz.results89];go_simp) rfl ?_;rw [HR.out];exact ⟨rfl,bu hb3 (Nat.le_refl _) _ _ _ _⟩
 ·have her':(er != 0)=true:=by simpa using her
  have HR:=aW (show r=.inr (pl,er) by rw [HQ.out,if_neg her]);go_wp2;obtain ⟨cf,_,_⟩:=(ht2.put4 (Zi Zq 0) (Zi Zq 0) (Zt ⟨#[]⟩) (Zi Zq 0)).rules;refine bodyPost_ret (v:=.tuple #[.agg #[Zi Zq 0,Zi Zq 0,Zt ⟨#[]⟩,Zi Zq 0],Zi Zq pl,Zi Zq er]) (by simp only [results,Tryz.results89];go_simp) rfl ?_;rw [HR.out];exact ⟨rfl,bu hb2 (Nat.le_refl _) _ _ _ _⟩
def qs:List UInt8:=[61,61,32,60,61,32,60,32,59,32,46,32,44,32,91,32,93,32,40,32,41,32,123,32,125,32,43,32,45,32,42]
theorem mz:eX qs []=aF:=by decide
theorem mt (t:List UInt8) (w:World) {bb:Bool} (h:decide (t ∈ aF)=bb):Calls Tryz.prog 144 #[Zt ⟨t.toArray⟩,Zt ⟨#[61,61,32,60,61,32,60,32,59,32,46,32,44,32,91,32,93,32,40,32,41,32,123,32,125,32,43,32,45,32,42]⟩] w
  λ e w'=>e=.returned (.bool bb)/\w=w':=by
 have:=mo ⟨t.toArray⟩ ⟨qs.toArray⟩ w (by decide);rw [eO,eO,mz,h] at this;exact this
theorem jG {l:List UInt8} {p:Nat} (hp:p<l.length):∀ ss:List (List UInt8),(∀ s ∈ ss,s.length=1)->cE l p ss=if (l.drop p).take 1 ∈ ss then some ((l.drop p).take 1) else none
 | [],_=>by simp [cE]
 |s::r,h=>by
  have h1:=h s List.mem_cons_self;have ih:=jG hp r (λ x hx=>h x (List.mem_cons_of_mem _ hx));unfold cE cP;rw [h1,ih];by_cases he:(l.drop p).take 1=s
  ·rw [if_pos (by simpa using he),if_pos (by rw [he];exact List.mem_cons_self),he]
  ·rw [if_neg (by simpa using he)];by_cases hm:(l.drop p).take 1 ∈ r
   ·rw [if_pos hm,if_pos (List.mem_cons_of_mem _ hm)]
   ·rw [if_neg hm,if_neg (by intro h;rcases List.mem_cons.1 h with h | h;exact he h;exact hm h)]
theorem vD {l:List UInt8} {p:Nat} (hp:p<l.length) :
  eU l p=if p+2<=l.length/\(l.drop p).take 2 ∈ aF then .inl (5,(l.drop p).take 2,0,p+2) else if (l.drop p).take 1 ∈ aF then .inl (5,(l.drop p).take 1,0,p+1) else .inr ((p:Int),320):=by
 have h1l:((l.drop p).take 1).length=1:=by rw [List.length_take,List.length_drop];omega
 have hs:aF=[61,61]::[60,61]::aF.drop 2:=rfl;have hones:∀ s ∈ aF.drop 2,s.length=1:=by decide
 have htwo:∀ s ∈ aF,s.length=2->s=[61,61]∨s=[60,61]:=by decide
 have hf:cE l p aF=if (l.drop p).take 2=[61,61] then some [61,61] else if (l.drop p).take 2=[60,61] then some [60,61] else cE l p (aF.drop 2):=by
  rw [hs];show (if cP l p [61,61]=true then _ else _)=_
  unfold cP;simp only [List.length_cons,List.length_nil,Nat.zero_add,Nat.reduceAdd,decide_eq_true_eq];rw [cE];unfold cP;simp only [List.length_cons,List.length_nil,Nat.zero_add,Nat.reduceAdd,decide_eq_true_eq];rfl
 unfold eU;by_cases h2:p+2<=l.length/\(l.drop p).take 2 ∈ aF
 ·rw [if_pos h2,hf];have hl2:((l.drop p).take 2).length=2:=by rw [List.length_take,List.length_drop];omega
  rcases htwo _ h2.2 hl2 with e | e
  ·rw [if_pos e,e];rfl
  ·rw [if_neg (by rw [e];decide),if_pos e,e];rfl
 ·rw [if_neg h2,hf];have hn1:¬ (l.drop p).take 2=[61,61]:=λ e=>h2 ⟨by have:=congrArg List.length e;simp at this;omega,by rw [e];decide⟩
  have hn2:¬ (l.drop p).take 2=[60,61]:=λ e=>h2 ⟨by have:=congrArg List.length e;simp at this;omega,by rw [e];decide⟩
  rw [if_neg hn1,if_neg hn2,jG hp _ hones];have hiff:(l.drop p).take 1 ∈ aF ↔ (l.drop p).take 1 ∈ aF.drop 2:=by
   constructor
   ·intro h;rw [hs] at h;rcases List.mem_cons.1 h with e | h
    ·rw [e] at h1l;simp at h1l
    ·rcases List.mem_cons.1 h with e | h
     ·rw [e] at h1l;simp at h1l
     ·exact h
   ·exact λ h=>List.mem_of_mem_drop h
  by_cases h1:(l.drop p).take 1 ∈ aF
  ·rw [if_pos h1,if_pos (hiff.1 h1)];simp only;rw [h1l]
  ·rw [if_neg h1,if_neg (λ h=>h1 (hiff.2 h))]
theorem mZ (v:Value) (l:List UInt8) (p:Nat) (c:UInt8) (w:World) (hv:BS w v l) (hl:l.length<=4194304) (hc:l[p]? = some c) (hk0:ay c=false) (hk1:aJ c=false) (hk2:c.toNat≠34) :
  Calls Tryz.prog 89 #[v,Zi Zq p] w (gK (eU l p) p w):=by
 have hp:=(List.getElem?_eq_some_iff.1 hc).1;obtain ⟨A,cap,rfl,hcap,hr⟩:=hv;obtain ⟨b,o,rfl,hb⟩:=hr.some_ (by omega);obtain ⟨W1,hW1⟩:∃ W1,w.alloc (.cells #[Zi Zq 0,Zi Zq 0,Zt ⟨#[]⟩,Zi Zq 0] 86)=W1:=⟨_,rfl⟩
 have hr1:Rd W1 (some ⟨b,o,none⟩) (aq l):=by rw [← hW1];exact hr.alloc _
 have ht1:Blk W1 w.heap.size 86 #[Zi Zq 0,Zi Zq 0,Zt ⟨#[]⟩,Zi Zq 0]:=by rw [← hW1];exact Blk.new _ _ _
 have hb1:Below w.heap.size w W1:=by rw [← hW1];exact (Below.refl _ w).alloc (Nat.le_refl _) _
 have hx:=BS.at_ (n:=0) (cap:=0) hr1 hc;have HC:=aW (eI c);rw [hk0] at HC;have HD:=aW (fy c);rw [hk1] at HD;have hne:((c.toNat:Int) == 34)=false:=by simp;omega
 obtain ⟨b2,hb2⟩:∃ b,decide ((l.drop p).take 2 ∈ aF)=b:=⟨_,rfl⟩
 obtain ⟨b1',hb1'⟩:∃ b,decide ((l.drop p).take 1 ∈ aF)=b:=⟨_,rfl⟩
 have H2:=aW (λ w=>mt ((l.drop p).take 2) w hb2);have H1:=aW (λ w=>mt ((l.drop p).take 1) w hb1');have hpc:¬ cap=p:=by omega
 have hcv1:(convert 67 9 (Zs (some ⟨b,o+p,none⟩) 1 (cap-p))).run Tryz.prog W1=.ok (Zt ⟨((l.drop p).take 1).toArray⟩) W1:=by
  have h:=eT (w:=W1) (p:=p) (k:=p+1) (by omega) (by omega) hcap (gP hr1);rw [show p+1-p=1 from by omega] at h;exact h
 have hcv2:p+2<=l.length->(convert 67 9 (Zs (some ⟨b,o+p,none⟩) 2 (cap-p))).run Tryz.prog W1=.ok (Zt ⟨((l.drop p).take 2).toArray⟩) W1:=λ h2=>by
  have h:=eT (w:=W1) (p:=p) (k:=p+2) (by omega) h2 hcap (gP hr1);rw [show p+2-p=2 from by omega] at h;exact h
 obtain ⟨r,hrr⟩:∃ r,eU l p=r:=⟨_,rfl⟩
 rw [hrr];have hrs:=vD hp;rw [hrr] at hrs;obtain ⟨t2,ht2⟩:∃ t,(l.drop p).take 2=t:=⟨_,rfl⟩
 obtain ⟨t1,ht1'⟩:∃ t,(l.drop p).take 1=t:=⟨_,rfl⟩
 rw [ht2] at hrs hb2 hcv2 H2;rw [ht1'] at hrs hb1' hcv1 H1;have HRS:=aW hrs;have HB2:=aW hb2;have HB1:=aW hb1';have HCV2:=aW hcv2;obtain ⟨cr,fr,lr⟩:=ht1.rules;have e1:p+1-p=1:=by omega
 have e2:p+2-p=2:=by omega
 clear hc hr hr1 hk0 hk1 hk2 hrr hrs ht2 ht1' hb2 hb1' hcv2;go_enter Tryz.func89,Tryz.ntmps89;go_wp2_with fail;clear hW1;refine (HC.out _).mono ?_;rintro e w1 ⟨rfl,rfl⟩;go_wp2_with fail;refine (HD.out _).mono ?_;rintro e w1 ⟨rfl,rfl⟩;go_wp2_with fail;go_loopg [20] 3 (λ gk s20 wr => ∃ n:Nat,n<=2/\gk=n+1/\s20=Zi Zq n/\wr=W1/\(n<=1->Hid (¬ (p+2<=l.length/\t2 ∈ aF)))/\(n=0->Hid (t1 ∉ aF)))
 case atStart=>exact ⟨2,Nat.le_refl _,rfl,rfl,rfl,λ h=>by omega,λ h=>by omega⟩
 case round =>
  obtain ⟨n,hn,hgk,rfl,rfl,hno2,hno1⟩:=hrel;have HG:=aW hgk;have HN2:=aW hno2;have HN1:=aW hno1;clear hgk hno2 hno1;rcases (by omega:n=0∨n=1∨n=2) with rfl | rfl | rfl
  ·have HR:=aW (show r=.inr ((p:Int),320) by rw [HRS.out,if_neg (HN2.out (by omega)).out,if_neg (HN1.out rfl).out]);clear hcv1;go_wp2;obtain ⟨cf,_,_⟩:=(ht1.put4 (Zi Zq 0) (Zi Zq 0) (Zt ⟨#[]⟩) (Zi Zq 0)).rules;refine bodyPost_ret (v:=.tuple #[.agg #[Zi Zq 0,Zi Zq 0,Zt ⟨#[]⟩,Zi Zq 0],Zi Zq p,Zi Zq 320]) (by simp only [results,Tryz.results89];go_simp) rfl ?_;rw [HR.out];exact ⟨rfl,bu hb1 (Nat.le_refl _) _ _ _ _⟩
  ·have hle:(p:Int)+1<=(l.length:Int):=by omega
   have h1c:p+1<=cap:=by omega
   cases hbb:b1' with
   |true =>
    have HR:=aW (show r=.inl (5,t1,0,p+1) by rw [HRS.out,if_neg (HN2.out (by omega)).out,if_pos (of_decide_eq_true (HB1.out.trans hbb))]);subst hbb;go_wp2_with fail;refine (H1.out _).mono ?_;rintro e w1 ⟨rfl,rfl⟩;go_wp2;obtain ⟨cf,_,_⟩:=(ht1.put4 (Zi Zq 5) (Zi Zq p) (Zt ⟨t1.toArray⟩) (Zi Zq 0)).rules;refine bodyPost_ret (v:=.tuple #[.agg #[Zi Zq 5,Zi Zq p,Zt ⟨t1.toArray⟩,Zi Zq 0],Zi Zq ((p:Int)+1),Zi Zq 0]) (by simp only [results,Tryz.results89];go_simp) rfl ?_;rw [HR.out];exact ⟨rfl,bu hb1 (Nat.le_refl _) _ _ _ _⟩
   |false =>
    have HNN:=aW (show t1 ∉ aF from of_decide_eq_false (HB1.out.trans hbb));subst hbb;go_wp2_with fail;refine (H1.out _).mono ?_;rintro e w1 ⟨rfl,rfl⟩;go_wp2_with fail;go_roundg (0+1)
    case measure=>rw [HG.out];omega
    case rel=>exact ⟨0,by omega,rfl,rfl,rfl,λ _=>HN2.out (by omega),λ _=>HNN⟩
  ·by_cases h2:p+2<=l.length
   ·have hle:(p:Int)+2<=(l.length:Int):=by omega
    have h2c:p+2<=cap:=by omega
    have hcv2:=HCV2.out h2;cases hbb:b2 with
    |true =>
     have HR:=aW (show r=.inl (5,t2,0,p+2) by rw [HRS.out,if_pos ⟨h2,of_decide_eq_true (HB2.out.trans hbb)⟩]);subst hbb;go_wp2_with fail;refine (H2.out _).mono ?_;rintro e w1 ⟨rfl,rfl⟩;go_wp2;obtain ⟨cf,_,_⟩:=(ht1.put4 (Zi Zq 5) (Zi Zq p) (Zt ⟨t2.toArray⟩) (Zi Zq 0)).rules;refine bodyPost_ret (v:=.tuple #[.agg #[Zi Zq 5,Zi Zq p,Zt ⟨t2.toArray⟩,Zi Zq 0],Zi Zq ((p:Int)+2),Zi Zq 0]) (by simp only [results,Tryz.results89];go_simp) rfl ?_;rw [HR.out];exact ⟨rfl,bu hb1 (Nat.le_refl _) _ _ _ _⟩
    |false =>
     have HNN:=aW (show ¬ (p+2<=l.length/\t2 ∈ aF) from λ h=>of_decide_eq_false (HB2.out.trans hbb) h.2);subst hbb;go_wp2_with fail;refine (H2.out _).mono ?_;rintro e w1 ⟨rfl,rfl⟩;go_wp2_with fail;go_roundg (1+1)
     case measure=>rw [HG.out];omega
     case rel=>exact ⟨1,by omega,rfl,rfl,rfl,λ _=>HNN,λ h=>by omega⟩
   ·have hgt:(l.length:Int)<(p:Int)+2:=by omega
    have HNN:=aW (show ¬ (p+2<=l.length/\t2 ∈ aF) from λ h=>h2 h.1);go_wp2_with fail;go_roundg (1+1)
    case measure=>rw [HG.out];omega
    case rel=>exact ⟨1,by omega,rfl,rfl,rfl,λ _=>HNN,λ h=>by omega⟩
theorem tF (v:Value) (l:List UInt8) (p:Nat) (w:World) (hv:BS w v l) (hl:l.length<=4194304) (hp:p<l.length) :
  Calls Tryz.prog 89 #[v,Zi Zq p] w (gK (cV l p) p w):=by
 obtain ⟨c,hc⟩:∃ c,l[p]? = some c:=⟨_,List.getElem?_eq_getElem hp⟩
 unfold cV;rw [hc];simp only;cases h1:ay c with
 | true=>exact mY v l p c w hv hl hc h1
 |false =>
  cases h2:aJ c with
  | true=>exact o8 v l p c w hv hl hc h1 h2
  |false =>
   by_cases h3:c.toNat=34
   ·simp only [Bool.false_eq_true,if_false];rw [if_pos h3];obtain rfl:c=34:=UInt8.toNat_inj.1 (by simpa using h3);exact m7 v l p w hv hl hc
   ·simp only [Bool.false_eq_true,if_false];rw [if_neg h3];exact mZ v l p c w hv hl hc h1 h2 h3
theorem pw (c:UInt8):([32,9,10,13]:List UInt8).contains c=cn c:=by
 have:=rT (p:=λ c=>([32,9,10,13]:List UInt8).contains c == cn c) (by decide +kernel) c;simpa using this
theorem rG (c:UInt8) (w:World):Calls Tryz.prog 88 #[Zi .u8 c.toNat,Zt ⟨#[32,9,10,13]⟩] w λ e w'=>e=.returned (.bool (cn c))/\w=w':=by
 have:=mr c ⟨[32,9,10,13].toArray⟩ w (by decide);rw [eO,pw] at this;exact this
theorem qx (W:World) (x:ap):∀ j u,(gX x)[j]? = some u->(W.alloc (.cells #[Zi Zq x.1,Zi Zq x.2.1,Zt ⟨x.2.2.1.toArray⟩,Zi Zq x.2.2.2] 86)).cell? ((⟨W.heap.size,0,none⟩:Addr).add j)=some u:=by
 obtain ⟨ad,e,h⟩:=(Rd.of_blk (Blk.new W 86 #[Zi Zq x.1,Zi Zq x.2.1,Zt ⟨x.2.2.1.toArray⟩,Zi Zq x.2.2.2])).at_ (by simp);cases e
 exact h
theorem sL (x:ap):∀ u ∈ gX x,u.oneCell'=true:=by have:=jY [x];simpa [aG] using this
theorem zK {l:List UInt8} (hl:l.length<=512) {ts:List ap} (h:bH l 0=(ts,none)):ey l=(ts,0,0):=by
 unfold ey;rw [if_neg (by omega),h]
theorem zJ {l:List UInt8} (hl:l.length<=512) {e:Int × Int} (h:(bH l 0).2=some e):ey l=([],e.1,e.2):=by
 unfold ey;rw [if_neg (by omega),h]
theorem wV (s:ByteArray) (w:World) (hs:s.size<=512):Calls Tryz.prog 52 #[Zt s] w (fC (ey (sl s)) w):=by
 obtain ⟨i0,hi,hz0,hz1,hz2⟩:=info_parts se;obtain ⟨cap,W1,hcv,hcap,hb1,hs1,hr1⟩:=fm (P:=Tryz.prog) w 9 67 5 s Tryz.underlying9 Tryz.underlying67 Tryz.underlying5;rw [← bL s] at hcap;have hlen:(sl s).length<=512:=by rw [bL];exact hs
 obtain ⟨l,hl⟩:∃ l,sl s=l:=⟨_,rfl⟩
 have hsz:s.size=l.length:=by rw [← hl,bL]
 rw [hl] at hr1 hcap hlen ⊢;rw [hsz] at hcv;have hs512:(s.size:Int)<=512:=by omega
 obtain ⟨r,hr0⟩:∃ r,ey l=r:=⟨_,rfl⟩
 rw [hr0];have HR0:=aW hr0;clear hsz hl hs hr0;have HR:=aW hr1;have HB1:=aW hb1;clear hr1 hb1;go_enter Tryz.func52,Tryz.ntmps52;go_wp2;go_loopg [6,7] (l.length+1) (λ gk s6 s7 wr => ∃ (p:Nat) (pre:List ap),p<=l.length/\gk=l.length+1-p/\s7=Zi Zq p/\wr.ownsRow (w.heap.size+1) 86 4 s6 pre.length (aG pre)/\Below w.heap.size w wr/\Hid (Rd wr (some ⟨w.heap.size,0,none⟩) (aq l)) /\
  w.heap.size+1<=wr.heap.size/\pre.length<=p/\Hid ((bH l 0).1=pre++(bH l p).1/\(bH l 0).2=(bH l p).2))
 case atStart=>exact ⟨0,[],Nat.zero_le _,rfl,rfl,World.ownsRow_nil _ _ _ _,HB1.out,HR,by omega,Nat.le_refl _,aW ⟨rfl,rfl⟩⟩
 case round =>
  obtain ⟨p,pre,hp,hgk,rfl,hown,hbw,HRW,hsw,hpl,HT⟩:=hrel;have HG:=aW hgk;clear hgk;obtain ⟨q,hq⟩:∃ q,bV l p=q:=⟨_,rfl⟩
  have hql:q<=l.length:=by rw [← hq];exact mB hp
  have hpq:p<=q:=by rw [← hq];exact iv l p
  have HQ:=aW hq;clear hq;go_upto_block 2 with fail;go_cut [7] (λ s7 wx=>s7=Zi Zq q/\wx=wr)
  case first =>
   obtain ⟨wo,rfl⟩:∃ wo:World,wo=wr:=⟨_,rfl⟩
   go_wp2;go_loopg [7] (l.length-p) (λ gk s7 wx => ∃ k:Nat,k<=l.length/\gk=l.length-k/\s7=Zi Zq k/\Hid (bV l k=q)/\wx=wo)
   case atStart=>exact ⟨p,hp,rfl,rfl,HQ,rfl⟩
   case round =>
    obtain ⟨k,hk,hgk2,rfl,HK,rfl⟩:=hrel;have HG2:=aW hgk2;clear hgk2;by_cases hlt:k<l.length
    ·obtain ⟨c,hc⟩:∃ c,l[k]? = some c:=⟨_,List.getElem?_eq_getElem hlt⟩
     have hx:=BS.at_ (n:=0) (cap:=0) HRW.out hc;rw [Nat.zero_add] at hx;have HBL:=aW (rG c);cases hbl:cn c with
     |true =>
      have HK2:=aW (show bV l (k+1)=q by rw [← mC hc hbl,HK.out]);rw [hbl] at HBL;clear hc hbl;go_wp2_with fail;refine (HBL.out _).mono ?_;rintro e w1 ⟨rfl,rfl⟩;go_wp2_with fail;go_roundg (l.length-(k+1))
      case measure=>rw [HG2.out];omega
      case rel=>exact ⟨k+1,hlt,rfl,by go_num,HK2,rfl⟩
     |false =>
      have hkq:k=q:=by rw [← HK.out,mD hc hbl]
      have HKQ:=aW hkq;rw [hbl] at HBL;clear hc hbl hkq;go_wp2_with fail;refine (HBL.out _).mono ?_;rintro e w1 ⟨rfl,rfl⟩;go_wp2_with fail;go_meet
      case rel=>exact ⟨by rw [HKQ.out],rfl⟩
    ·obtain rfl:k=l.length:=by omega
     have hkq:l.length=q:=by rw [← HK.out,n9 (Nat.le_refl _)]
     have HKQ:=aW hkq;clear hkq;go_wp2;go_meet
     case rel=>exact ⟨by rw [HKQ.out],rfl⟩
  case rest =>
   obtain ⟨rfl,rfl⟩:=hcut;by_cases hqe:q=l.length
   ·have hE:=oA hp (by rw [HQ.out];omega);have HRT:=aW (show r=(pre++[(6,l.length,[],0)],0,0) by
     rw [← HR0.out];refine zK hlen ?_;exact Prod.ext (by rw [HT.out.1,hE]) (by rw [HT.out.2,hE]))
    have hqb:((q:Int) == (l.length:Int))=true:=by simp;omega
    have hqi:(q:Int)=(l.length:Int):=by omega
    have hnews:=qx wc (6,l.length,[],0);rw [show (((6,l.length,[],0):ap).2.2.1.toArray)=#[] from rfl] at hnews;simp only at hnews;have HNW:=aW hnews;have HTO:=aW (sL (6,l.length,[],0));clear hE hnews hqe;go_wp2_with (at_builtin;refine wpList_append_own _ rfl _ _ 77 rfl (w.heap.size+1) 86 i0 _ 4 40 Tryz.underlying77 hi hz0 hz1 hz2 rfl (by decide) _ _ _ rfl (hown.alloc _) ⟨wc.heap.size,0,none⟩ 1 1 (gX (6,l.length,[],0)) rfl rfl HNW.out HTO.out (by unfold maxLen;omega) (by omega) (by simp;omega) ?_;intro v' w2 hown2 hgr2 _);go_ret3;rw [HRT.out];refine ⟨v',rfl,?_,((hbw.alloc hbw.size _).grown hgr2 (by simp;omega) (λ k e=>by have:=(hown.lt k e).1;omega))⟩;have e:aG (pre++[(6,l.length,[],0)])=aG pre++gX (6,l.length,[],0):=by rw [gQ];simp [aG]
    rw [← e] at hown2;exact TS.of_own hown2
   ·have hlt:q<l.length:=by omega
    have hqb:((q:Int) == (l.length:Int))=false:=by simp;omega
    have hbs:BS wc (Zs (some ⟨w.heap.size,0,none⟩) l.length cap) l:=⟨_,_,rfl,hcap,HRW.out⟩
    have hTk:=tF _ l q wc hbs (by omega) hlt;cases hv:cV l q with
    |inr er =>
     obtain ⟨pe,er⟩:=er;rw [hv] at hTk;have herr:=kC hlt hv;have hE:=oB hp (by rw [HQ.out];exact hlt) (by rw [HQ.out];exact hv);have HRT:=aW (show r=([],pe,er) by
      rw [← HR0.out];exact zJ hlen (by rw [HT.out.2,hE]))
     have her':(er != 0)=true:=by simpa using herr
     have HTk:=aW hTk;clear hTk hv herr hE hbs hqe;go_wp2_with fail;refine HTk.out.mono ?_;rintro e w2 ⟨rfl,hb2⟩;unfold fh;go_wp2;go_ret3;rw [HRT.out];exact ⟨_,rfl,TS.nil,(hbw.trans (hb2.mono hbw.size)).alloc (by have:=hbw.size;have:=hb2.size;omega) _⟩
    |inl tk =>
     obtain ⟨kd,t,n,m⟩:=tk;rw [hv] at hTk;have hok:=iA hlt hv;have hE:=oD hp (by rw [HQ.out];exact hlt) (by rw [HQ.out];exact hv);rw [HQ.out] at hE;have HTT:=aW (show (bH l 0).1=(pre++[(kd,q,t,n)])++(bH l m).1/\(bH l 0).2=(bH l m).2 from ⟨by rw [HT.out.1,hE];simp,by rw [HT.out.2,hE]⟩);have HTk:=aW hTk;have HTO:=aW (sL (kd,q,t,n));clear hTk hv hE hbs hqe;go_wp2_with fail;refine HTk.out.mono ?_;rintro e w2 ⟨rfl,hb2⟩;unfold k8;have hown2:=dS hown hb2;have hrd2:=HRW.out.below hb2;have HRD:=aW hrd2;have s1:=hbw.size;have s2:=hb2.size;have hnews:=qx (w2.alloc (.cells #[Zi Zq kd,Zi Zq q,Zt ⟨t.toArray⟩,Zi Zq n] 86)) (kd,q,t,n);simp only [World.size_alloc] at hnews;have HNW:=aW hnews;clear hnews hrd2;go_wp2_with (at_builtin;refine wpList_append_own _ rfl _ _ 77 rfl (w.heap.size+1) 86 i0 _ 4 40 Tryz.underlying77 hi hz0 hz1 hz2 rfl (by decide) _ _ _ rfl ((hown2.alloc _).alloc _) ⟨w2.heap.size+1,0,none⟩ 1 1 (gX (kd,q,t,n)) rfl rfl HNW.out HTO.out (by unfold maxLen;omega) (by omega) (by simp;omega) ?_;intro v' w3 hown3 hgr3 _);go_roundg (l.length+1-m)
     case measure=>rw [HG.out];omega
     case rel =>
      have s3:=hgr3.size;simp at s3;refine ⟨m,pre++[(kd,q,t,n)],hok.2,rfl,rfl,?_,?_,aW ?_,by omega,by simp;omega,HTT⟩
      ·rw [List.length_append,List.length_singleton];have e:aG (pre++[(kd,q,t,n)])=aG pre++gX (kd,q,t,n):=by rw [gQ];simp [aG]
       rw [e];exact hown3
      ·exact (((hbw.trans (hb2.mono s1)).alloc (by omega) _).alloc (by simp;omega) _).grown hgr3 (by simp;omega) (λ k e=>by have:=(hown2.lt k e).1;omega)
      ·have hx:Below (w.heap.size+1) ((w2.alloc (.cells #[Zi Zq kd,Zi Zq q,Zt ⟨t.toArray⟩,Zi Zq n] 86)).alloc (.cells #[Zi Zq kd,Zi Zq q,Zt ⟨t.toArray⟩,Zi Zq n] 86)) w3 :=
        (Below.refl _ _).grown hgr3 (by simp;omega) (λ k e=>(hown2.lt k e).1)
       exact Rd.below_at ((HRD.out.alloc _).alloc _) hx (by omega)
theorem vr (s:ByteArray) (w:World) (hs:s.size<=4194304):Calls Tryz.prog 52 #[Zt s] w (fC (ey (sl s)) w):=by
 by_cases h:s.size<=512
 ·exact wV s w h
 ·have HS:=aW (show ey (sl s)=([],0,3) by unfold ey;rw [if_pos (by rw [bL];omega)]);go_enter Tryz.func52,Tryz.ntmps52;go_wp2;go_ret3;rw [HS.out];exact ⟨_,rfl,TS.nil,Below.refl _ _⟩
end
end Go.Proofs.YtgmnmnnoahdjnaaGreatDoor
