import Derived.Test.YtgolomgmnanbpaaGreatDoorV12
import Derived.Test.YtgolomgmnanbpaaGreatDoorV14
open Go.Value renaming int → Zi, slice → Zs, string → Zt, pointer → Zp
open Go.IntKind renaming i64 → Zq
set_option maxRecDepth 100000
set_option maxHeartbeats 16000000
set_option linter.unusedVariables false
set_option linter.unusedSimpArgs false
namespace Go.Proofs.YtgolomgmnanbpaaGreatDoor
open Go.RowKit
attribute [local go_sem] aa ac ae ab
theorem k7 (cs:List Value) (k n:Int) (s:List UInt8) (kids:List JV) (keys:List (List UInt8)) (F:Nat->Prop) (w:World) (hv:VR w F cs (.mk k n s kids keys)) (hal:aI k n s kids.length keys=true) :
  Calls Tryz.prog 140 #[.agg cs.toArray] w λ e w'=>e=.returned (Zi Zq (aT (.mk k n s kids keys)+1))/\Below w.heap.size w w':=by
 obtain ⟨A,B,ca,cb,css,rfl,_⟩:=hv.out;have hk6:=aH hal;have hr:=gA (n:=n) (s:=s) (kids:=kids) (keys:=keys) hk6;have h2:k=2->n=0∨n=1:=λ e=>by subst e;unfold aI at hal;simp at hal;exact hal.1.1.1
 obtain ⟨r,hrr⟩:∃ r,aT (.mk k n s kids keys)=r:=⟨_,rfl⟩
 rw [hrr] at hr ⊢;obtain ⟨nk,hnk⟩:∃ nk,kids.length=nk:=⟨_,rfl⟩
 obtain ⟨ny,hny⟩:∃ ny,keys.length=ny:=⟨_,rfl⟩
 rw [hnk,hny];have HBW:=aW ((Below.refl w.heap.size w).alloc (Nat.le_refl _) (.cells #[Zi Zq k,Zi Zq n,Zt ⟨s.toArray⟩,Zs A nk ca,Zs B ny cb] 25));clear hv hal hrr hnk hny;by_cases e2:k=2
 ·subst e2;have hn2:=h2 rfl;have hrn:r+1=2+n:=by omega
  rw [hrn];clear hrn hr h2;rcases hn2 with rfl | rfl
  ·go_enter Tryz.func140,Tryz.ntmps140;go_wp2;go_ret;exact ⟨rfl,HBW.out⟩
  ·go_enter Tryz.func140,Tryz.ntmps140;go_wp2;go_ret;exact ⟨rfl,HBW.out⟩
 ·have hk2b:(k == 2)=false:=by simp [e2]
  by_cases e3:2<k
  ·have hrn:r+1=k+1:=by omega
   rw [hrn];clear hrn hr h2;go_enter Tryz.func140,Tryz.ntmps140;go_wp2;go_ret;exact ⟨rfl,HBW.out⟩
  ·have hrn:r+1=k:=by omega
   rw [hrn];clear hrn hr h2;go_enter Tryz.func140,Tryz.ntmps140;go_wp2;go_ret;exact ⟨rfl,HBW.out⟩
theorem eZ {a b:Int} (h:a≠0):dh a b=a:=if_neg h
theorem sc {b:Int}:dh 0 b=b:=if_pos rfl
theorem nV {w wr:World} (h:∃ q,wr=w.drewN q) (n:Nat):∃ q,wr.drewN n=w.drewN q:=by
 obtain ⟨q,rfl⟩:=h;exact ⟨_,World.drewN_drewN _ _ _⟩
theorem uI {s u:List UInt8} {i:Nat} {a b:UInt8} (ha:s[i]? = some a) (hb:u[i]? = some b):ltB (s.drop i) (u.drop i)=(if a=b then ltB (s.drop (i+1)) (u.drop (i+1)) else decide (a<b)):=by
 have h1:=List.getElem?_eq_some_iff.1 ha;have h2:=List.getElem?_eq_some_iff.1 hb;rw [List.drop_eq_getElem_cons h1.1,List.drop_eq_getElem_cons h2.1,h1.2,h2.2];have h:=dr a b (s.drop (i+1)) (u.drop (i+1));by_cases e:a=b
 ·subst e;rw [if_pos rfl];rw [Bool.eq_iff_iff,h];have:¬ a<a:=by rw [UInt8.lt_iff_toNat_lt];omega
  simp [this]
 ·rw [if_neg e,Bool.eq_iff_iff,h];simp [e]
theorem pO {s u:List UInt8} {i:Nat} (h:s.length=i∨u.length=i) (h1:i<=s.length) (h2:i<=u.length):ltB (s.drop i) (u.drop i)=decide (s.length<u.length):=by
 rcases Nat.lt_or_ge i s.length with hs | hs
 ·have hu:u.length=i:=by omega
  rw [List.drop_of_length_le (l:=u) (by omega),fM];simp;omega
 ·rw [List.drop_of_length_le (l:=s) hs];rcases Nat.lt_or_ge i u.length with hu | hu
  ·rw [List.drop_eq_getElem_cons hu,dm];simp;omega
  ·rw [List.drop_of_length_le (l:=u) hu,fM];simp;omega
theorem lp {s:List UInt8} {i:Nat} {a:UInt8} (ha:s[i]? = some a) (W:World):(Instr.index 9 (Zt ⟨s.toArray⟩) (Zi Zq (i:Int))).run Tryz.prog W=.ok (Zi .u8 (a.toNat:Int)) W:=by
 obtain ⟨h1,h2⟩:=List.getElem?_eq_some_iff.1 ha;have hsz:(⟨s.toArray⟩:ByteArray).size=s.length:=by simp [ByteArray.size]
 rw [run_index_string W 9 ⟨s.toArray⟩ .i64 (i:Int) Tryz.underlying9,dif_pos ⟨by omega,by rw [hsz];omega⟩];congr 3;simp only [Int.toNat_natCast];rw [← h2];rfl
theorem jP (s u:List UInt8) (w:World) (hs:s.length<=4194304) (hu:u.length<=4194304) :
  Calls Tryz.prog 141 #[Zt ⟨s.toArray⟩,Zt ⟨u.toArray⟩] w λ e w'=>e=.returned (.bool (ltB s u))/\∃ q,w'=w.drewN q:=by
 have h1:(⟨s.toArray⟩:ByteArray).size=s.length:=by simp [ByteArray.size]
 have h2:(⟨u.toArray⟩:ByteArray).size=u.length:=by simp [ByteArray.size]
 obtain ⟨T,hT⟩:∃ T,ltB s u=T:=⟨_,rfl⟩
 rw [hT];have HT:=aW hT;have HI:=aW (λ (i:Nat) (a:UInt8) (ha:s[i]? = some a) W=>lp ha W);have HJ:=aW (λ (i:Nat) (a:UInt8) (ha:u[i]? = some a) W=>lp ha W);obtain ⟨ns,hns⟩:∃ ns,s.length=ns:=⟨_,rfl⟩
 obtain ⟨nu,hnu⟩:∃ nu,u.length=nu:=⟨_,rfl⟩
 rw [hns] at h1 hs;rw [hnu] at h2 hu;have HNS:=aW hns;have HNU:=aW hnu;clear hT hns hnu;obtain ⟨S,hS⟩:∃ S:ByteArray,(⟨s.toArray⟩:ByteArray)=S:=⟨_,rfl⟩
 obtain ⟨U,hU⟩:∃ U:ByteArray,(⟨u.toArray⟩:ByteArray)=U:=⟨_,rfl⟩
 rw [hS] at h1 HI ⊢;rw [hU] at h2 HJ ⊢;clear hS hU;go_enter Tryz.func141,Tryz.ntmps141;go_wp2;go_loopg [5] ns (λ gk s5 wr => ∃ i:Nat,i<=ns/\i<=nu/\gk=ns-i/\s5=Zi Zq i/\Hid (T=ltB (s.drop i) (u.drop i))/\Hid (∃ q,wr=w.drewN q))
 case atStart=>exact ⟨0,Nat.zero_le _,Nat.zero_le _,rfl,by go_num,aW (by rw [List.drop_zero,List.drop_zero,HT.out]),aW ⟨0,rfl⟩⟩
 case round =>
  obtain ⟨i,hi,hiu,hgk,rfl,HQ,HW⟩:=hrel;have HG:=aW hgk;clear hgk;by_cases hlt:i<ns
  ·have hlt1:(i:Int)<ns:=by omega
   by_cases hlu:i<nu
   ·have hlu1:(i:Int)<nu:=by omega
    obtain ⟨a,ha⟩:∃ a,s[i]? = some a:=⟨_,List.getElem?_eq_getElem (by rw [HNS.out];exact hlt)⟩
    obtain ⟨b,hb⟩:∃ b,u[i]? = some b:=⟨_,List.getElem?_eq_getElem (by rw [HNU.out];exact hlu)⟩
    have x1:=HI.out i a ha;have x2:=HJ.out i b hb;have hq:=HQ.out;rw [uI ha hb] at hq;obtain ⟨p,hp⟩:∃ p:Int,(a.toNat:Int)=p:=⟨_,rfl⟩
    obtain ⟨r,hr⟩:∃ r:Int,(b.toNat:Int)=r:=⟨_,rfl⟩
    have hpb:0<=p/\p<256:=by have:=a.toNat_lt;omega
    have hrb:0<=r/\r<256:=by have:=b.toNat_lt;omega
    have hpr:a=b ↔ p=r:=by
     constructor
     ·rintro rfl;omega
     ·intro e;apply UInt8.toNat_inj.1;omega
    have hlr:a<b ↔ p<r:=by rw [UInt8.lt_iff_toNat_lt];omega
    rw [hp] at x1;rw [hr] at x2;clear hp hr ha hb;by_cases hab:a=b
    ·rw [if_pos hab] at hq;have hpr2:=hpr.1 hab;subst hpr2;have HQ2:=aW hq;clear hq hpr hlr hab;go_wp2;go_quiet (fail);go_wp2;go_roundg (ns-(i+1))
     case measure=>rw [HG.out];omega
     case rel=>exact ⟨i+1,hlt,hlu,rfl,by go_num,HQ2,aW (nV HW.out _)⟩
    ·rw [if_neg hab] at hq;have hnpr:¬ p=r:=λ e=>hab (hpr.2 e)
     have hne:(p == r)=false:=by simp [hnpr]
     have hne2:(p != r)=true:=by simp [hnpr]
     by_cases hplt:p<r
     ·have HQ2:=aW (show T=true by rw [hq,decide_eq_true_eq];exact hlr.2 hplt);clear hq hpr hlr hab;go_wp2;go_quiet (fail);go_wp2;go_quiet (fail);go_wp2;go_ret;exact ⟨by rw [HQ2.out];rfl,nV (nV HW.out _) _⟩
     ·have HQ2:=aW (show T=false by rw [hq,decide_eq_false_iff_not];exact λ h=>hplt (hlr.1 h));clear hq hpr hlr hab;go_wp2;go_quiet (fail);go_wp2;go_quiet (fail);go_wp2;go_ret;exact ⟨ap (by rw [HQ2.out];rw [decide_eq_false_iff_not];omega),nV (nV HW.out _) _⟩
   ·have hlu1:¬ (i:Int)<nu:=by omega
    have HE:=aW (show T=decide (ns<nu) by rw [HQ.out,pO (.inr (by rw [HNU.out];omega)) (by rw [HNS.out];omega) (by rw [HNU.out];omega),HNS.out,HNU.out]);go_wp2;go_ret;exact ⟨ap (by rw [HE.out]),HW.out⟩
  ·have hlt1:¬ (i:Int)<ns:=by omega
   have HE:=aW (show T=decide (ns<nu) by rw [HQ.out,pO (.inl (by rw [HNS.out];omega)) (by rw [HNS.out];omega) (by rw [HNU.out];omega),HNS.out,HNU.out]);go_wp2;go_ret;exact ⟨ap (by rw [HE.out]),HW.out⟩
end Go.Proofs.YtgolomgmnanbpaaGreatDoor
namespace Go.Proofs.YtgolomgmnanbpaaGreatDoor
open Go.RowKit
attribute [local go_sem] aa ac ae ab
def mJ (N:Nat):Prop:=∀ (a b:JV),ar a+ar b<=N->∀ (d d':Nat) (cs cs':List Value) (F F':Nat->Prop) (w:World),VR w F cs a->VR w F' cs' b->aN d a=true->aN d' b=true->au a->au b ->
  Calls Tryz.prog 90 #[.agg cs.toArray,.agg cs'.toArray] w (aF (decide (bp a b = -1)) w)
theorem oN (N:Nat) (ih:mJ N):mJ (N+1):=by
  rintro ⟨k,n,s,kids,keys⟩ ⟨kq,jq,sq,kidsq,keysq⟩ hN d d' cs cs' F F' w hv hv' hR hR' hC hC';obtain ⟨hal,hdd,hrk⟩:=aK hR;obtain ⟨hal',hdd',hrk'⟩:=aK hR';unfold ar at hN;obtain ⟨_,hin,hsl,hkl,hyl,hys,hck⟩:=hC.out;obtain ⟨_,hinq,hsl',hkl',hyl',hys',hck'⟩:=hC'.out;have hk6:=aH hal;have hk6':=aH hal';have HKA:=aW (λ W (h:Below w.heap.size w W)=>k7 cs k n s kids keys F W (hv.bel h) hal);have HKB:=aW (λ W (h:Below w.heap.size w W)=>k7 cs' kq jq sq kidsq keysq F' W (hv'.bel h) hal');obtain ⟨A,B,ca,cb,css,rfl,h1,h2,h3,h4,h5,h6,h7⟩:=hv.out;obtain ⟨Aq,Bq,caq,cbq,cssq,rfl,h1q,h2q,h3q,h4q,h5q,h6q,h7q⟩:=hv'.out;have HIH:=aW (λ (i:Nat) (x:JV) (hx:kids[i]? = some x)=>aS h1 h6 hx);have HIH':=aW (λ (i:Nat) (x:JV) (hx:kidsq[i]? = some x)=>aS h1q h6q hx);have HKY:=aW (show RdF w (λ _=>True) B (cQ keys) from h7.mono λ _ _ _=>trivial);have HKY':=aW (show RdF w (λ _=>True) Bq (cQ keysq) from h7q.mono λ _ _ _=>trivial);have HLS:=aW (λ (i:Nat) (x y:JV) (hx:kids[i]? = some x) (hy:kidsq[i]? = some y) (csx csy:List Value) W (hvx:VR W F csx x) (hvy:VR W F' csy y)=>(show Calls Tryz.prog 90 #[.agg csx.toArray,.agg csy.toArray] W (aF (decide (bp x y = -1)) W)/\Calls Tryz.prog 90 #[.agg csy.toArray,.agg csx.toArray] W (aF (decide (bp x y=1)) W) by
   obtain ⟨hn1,hn2⟩:=bO hx;obtain ⟨hn3,hn4⟩:=bO hy;have hmx:=List.mem_of_getElem? hx;have hmy:=List.mem_of_getElem? hy;have gx:=bC.1 hrk x hmx;have gy:=bC.1 hrk' y hmy;have e1:=ih x y (by omega) (d-1) (d'-1) csx csy F F' W hvx hvy gx gy (hck x hmx) (hck' y hmy);have e2:=ih y x (by omega) (d'-1) (d-1) csy csx F' F W hvy hvx gy gx (hck' y hmy) (hck x hmx);have e3:decide (bp y x = -1)=decide (bp x y=1):=by rw [iD gx gy];rw [decide_eq_decide];omega
   rw [e3] at e2;exact ⟨e1,e2⟩))
  have HSL:=aW (λ (t:List UInt8) (ht:t ∈ keys) (u:List UInt8) (hu:u ∈ keysq) W=>jP t u W (hys t ht) (hys' u hu));have HAS:=aW (λ W=>jP s sq W hsl hsl');obtain ⟨ra,hra⟩:∃ ra,aT (.mk k n s kids keys)=ra:=⟨_,rfl⟩
  obtain ⟨rb,hrb⟩:∃ rb,aT (.mk kq jq sq kidsq keysq)=rb:=⟨_,rfl⟩
  have hcj:bp (.mk k n s kids keys) (.mk kq jq sq kidsq keysq)=(if aT (.mk k n s kids keys)≠aT (.mk kq jq sq kidsq keysq) then di (aT (.mk k n s kids keys)-aT (.mk kq jq sq kidsq keysq)) else if k=3 then mh n jq else if k=4 then cK s sq else cd (decide (k=6)) kids keys kidsq keysq):=by rw [bp];rfl
  rw [hra,hrb] at hcj;rw [hra] at HKA;rw [hrb] at HKB;have HCJ:=aW hcj;obtain ⟨R,hRR⟩:∃ R,bp (.mk k n s kids keys) (.mk kq jq sq kidsq keysq)=R:=⟨_,rfl⟩
  rw [hRR] at HCJ ⊢;have HKD:=aW (show kq=k->(k == 6)=true/\keys.length=kids.length/\keysq.length=kidsq.length∨(k == 6)=false from λ e=>by
   by_cases h:k=6
   ·exact .inl ⟨by simpa using h,(keyed hal).1 h,(keyed hal').1 (e.trans h)⟩
   ·exact .inr (by simpa using h))
  have HSAME:=aW (λ e=>iy hal hal' (hra.trans (Eq.trans e hrb.symm)));obtain ⟨nk,hnk⟩:∃ nk,kids.length=nk:=⟨_,rfl⟩
  obtain ⟨ny,hny⟩:∃ ny,keys.length=ny:=⟨_,rfl⟩
  obtain ⟨nkq,hnkq⟩:∃ nkq,kidsq.length=nkq:=⟨_,rfl⟩
  obtain ⟨nyq,hnyq⟩:∃ nyq,keysq.length=nyq:=⟨_,rfl⟩
  rw [hnk,hny] at HKA;rw [hnkq,hnyq] at HKB;rw [hnk,hny,hnkq,hnyq] at HKD ⊢;rw [hnk] at h2 hkl;rw [hny] at h3 hyl;rw [hnkq] at h2q hkl';rw [hnyq] at h3q hyl';have HNK:=aW hnk;have HNY:=aW hny;have HNKQ:=aW hnkq;have HNYQ:=aW hnyq;have HTB:=aW (cM.new w 25 #[Zi Zq k,Zi Zq n,Zt ⟨s.toArray⟩,Zs A nk ca,Zs B ny cb] #[Zi Zq kq,Zi Zq jq,Zt ⟨sq.toArray⟩,Zs Aq nkq caq,Zs Bq nyq cbq]);clear hv hv' hcj hRR hal hal' hrk hrk' hR hR' hC hC' hck hck' h1 h1q h4 h4q h5 h5q h6 h6q h7 h7q hra hrb hnk hny hnkq hnyq ih hdd hdd' hys hys' hin hinq hN;have y1:w.heap.size≠w.heap.size+1:=by omega
  have y2:w.heap.size+1≠w.heap.size:=by omega
  by_cases hrr:ra=rb
  case neg =>
   have HR:=aW (show decide (R = -1)=decide (ra+1<rb+1) by
    rw [HCJ.out,if_pos hrr,decide_eq_decide];unfold di;split
    ·omega
    split
    ·omega
    ·omega)
   obtain ⟨ka,hka⟩:∃ ka,ra+1=ka:=⟨_,rfl⟩
   obtain ⟨kb,hkb⟩:∃ kb,rb+1=kb:=⟨_,rfl⟩
   rw [hka] at HR HKA;rw [hkb] at HR HKB;have hne:ka≠kb:=by omega
   have hne1:(ka == kb)=false:=by simp [hne]
   have hne2:(ka != kb)=true:=by simp [hne]
   clear hka hkb hrr HCJ HSAME;go_enter Tryz.func90,Tryz.ntmps90;go_wp2;refine wp_region_held_drew (S:=λ w'=>cM w 25 #[Zi Zq k,Zi Zq n,Zt ⟨s.toArray⟩,Zs A nk ca,Zs B ny cb] #[Zi Zq kq,Zi Zq jq,Zt ⟨sq.toArray⟩,Zs Aq nkq caq,Zs Bq nyq cbq] w') (by kernel_rfl) (by exact HTB.out.drew) (λ hHeld=>?_);refine aY 0 6 (.agg #[Zi Zq k,Zi Zq n,Zt ⟨s.toArray⟩,Zs A nk ca,Zs B ny cb]) rfl ?_ ?_
   ·intro W hSw;obtain ⟨⟨c1,f1,l1⟩,⟨c2,f2,l2⟩⟩:=And.intro hSw.1.rules hSw.2.1.rules;go_simp
   refine aY 2 8 (.agg #[Zi Zq kq,Zi Zq jq,Zt ⟨sq.toArray⟩,Zs Aq nkq caq,Zs Bq nyq cbq]) rfl ?_ ?_
   ·intro W hSw;obtain ⟨⟨c1,f1,l1⟩,⟨c2,f2,l2⟩⟩:=And.intro hSw.1.rules hSw.2.1.rules;go_simp
   refine aV 1 7 rfl (λ K hK=>?_);go_simp;refine (HKA.out _ HTB.out.drew.2.2).mono ?_;rintro e w2 ⟨rfl,hb2⟩;have ht2:=HTB.out.drew.keep hb2;refine hK.out _ _ (ht2) (λ hHeld2=>?_);clear hK K hHeld
   try simp only [pU]
   refine aV 3 9 rfl (λ K hK=>?_);go_simp;refine (HKB.out _ ht2.2.2).mono ?_;rintro e w3 ⟨rfl,hb3⟩;have ht3:=ht2.keep hb3;refine hK.out _ _ (ht3) (λ hHeld2=>?_);clear hK K
   try simp only [pU]
   refine aY 4 10 (.bool true) rfl ?_ ?_
   ·intro W hSw;obtain ⟨⟨c1,f1,l1⟩,⟨c2,f2,l2⟩⟩:=And.intro hSw.1.rules hSw.2.1.rules;go_simp
   refine aX ?_;have HT3:=aW ht3;clear hb2 hb3 ht2 ht3;go_wp2;refine wp_region_held_drew (S:=λ w'=>cM w 25 #[Zi Zq k,Zi Zq n,Zt ⟨s.toArray⟩,Zs A nk ca,Zs B ny cb] #[Zi Zq kq,Zi Zq jq,Zt ⟨sq.toArray⟩,Zs Aq nkq caq,Zs Bq nyq cbq] w') (by kernel_rfl) (by exact HT3.out.drew) (λ hHeld=>?_);refine aY 0 11 (.agg #[Zi Zq k,Zi Zq n,Zt ⟨s.toArray⟩,Zs A nk ca,Zs B ny cb]) rfl ?_ ?_
   ·intro W hSw;obtain ⟨⟨c1,f1,l1⟩,⟨c2,f2,l2⟩⟩:=And.intro hSw.1.rules hSw.2.1.rules;go_simp
   refine aY 2 13 (.agg #[Zi Zq kq,Zi Zq jq,Zt ⟨sq.toArray⟩,Zs Aq nkq caq,Zs Bq nyq cbq]) rfl ?_ ?_
   ·intro W hSw;obtain ⟨⟨c1,f1,l1⟩,⟨c2,f2,l2⟩⟩:=And.intro hSw.1.rules hSw.2.1.rules;go_simp
   refine aV 1 12 rfl (λ K hK=>?_);go_simp;refine (HKA.out _ HT3.out.drew.2.2).mono ?_;rintro e w2 ⟨rfl,hb2⟩;have ht2:=HT3.out.drew.keep hb2;refine hK.out _ _ (ht2) (λ hHeld2=>?_);clear hK K hHeld
   try simp only [pU]
   refine aV 3 14 rfl (λ K hK=>?_);go_simp;refine (HKB.out _ ht2.2.2).mono ?_;rintro e w3 ⟨rfl,hb3⟩;have ht3:=ht2.keep hb3;refine hK.out _ _ (ht3) (λ hHeld2=>?_);clear hK K
   try simp only [pU]
   refine aY 4 15 (.bool (decide (ka<kb))) rfl ?_ ?_
   ·intro W hSw;obtain ⟨⟨c1,f1,l1⟩,⟨c2,f2,l2⟩⟩:=And.intro hSw.1.rules hSw.2.1.rules;go_simp
   refine aY 5 4 (.bool (decide (ka<kb))) rfl ?_ ?_
   ·intro W hSw;obtain ⟨⟨c1,f1,l1⟩,⟨c2,f2,l2⟩⟩:=And.intro hSw.1.rules hSw.2.1.rules;go_simp
   refine aX ?_;have HT4:=aW ht3;clear hb2 hb3 ht2 ht3;go_wp2;go_ret;exact ⟨by rw [HR.out];rfl,HT4.out.2.2⟩
  obtain ⟨ek,-,-⟩:=HSAME.out hrr;clear HSAME;subst hrr ek;have HCJ2:=aW (show R=if k=3 then mh n jq else if k=4 then cK s sq else cd (decide (k=6)) kids keys kidsq keysq by rw [HCJ.out,if_neg (show ¬ (ra≠ra) from λ h=>h rfl)]);clear HCJ;have hkd:=HKD.out rfl;clear HKD;obtain ⟨ka,hka⟩:∃ ka,ra+1=ka:=⟨_,rfl⟩
  rw [hka] at HKA HKB;clear hka;by_cases k3:k=3
  ·subst k3;have HR:=aW (show decide (R = -1)=decide (n<jq) by
    rw [HCJ2.out,if_pos rfl,decide_eq_decide];unfold mh di;split
    ·omega
    split
    ·omega
    ·omega)
   clear hkd;go_enter Tryz.func90,Tryz.ntmps90;go_wp2;refine wp_region_held_drew (S:=λ w'=>cM w 25 #[Zi Zq 3,Zi Zq n,Zt ⟨s.toArray⟩,Zs A nk ca,Zs B ny cb] #[Zi Zq 3,Zi Zq jq,Zt ⟨sq.toArray⟩,Zs Aq nkq caq,Zs Bq nyq cbq] w') (by kernel_rfl) (by exact HTB.out.drew) (λ hHeld=>?_);refine aY 0 6 (.agg #[Zi Zq 3,Zi Zq n,Zt ⟨s.toArray⟩,Zs A nk ca,Zs B ny cb]) rfl ?_ ?_
   ·intro W hSw;obtain ⟨⟨c1,f1,l1⟩,⟨c2,f2,l2⟩⟩:=And.intro hSw.1.rules hSw.2.1.rules;go_simp
   refine aY 2 8 (.agg #[Zi Zq 3,Zi Zq jq,Zt ⟨sq.toArray⟩,Zs Aq nkq caq,Zs Bq nyq cbq]) rfl ?_ ?_
   ·intro W hSw;obtain ⟨⟨c1,f1,l1⟩,⟨c2,f2,l2⟩⟩:=And.intro hSw.1.rules hSw.2.1.rules;go_simp
   refine aV 1 7 rfl (λ K hK=>?_);go_simp;refine (HKA.out _ HTB.out.drew.2.2).mono ?_;rintro e w2 ⟨rfl,hb2⟩;have ht2:=HTB.out.drew.keep hb2;refine hK.out _ _ (ht2) (λ hHeld2=>?_);clear hK K hHeld
   try simp only [pU]
   refine aV 3 9 rfl (λ K hK=>?_);go_simp;refine (HKB.out _ ht2.2.2).mono ?_;rintro e w3 ⟨rfl,hb3⟩;have ht3:=ht2.keep hb3;refine hK.out _ _ (ht3) (λ hHeld2=>?_);clear hK K
   try simp only [pU]
   refine aY 4 10 (.bool false) rfl ?_ ?_
   ·intro W hSw;obtain ⟨⟨c1,f1,l1⟩,⟨c2,f2,l2⟩⟩:=And.intro hSw.1.rules hSw.2.1.rules;go_simp
   refine aX ?_;have HT3:=aW ht3;clear hb2 hb3 ht2 ht3;obtain ⟨c1,f1,l1⟩:=HT3.out.1.rules;obtain ⟨c2,f2,l2⟩:=HT3.out.2.1.rules;go_wp2;go_ret;exact ⟨by rw [HR.out];rfl,HT3.out.2.2⟩
  have k3b:(k == 3)=false:=by simp [k3]
  by_cases k4:k=4
  ·subst k4;have HR:=aW (show decide (R = -1)=ltB s sq by
    rw [HCJ2.out,if_neg k3,if_pos rfl,Bool.eq_iff_iff,decide_eq_true_eq];exact m9)
   clear hkd;go_enter Tryz.func90,Tryz.ntmps90;go_wp2;refine wp_region_held_drew (S:=λ w'=>cM w 25 #[Zi Zq 4,Zi Zq n,Zt ⟨s.toArray⟩,Zs A nk ca,Zs B ny cb] #[Zi Zq 4,Zi Zq jq,Zt ⟨sq.toArray⟩,Zs Aq nkq caq,Zs Bq nyq cbq] w') (by kernel_rfl) (by exact HTB.out.drew) (λ hHeld=>?_);refine aY 0 6 (.agg #[Zi Zq 4,Zi Zq n,Zt ⟨s.toArray⟩,Zs A nk ca,Zs B ny cb]) rfl ?_ ?_
   ·intro W hSw;obtain ⟨⟨c1,f1,l1⟩,⟨c2,f2,l2⟩⟩:=And.intro hSw.1.rules hSw.2.1.rules;go_simp
   refine aY 2 8 (.agg #[Zi Zq 4,Zi Zq jq,Zt ⟨sq.toArray⟩,Zs Aq nkq caq,Zs Bq nyq cbq]) rfl ?_ ?_
   ·intro W hSw;obtain ⟨⟨c1,f1,l1⟩,⟨c2,f2,l2⟩⟩:=And.intro hSw.1.rules hSw.2.1.rules;go_simp
   refine aV 1 7 rfl (λ K hK=>?_);go_simp;refine (HKA.out _ HTB.out.drew.2.2).mono ?_;rintro e w2 ⟨rfl,hb2⟩;have ht2:=HTB.out.drew.keep hb2;refine hK.out _ _ (ht2) (λ hHeld2=>?_);clear hK K hHeld
   try simp only [pU]
   refine aV 3 9 rfl (λ K hK=>?_);go_simp;refine (HKB.out _ ht2.2.2).mono ?_;rintro e w3 ⟨rfl,hb3⟩;have ht3:=ht2.keep hb3;refine hK.out _ _ (ht3) (λ hHeld2=>?_);clear hK K
   try simp only [pU]
   refine aY 4 10 (.bool false) rfl ?_ ?_
   ·intro W hSw;obtain ⟨⟨c1,f1,l1⟩,⟨c2,f2,l2⟩⟩:=And.intro hSw.1.rules hSw.2.1.rules;go_simp
   refine aX ?_;have HT3:=aW ht3;clear hb2 hb3 ht2 ht3;obtain ⟨c1,f1,l1⟩:=HT3.out.1.rules;obtain ⟨c2,f2,l2⟩:=HT3.out.2.1.rules;go_wp2_with fail;refine (HAS.out _).mono ?_;rintro e w4 ⟨rfl,q,rfl⟩;go_wp2;go_ret;exact ⟨by rw [HR.out];rfl,av HT3.out.2.2 q⟩
  have k4b:(k == 4)=false:=by simp [k4]
  have HR:=aW (show R=cd (decide (k=6)) kids keys kidsq keysq by rw [HCJ2.out,if_neg k3,if_neg k4]);have HDONE:=aW (λ (i:Nat)=>lr (decide (k=6)) kids kidsq (keys.drop i) (keysq.drop i) (i:=i));rw [HNK.out,HNKQ.out] at HDONE;clear HCJ2 HAS;go_enter Tryz.func90,Tryz.ntmps90;go_wp2;refine wp_region_held_drew (S:=λ w'=>cM w 25 #[Zi Zq k,Zi Zq n,Zt ⟨s.toArray⟩,Zs A nk ca,Zs B ny cb] #[Zi Zq k,Zi Zq jq,Zt ⟨sq.toArray⟩,Zs Aq nkq caq,Zs Bq nyq cbq] w') (by kernel_rfl) (by exact HTB.out.drew) (λ hHeld=>?_);refine aY 0 6 (.agg #[Zi Zq k,Zi Zq n,Zt ⟨s.toArray⟩,Zs A nk ca,Zs B ny cb]) rfl ?_ ?_
  ·intro W hSw;obtain ⟨⟨c1,f1,l1⟩,⟨c2,f2,l2⟩⟩:=And.intro hSw.1.rules hSw.2.1.rules;go_simp
  refine aY 2 8 (.agg #[Zi Zq k,Zi Zq jq,Zt ⟨sq.toArray⟩,Zs Aq nkq caq,Zs Bq nyq cbq]) rfl ?_ ?_
  ·intro W hSw;obtain ⟨⟨c1,f1,l1⟩,⟨c2,f2,l2⟩⟩:=And.intro hSw.1.rules hSw.2.1.rules;go_simp
  refine aV 1 7 rfl (λ K hK=>?_);go_simp;refine (HKA.out _ HTB.out.drew.2.2).mono ?_;rintro e w2 ⟨rfl,hb2⟩;have ht2:=HTB.out.drew.keep hb2;refine hK.out _ _ (ht2) (λ hHeld2=>?_);clear hK K hHeld
  try simp only [pU]
  refine aV 3 9 rfl (λ K hK=>?_);go_simp;refine (HKB.out _ ht2.2.2).mono ?_;rintro e w3 ⟨rfl,hb3⟩;have ht3:=ht2.keep hb3;refine hK.out _ _ (ht3) (λ hHeld2=>?_);clear hK K
  try simp only [pU]
  refine aY 4 10 (.bool false) rfl ?_ ?_
  ·intro W hSw;obtain ⟨⟨c1,f1,l1⟩,⟨c2,f2,l2⟩⟩:=And.intro hSw.1.rules hSw.2.1.rules;go_simp
  refine aX ?_;have HT3:=aW ht3;clear hb2 hb3 ht2 ht3;obtain ⟨c1,f1,l1⟩:=HT3.out.1.rules;obtain ⟨c2,f2,l2⟩:=HT3.out.2.1.rules;go_wp2;clear c1 f1 l1 c2 f2 l2;go_loopg [5] nk (λ gk s5 wr => ∃ i:Nat,i<=nk/\i<=nkq/\gk=nk-i/\s5=Zi Zq i/\Hid (R=cd (decide (k=6)) (kids.drop i) (keys.drop i) (kidsq.drop i) (keysq.drop i))/\Hid (cM w 25 #[Zi Zq k,Zi Zq n,Zt ⟨s.toArray⟩,Zs A nk ca,Zs B ny cb] #[Zi Zq k,Zi Zq jq,Zt ⟨sq.toArray⟩,Zs Aq nkq caq,Zs Bq nyq cbq] wr))
  case atStart=>exact ⟨0,Nat.zero_le _,Nat.zero_le _,rfl,by go_num,aW (by rw [List.drop_zero,List.drop_zero,List.drop_zero,List.drop_zero,HR.out]),HT3⟩
  case round =>
   obtain ⟨i,hi,hiq,hgk,rfl,HQ,HB⟩:=hrel;have HG:=aW hgk;clear hgk;obtain ⟨c1,f1,l1⟩:=HB.out.1.rules;obtain ⟨c2,f2,l2⟩:=HB.out.2.1.rules;by_cases hlt:i<nk
   case neg =>
    have hlt1:¬ (i:Int)<nk:=by omega
    have HE:=aW (show decide (R = -1)=decide (nk<nkq) by
     rw [HQ.out,HDONE.out i (by omega) hi hiq,decide_eq_decide];unfold di;split
     ·omega
     split
     ·omega
     ·omega)
    go_wp2;go_ret;exact ⟨by rw [HE.out];rfl,HB.out.2.2⟩
   have hlt1:(i:Int)<nk:=by omega
   by_cases hlq:i<nkq
   case neg =>
    have hlq1:¬ (i:Int)<nkq:=by omega
    have HE:=aW (show decide (R = -1)=decide (nk<nkq) by
     rw [HQ.out,HDONE.out i (by omega) hi hiq,decide_eq_decide];unfold di;split
     ·omega
     split
     ·omega
     ·omega)
    go_wp2;go_ret;exact ⟨by rw [HE.out];rfl,HB.out.2.2⟩
   have hlq1:(i:Int)<nkq:=by omega
   obtain ⟨x,hx⟩:∃ x,kids[i]? = some x:=⟨_,List.getElem?_eq_getElem (by rw [HNK.out];omega)⟩
   obtain ⟨y,hy⟩:∃ y,kidsq[i]? = some y:=⟨_,List.getElem?_eq_getElem (by rw [HNKQ.out];omega)⟩
   have hst:=HQ.out;rw [lP (o:=decide (k=6)) (ks:=keys) (ls:=keysq) hx hy] at hst;obtain ⟨b,o,k1,n1,s1,A1,na1,ca1,B1,nb1,cb1,rfl,hb,hvx,hz⟩:=HIH.out i x hx;obtain ⟨b',o',k2,n2,s2,A2,na2,ca2,B2,nb2,cb2,rfl,hb',hvy,hz'⟩:=HIH'.out i y hy;have HL1:=aW (λ W (h:Below w.heap.size w W)=>(HLS.out i x y hx hy _ _ W (hvx.bel h) (hvy.bel h)).1);have HL2:=aW (λ W (h:Below w.heap.size w W)=>(HLS.out i x y hx hy _ _ W (hvx.bel h) (hvy.bel h)).2);have HZ:=aW hz;have HZ':=aW hz';have hxy3:=iu x y;obtain ⟨xy,hxy⟩:∃ xy,bp x y=xy:=⟨_,rfl⟩
   rw [hxy] at hst hxy3 HL1 HL2;clear hz hz' hvx hvy hx hy hxy;have hkk:((k == 6)=true/\∃ (t u:List UInt8) (bk ok bkq okq:Nat),t ∈ keys/\u ∈ keysq/\eG (decide (k=6)) (keys.drop i) (keysq.drop i)=cK t u/\i<ny/\i<nyq/\B=some ⟨bk,ok,none⟩/\Bq=some ⟨bkq,okq,none⟩/\(∀ W,Below w.heap.size w W->W.cell? ⟨bk,ok+i,none⟩=some (Zt ⟨t.toArray⟩)/\W.cell? ⟨bkq,okq+i,none⟩=some (Zt ⟨u.toArray⟩)))∨((k == 6)=false/\eG (decide (k=6)) (keys.drop i) (keysq.drop i)=0):=by
    rcases hkd with ⟨h6,e1,e2⟩ | h6
    ·refine .inl ⟨h6,?_⟩;obtain ⟨t,ht⟩:∃ t,keys[i]? = some t:=⟨_,List.getElem?_eq_getElem (by rw [HNY.out];omega)⟩
     obtain ⟨u,hu⟩:∃ u,keysq[i]? = some u:=⟨_,List.getElem?_eq_getElem (by rw [HNYQ.out];omega)⟩
     obtain ⟨d1,o1,rfl,hd1⟩:=bY HKY.out (by rw [HNY.out];omega);obtain ⟨d2,o2,rfl,hd2⟩:=bY HKY'.out (by rw [HNYQ.out];omega);refine ⟨t,u,d1,o1,d2,o2,List.mem_of_getElem? ht,List.mem_of_getElem? hu,?_,by omega,by omega,rfl,rfl,λ W hW=>⟨bB (n:=0) (HKY.out.keep (af.of_below hW)) ht,bB (n:=0) (HKY'.out.keep (af.of_below hW)) hu⟩⟩;unfold eG;rw [if_pos (by simpa using h6),fJ ht,fJ hu]
    ·refine .inr ⟨h6,?_⟩;unfold eG;rw [if_neg (by simpa using h6)]
   clear hkd;rcases hkk with ⟨h6,t,u,bk,ok,bkq,okq,hmt,hmu,hkc,hiy,hiyq,rfl,rfl,hkcell⟩ | ⟨h6,hkc⟩
   ·rw [hkc] at hst;have HKC:=aW hkcell;obtain ⟨p1,p2⟩:=hkcell _ HB.out.2.2;by_cases htu:t=u
    case neg =>
     have hb1:(t == u)=false:=by simp [htu]
     have hb2:(t != u)=true:=by simp [htu]
     have hc0:cK t u≠0:=λ e=>htu (ld.1 e)
     have HE:=aW (show decide (R = -1)=ltB t u by
      have e:R=cK t u:=by rw [hst,eZ (by rw [eZ hc0];exact hc0),eZ hc0]
      rw [e,Bool.eq_iff_iff,decide_eq_true_eq];exact m9)
     have HAH:=aW (λ W=>HSL.out t hmt u hmu W);clear hst hkcell hkc;go_wp2;go_quiet (fail);have HBq:=aW (HB.out.drewN nq);go_wp2;refine wp_region_held_drew (S:=λ w'=>cM w 25 #[Zi Zq k,Zi Zq n,Zt ⟨s.toArray⟩,Zs (some ⟨b,o,none⟩) nk ca,Zs (some ⟨bk,ok,none⟩) ny cb] #[Zi Zq k,Zi Zq jq,Zt ⟨sq.toArray⟩,Zs (some ⟨b',o',none⟩) nkq caq,Zs (some ⟨bkq,okq,none⟩) nyq cbq] w') (by kernel_rfl) (by exact HBq.out.drew) (λ hHeld=>?_);refine aY 0 62 (Zp (some ⟨w.heap.size,4,none⟩)) rfl ?_ ?_
     ·intro W hSw;obtain ⟨⟨c1,f1,l1⟩,⟨c2,f2,l2⟩⟩:=And.intro hSw.1.rules hSw.2.1.rules;obtain ⟨p1,p2⟩:=HKC.out W hSw.2.2;go_simp
     refine aY 1 63 (Zs (some ⟨bk,ok,none⟩) ny cb) rfl ?_ ?_
     ·intro W hSw;obtain ⟨⟨c1,f1,l1⟩,⟨c2,f2,l2⟩⟩:=And.intro hSw.1.rules hSw.2.1.rules;obtain ⟨p1,p2⟩:=HKC.out W hSw.2.2;go_simp
     refine aY 2 64 (Zi Zq i) rfl ?_ ?_
     ·intro W hSw;obtain ⟨⟨c1,f1,l1⟩,⟨c2,f2,l2⟩⟩:=And.intro hSw.1.rules hSw.2.1.rules;obtain ⟨p1,p2⟩:=HKC.out W hSw.2.2;go_simp
     refine aY 3 65 (Zp (some ⟨bk,ok+i,none⟩)) rfl ?_ ?_
     ·intro W hSw;obtain ⟨⟨c1,f1,l1⟩,⟨c2,f2,l2⟩⟩:=And.intro hSw.1.rules hSw.2.1.rules;obtain ⟨p1,p2⟩:=HKC.out W hSw.2.2;go_simp
     refine aY 4 66 (Zt ⟨t.toArray⟩) rfl ?_ ?_
     ·intro W hSw;obtain ⟨⟨c1,f1,l1⟩,⟨c2,f2,l2⟩⟩:=And.intro hSw.1.rules hSw.2.1.rules;obtain ⟨p1,p2⟩:=HKC.out W hSw.2.2;go_simp
     refine aY 5 67 (Zp (some ⟨w.heap.size+1,4,none⟩)) rfl ?_ ?_
     ·intro W hSw;obtain ⟨⟨c1,f1,l1⟩,⟨c2,f2,l2⟩⟩:=And.intro hSw.1.rules hSw.2.1.rules;obtain ⟨p1,p2⟩:=HKC.out W hSw.2.2;go_simp
     refine aY 6 68 (Zs (some ⟨bkq,okq,none⟩) nyq cbq) rfl ?_ ?_
     ·intro W hSw;obtain ⟨⟨c1,f1,l1⟩,⟨c2,f2,l2⟩⟩:=And.intro hSw.1.rules hSw.2.1.rules;obtain ⟨p1,p2⟩:=HKC.out W hSw.2.2;go_simp
     refine aY 7 69 (Zi Zq i) rfl ?_ ?_
     ·intro W hSw;obtain ⟨⟨c1,f1,l1⟩,⟨c2,f2,l2⟩⟩:=And.intro hSw.1.rules hSw.2.1.rules;obtain ⟨p1,p2⟩:=HKC.out W hSw.2.2;go_simp
     refine aY 8 70 (Zp (some ⟨bkq,okq+i,none⟩)) rfl ?_ ?_
     ·intro W hSw;obtain ⟨⟨c1,f1,l1⟩,⟨c2,f2,l2⟩⟩:=And.intro hSw.1.rules hSw.2.1.rules;obtain ⟨p1,p2⟩:=HKC.out W hSw.2.2;go_simp
     refine aY 9 71 (Zt ⟨u.toArray⟩) rfl ?_ ?_
     ·intro W hSw;obtain ⟨⟨c1,f1,l1⟩,⟨c2,f2,l2⟩⟩:=And.intro hSw.1.rules hSw.2.1.rules;obtain ⟨p1,p2⟩:=HKC.out W hSw.2.2;go_simp
     refine aV 10 72 rfl (λ K hK=>?_);go_simp;refine (HAH.out _).mono ?_;rintro e w4 ⟨rfl,q4,rfl⟩;have ht4:=HBq.out.drew.drewN q4;refine hK.out _ _ (ht4) (λ hHeld2=>?_);clear hK K hHeld
     try simp only [pU]
     refine aY 11 4 (.bool (ltB t u)) rfl ?_ ?_
     ·intro W hSw;obtain ⟨⟨c1,f1,l1⟩,⟨c2,f2,l2⟩⟩:=And.intro hSw.1.rules hSw.2.1.rules;obtain ⟨p1,p2⟩:=HKC.out W hSw.2.2;go_simp
     refine aX ?_;have HT4:=aW ht4;clear ht4;go_wp2;go_ret;exact ⟨by rw [HE.out];rfl,HT4.out.2.2⟩
    subst htu;have hst2:R=dh xy (cd (decide (k=6)) (kids.drop (i+1)) (keys.drop (i+1)) (kidsq.drop (i+1)) (keysq.drop (i+1))):=by
     rw [hst,show cK t t=0 from ld.2 rfl,sc]
    have HST:=aW hst2;clear hst hst2 hkcell hkc;go_wp2;go_quiet (fail);have HBq:=aW (HB.out.drewN nq);clear c1 f1 l1 c2 f2 l2;rcases hxy3 with rfl | rfl | rfl
    ·have HE:=aW (show R = -1 by rw [HST.out];exact eZ (by decide));have HLa:=aW (show ∀ W,Below w.heap.size w W->Calls Tryz.prog 90 #[.agg #[Zi Zq k1,Zi Zq n1,Zt s1,Zs A1 na1 ca1,Zs B1 nb1 cb1],.agg #[Zi Zq k2,Zi Zq n2,Zt s2,Zs A2 na2 ca2,Zs B2 nb2 cb2]] W (aF true W) from λ W h=>by have:=HL1.out W h;simpa using this);go_wp2;refine wp_region_held_drew (S:=λ w'=>cM w 25 #[Zi Zq k,Zi Zq n,Zt ⟨s.toArray⟩,Zs (some ⟨b,o,none⟩) nk ca,Zs (some ⟨bk,ok,none⟩) ny cb] #[Zi Zq k,Zi Zq jq,Zt ⟨sq.toArray⟩,Zs (some ⟨b',o',none⟩) nkq caq,Zs (some ⟨bkq,okq,none⟩) nyq cbq] w') (by kernel_rfl) (by exact HBq.out.drew) (λ hHeld=>?_);refine tZ 0 73 (Zp (some ⟨w.heap.size,3,none⟩)) rfl ?_;refine tZ 1 74 (Zs (some ⟨b,o,none⟩) nk ca) rfl ?_;refine tZ 2 75 (Zi Zq i) rfl ?_;refine tZ 3 76 (Zp (some ⟨b,o+i*5,none⟩)) rfl ?_;refine tZ 4 77 (.agg #[Zi Zq k1,Zi Zq n1,Zt s1,Zs A1 na1 ca1,Zs B1 nb1 cb1]) rfl ?_;refine tZ 5 78 (Zp (some ⟨w.heap.size+1,3,none⟩)) rfl ?_;refine tZ 6 79 (Zs (some ⟨b',o',none⟩) nkq caq) rfl ?_;refine tZ 7 80 (Zi Zq i) rfl ?_;refine tZ 8 81 (Zp (some ⟨b',o'+i*5,none⟩)) rfl ?_;refine tZ 9 82 (.agg #[Zi Zq k2,Zi Zq n2,Zt s2,Zs A2 na2 ca2,Zs B2 nb2 cb2]) rfl ?_;refine aV 10 83 rfl (λ K hK=>?_);go_simp;refine (HLa.out _ HBq.out.drew.2.2).mono ?_;rintro e w5 ⟨rfl,hb5⟩;have hw5:=HBq.out.drew.keep hb5;refine hK.out _ _ (hw5) (λ hHeld2=>?_);clear hK K hHeld
     try simp only [pU]
     refine aX ?_;have HT5:=aW hw5;clear hb5 hw5;go_wp2;go_ret;exact ⟨by rw [HE.out];rfl,HT5.out.2.2⟩
    ·have HE:=aW (show R=cd (decide (k=6)) (kids.drop (i+1)) (keys.drop (i+1)) (kidsq.drop (i+1)) (keysq.drop (i+1)) by rw [HST.out];rfl);have HLa:=aW (show ∀ W,Below w.heap.size w W->Calls Tryz.prog 90 #[.agg #[Zi Zq k1,Zi Zq n1,Zt s1,Zs A1 na1 ca1,Zs B1 nb1 cb1],.agg #[Zi Zq k2,Zi Zq n2,Zt s2,Zs A2 na2 ca2,Zs B2 nb2 cb2]] W (aF false W) from λ W h=>by have:=HL1.out W h;simpa using this);have HLb:=aW (show ∀ W,Below w.heap.size w W->Calls Tryz.prog 90 #[.agg #[Zi Zq k2,Zi Zq n2,Zt s2,Zs A2 na2 ca2,Zs B2 nb2 cb2],.agg #[Zi Zq k1,Zi Zq n1,Zt s1,Zs A1 na1 ca1,Zs B1 nb1 cb1]] W (aF false W) from λ W h=>by have:=HL2.out W h;simpa using this);go_wp2;refine wp_region_held_drew (S:=λ w'=>cM w 25 #[Zi Zq k,Zi Zq n,Zt ⟨s.toArray⟩,Zs (some ⟨b,o,none⟩) nk ca,Zs (some ⟨bk,ok,none⟩) ny cb] #[Zi Zq k,Zi Zq jq,Zt ⟨sq.toArray⟩,Zs (some ⟨b',o',none⟩) nkq caq,Zs (some ⟨bkq,okq,none⟩) nyq cbq] w') (by kernel_rfl) (by exact HBq.out.drew) (λ hHeld=>?_);refine tZ 0 73 (Zp (some ⟨w.heap.size,3,none⟩)) rfl ?_;refine tZ 1 74 (Zs (some ⟨b,o,none⟩) nk ca) rfl ?_;refine tZ 2 75 (Zi Zq i) rfl ?_;refine tZ 3 76 (Zp (some ⟨b,o+i*5,none⟩)) rfl ?_;refine tZ 4 77 (.agg #[Zi Zq k1,Zi Zq n1,Zt s1,Zs A1 na1 ca1,Zs B1 nb1 cb1]) rfl ?_;refine tZ 5 78 (Zp (some ⟨w.heap.size+1,3,none⟩)) rfl ?_;refine tZ 6 79 (Zs (some ⟨b',o',none⟩) nkq caq) rfl ?_;refine tZ 7 80 (Zi Zq i) rfl ?_;refine tZ 8 81 (Zp (some ⟨b',o'+i*5,none⟩)) rfl ?_;refine tZ 9 82 (.agg #[Zi Zq k2,Zi Zq n2,Zt s2,Zs A2 na2 ca2,Zs B2 nb2 cb2]) rfl ?_;refine aV 10 83 rfl (λ K hK=>?_);go_simp;refine (HLa.out _ HBq.out.drew.2.2).mono ?_;rintro e w5 ⟨rfl,hb5⟩;have hw5:=HBq.out.drew.keep hb5;refine hK.out _ _ (hw5) (λ hHeld2=>?_);clear hK K hHeld
     try simp only [pU]
     refine aX ?_;have HT5:=aW hw5;clear hb5 hw5;go_wp2;refine wp_region_held_drew (S:=λ w'=>cM w 25 #[Zi Zq k,Zi Zq n,Zt ⟨s.toArray⟩,Zs (some ⟨b,o,none⟩) nk ca,Zs (some ⟨bk,ok,none⟩) ny cb] #[Zi Zq k,Zi Zq jq,Zt ⟨sq.toArray⟩,Zs (some ⟨b',o',none⟩) nkq caq,Zs (some ⟨bkq,okq,none⟩) nyq cbq] w') (by kernel_rfl) (by exact HT5.out.drew) (λ hHeld=>?_);refine tZ 0 84 (Zp (some ⟨w.heap.size+1,3,none⟩)) rfl ?_;refine tZ 1 85 (Zs (some ⟨b',o',none⟩) nkq caq) rfl ?_;refine tZ 2 86 (Zi Zq i) rfl ?_;refine tZ 3 87 (Zp (some ⟨b',o'+i*5,none⟩)) rfl ?_;refine tZ 4 88 (.agg #[Zi Zq k2,Zi Zq n2,Zt s2,Zs A2 na2 ca2,Zs B2 nb2 cb2]) rfl ?_;refine tZ 5 89 (Zp (some ⟨w.heap.size,3,none⟩)) rfl ?_;refine tZ 6 90 (Zs (some ⟨b,o,none⟩) nk ca) rfl ?_;refine tZ 7 91 (Zi Zq i) rfl ?_;refine tZ 8 92 (Zp (some ⟨b,o+i*5,none⟩)) rfl ?_;refine tZ 9 93 (.agg #[Zi Zq k1,Zi Zq n1,Zt s1,Zs A1 na1 ca1,Zs B1 nb1 cb1]) rfl ?_;refine aV 10 94 rfl (λ K hK=>?_);go_simp;refine (HLb.out _ HT5.out.drew.2.2).mono ?_;rintro e w6 ⟨rfl,hb5⟩;have hw6:=HT5.out.drew.keep hb5;refine hK.out _ _ (hw6) (λ hHeld2=>?_);clear hK K hHeld
     try simp only [pU]
     refine aX ?_;have HT6:=aW hw6;clear hb5 hw6;go_wp2;go_roundg (nk-(i+1))
     case measure=>rw [HG.out];omega
     case rel=>exact ⟨i+1,hlt,hlq,rfl,by go_num,HE,HT6⟩
    ·have HE:=aW (show R=1 by rw [HST.out];exact eZ (by decide));have HLa:=aW (show ∀ W,Below w.heap.size w W->Calls Tryz.prog 90 #[.agg #[Zi Zq k1,Zi Zq n1,Zt s1,Zs A1 na1 ca1,Zs B1 nb1 cb1],.agg #[Zi Zq k2,Zi Zq n2,Zt s2,Zs A2 na2 ca2,Zs B2 nb2 cb2]] W (aF false W) from λ W h=>by have:=HL1.out W h;simpa using this);have HLb:=aW (show ∀ W,Below w.heap.size w W->Calls Tryz.prog 90 #[.agg #[Zi Zq k2,Zi Zq n2,Zt s2,Zs A2 na2 ca2,Zs B2 nb2 cb2],.agg #[Zi Zq k1,Zi Zq n1,Zt s1,Zs A1 na1 ca1,Zs B1 nb1 cb1]] W (aF true W) from λ W h=>by have:=HL2.out W h;simpa using this);go_wp2;refine wp_region_held_drew (S:=λ w'=>cM w 25 #[Zi Zq k,Zi Zq n,Zt ⟨s.toArray⟩,Zs (some ⟨b,o,none⟩) nk ca,Zs (some ⟨bk,ok,none⟩) ny cb] #[Zi Zq k,Zi Zq jq,Zt ⟨sq.toArray⟩,Zs (some ⟨b',o',none⟩) nkq caq,Zs (some ⟨bkq,okq,none⟩) nyq cbq] w') (by kernel_rfl) (by exact HBq.out.drew) (λ hHeld=>?_);refine tZ 0 73 (Zp (some ⟨w.heap.size,3,none⟩)) rfl ?_;refine tZ 1 74 (Zs (some ⟨b,o,none⟩) nk ca) rfl ?_;refine tZ 2 75 (Zi Zq i) rfl ?_;refine tZ 3 76 (Zp (some ⟨b,o+i*5,none⟩)) rfl ?_;refine tZ 4 77 (.agg #[Zi Zq k1,Zi Zq n1,Zt s1,Zs A1 na1 ca1,Zs B1 nb1 cb1]) rfl ?_;refine tZ 5 78 (Zp (some ⟨w.heap.size+1,3,none⟩)) rfl ?_;refine tZ 6 79 (Zs (some ⟨b',o',none⟩) nkq caq) rfl ?_;refine tZ 7 80 (Zi Zq i) rfl ?_;refine tZ 8 81 (Zp (some ⟨b',o'+i*5,none⟩)) rfl ?_;refine tZ 9 82 (.agg #[Zi Zq k2,Zi Zq n2,Zt s2,Zs A2 na2 ca2,Zs B2 nb2 cb2]) rfl ?_;refine aV 10 83 rfl (λ K hK=>?_);go_simp;refine (HLa.out _ HBq.out.drew.2.2).mono ?_;rintro e w5 ⟨rfl,hb5⟩;have hw5:=HBq.out.drew.keep hb5;refine hK.out _ _ (hw5) (λ hHeld2=>?_);clear hK K hHeld
     try simp only [pU]
     refine aX ?_;have HT5:=aW hw5;clear hb5 hw5;go_wp2;refine wp_region_held_drew (S:=λ w'=>cM w 25 #[Zi Zq k,Zi Zq n,Zt ⟨s.toArray⟩,Zs (some ⟨b,o,none⟩) nk ca,Zs (some ⟨bk,ok,none⟩) ny cb] #[Zi Zq k,Zi Zq jq,Zt ⟨sq.toArray⟩,Zs (some ⟨b',o',none⟩) nkq caq,Zs (some ⟨bkq,okq,none⟩) nyq cbq] w') (by kernel_rfl) (by exact HT5.out.drew) (λ hHeld=>?_);refine tZ 0 84 (Zp (some ⟨w.heap.size+1,3,none⟩)) rfl ?_;refine tZ 1 85 (Zs (some ⟨b',o',none⟩) nkq caq) rfl ?_;refine tZ 2 86 (Zi Zq i) rfl ?_;refine tZ 3 87 (Zp (some ⟨b',o'+i*5,none⟩)) rfl ?_;refine tZ 4 88 (.agg #[Zi Zq k2,Zi Zq n2,Zt s2,Zs A2 na2 ca2,Zs B2 nb2 cb2]) rfl ?_;refine tZ 5 89 (Zp (some ⟨w.heap.size,3,none⟩)) rfl ?_;refine tZ 6 90 (Zs (some ⟨b,o,none⟩) nk ca) rfl ?_;refine tZ 7 91 (Zi Zq i) rfl ?_;refine tZ 8 92 (Zp (some ⟨b,o+i*5,none⟩)) rfl ?_;refine tZ 9 93 (.agg #[Zi Zq k1,Zi Zq n1,Zt s1,Zs A1 na1 ca1,Zs B1 nb1 cb1]) rfl ?_;refine aV 10 94 rfl (λ K hK=>?_);go_simp;refine (HLb.out _ HT5.out.drew.2.2).mono ?_;rintro e w6 ⟨rfl,hb5⟩;have hw6:=HT5.out.drew.keep hb5;refine hK.out _ _ (hw6) (λ hHeld2=>?_);clear hK K hHeld
     try simp only [pU]
     refine aX ?_;have HT6:=aW hw6;clear hb5 hw6;go_wp2;go_ret;exact ⟨by rw [HE.out];rfl,HT6.out.2.2⟩
   ·rw [hkc] at hst;have hst2:R=dh xy (cd (decide (k=6)) (kids.drop (i+1)) (keys.drop (i+1)) (kidsq.drop (i+1)) (keysq.drop (i+1))):=by
     rw [hst,sc]
    have HST:=aW hst2;clear hst hst2 hkc;go_wp2;go_quiet (fail);have HBq:=aW (HB.out.drewN nq);clear c1 f1 l1 c2 f2 l2;rcases hxy3 with rfl | rfl | rfl
    ·have HE:=aW (show R = -1 by rw [HST.out];exact eZ (by decide));have HLa:=aW (show ∀ W,Below w.heap.size w W->Calls Tryz.prog 90 #[.agg #[Zi Zq k1,Zi Zq n1,Zt s1,Zs A1 na1 ca1,Zs B1 nb1 cb1],.agg #[Zi Zq k2,Zi Zq n2,Zt s2,Zs A2 na2 ca2,Zs B2 nb2 cb2]] W (aF true W) from λ W h=>by have:=HL1.out W h;simpa using this);go_wp2;refine wp_region_held_drew (S:=λ w'=>cM w 25 #[Zi Zq k,Zi Zq n,Zt ⟨s.toArray⟩,Zs (some ⟨b,o,none⟩) nk ca,Zs B ny cb] #[Zi Zq k,Zi Zq jq,Zt ⟨sq.toArray⟩,Zs (some ⟨b',o',none⟩) nkq caq,Zs Bq nyq cbq] w') (by kernel_rfl) (by exact HBq.out.drew) (λ hHeld=>?_);refine tZ 0 73 (Zp (some ⟨w.heap.size,3,none⟩)) rfl ?_;refine tZ 1 74 (Zs (some ⟨b,o,none⟩) nk ca) rfl ?_;refine tZ 2 75 (Zi Zq i) rfl ?_;refine tZ 3 76 (Zp (some ⟨b,o+i*5,none⟩)) rfl ?_;refine tZ 4 77 (.agg #[Zi Zq k1,Zi Zq n1,Zt s1,Zs A1 na1 ca1,Zs B1 nb1 cb1]) rfl ?_;refine tZ 5 78 (Zp (some ⟨w.heap.size+1,3,none⟩)) rfl ?_;refine tZ 6 79 (Zs (some ⟨b',o',none⟩) nkq caq) rfl ?_;refine tZ 7 80 (Zi Zq i) rfl ?_;refine tZ 8 81 (Zp (some ⟨b',o'+i*5,none⟩)) rfl ?_;refine tZ 9 82 (.agg #[Zi Zq k2,Zi Zq n2,Zt s2,Zs A2 na2 ca2,Zs B2 nb2 cb2]) rfl ?_;refine aV 10 83 rfl (λ K hK=>?_);go_simp;refine (HLa.out _ HBq.out.drew.2.2).mono ?_;rintro e w5 ⟨rfl,hb5⟩;have hw5:=HBq.out.drew.keep hb5;refine hK.out _ _ (hw5) (λ hHeld2=>?_);clear hK K hHeld
     try simp only [pU]
     refine aX ?_;have HT5:=aW hw5;clear hb5 hw5;go_wp2;go_ret;exact ⟨by rw [HE.out];rfl,HT5.out.2.2⟩
    ·have HE:=aW (show R=cd (decide (k=6)) (kids.drop (i+1)) (keys.drop (i+1)) (kidsq.drop (i+1)) (keysq.drop (i+1)) by rw [HST.out];rfl);have HLa:=aW (show ∀ W,Below w.heap.size w W->Calls Tryz.prog 90 #[.agg #[Zi Zq k1,Zi Zq n1,Zt s1,Zs A1 na1 ca1,Zs B1 nb1 cb1],.agg #[Zi Zq k2,Zi Zq n2,Zt s2,Zs A2 na2 ca2,Zs B2 nb2 cb2]] W (aF false W) from λ W h=>by have:=HL1.out W h;simpa using this);have HLb:=aW (show ∀ W,Below w.heap.size w W->Calls Tryz.prog 90 #[.agg #[Zi Zq k2,Zi Zq n2,Zt s2,Zs A2 na2 ca2,Zs B2 nb2 cb2],.agg #[Zi Zq k1,Zi Zq n1,Zt s1,Zs A1 na1 ca1,Zs B1 nb1 cb1]] W (aF false W) from λ W h=>by have:=HL2.out W h;simpa using this);go_wp2;refine wp_region_held_drew (S:=λ w'=>cM w 25 #[Zi Zq k,Zi Zq n,Zt ⟨s.toArray⟩,Zs (some ⟨b,o,none⟩) nk ca,Zs B ny cb] #[Zi Zq k,Zi Zq jq,Zt ⟨sq.toArray⟩,Zs (some ⟨b',o',none⟩) nkq caq,Zs Bq nyq cbq] w') (by kernel_rfl) (by exact HBq.out.drew) (λ hHeld=>?_);refine tZ 0 73 (Zp (some ⟨w.heap.size,3,none⟩)) rfl ?_;refine tZ 1 74 (Zs (some ⟨b,o,none⟩) nk ca) rfl ?_;refine tZ 2 75 (Zi Zq i) rfl ?_;refine tZ 3 76 (Zp (some ⟨b,o+i*5,none⟩)) rfl ?_;refine tZ 4 77 (.agg #[Zi Zq k1,Zi Zq n1,Zt s1,Zs A1 na1 ca1,Zs B1 nb1 cb1]) rfl ?_;refine tZ 5 78 (Zp (some ⟨w.heap.size+1,3,none⟩)) rfl ?_;refine tZ 6 79 (Zs (some ⟨b',o',none⟩) nkq caq) rfl ?_;refine tZ 7 80 (Zi Zq i) rfl ?_;refine tZ 8 81 (Zp (some ⟨b',o'+i*5,none⟩)) rfl ?_;refine tZ 9 82 (.agg #[Zi Zq k2,Zi Zq n2,Zt s2,Zs A2 na2 ca2,Zs B2 nb2 cb2]) rfl ?_;refine aV 10 83 rfl (λ K hK=>?_);go_simp;refine (HLa.out _ HBq.out.drew.2.2).mono ?_;rintro e w5 ⟨rfl,hb5⟩;have hw5:=HBq.out.drew.keep hb5;refine hK.out _ _ (hw5) (λ hHeld2=>?_);clear hK K hHeld
     try simp only [pU]
     refine aX ?_;have HT5:=aW hw5;clear hb5 hw5;go_wp2;refine wp_region_held_drew (S:=λ w'=>cM w 25 #[Zi Zq k,Zi Zq n,Zt ⟨s.toArray⟩,Zs (some ⟨b,o,none⟩) nk ca,Zs B ny cb] #[Zi Zq k,Zi Zq jq,Zt ⟨sq.toArray⟩,Zs (some ⟨b',o',none⟩) nkq caq,Zs Bq nyq cbq] w') (by kernel_rfl) (by exact HT5.out.drew) (λ hHeld=>?_);refine tZ 0 84 (Zp (some ⟨w.heap.size+1,3,none⟩)) rfl ?_;refine tZ 1 85 (Zs (some ⟨b',o',none⟩) nkq caq) rfl ?_;refine tZ 2 86 (Zi Zq i) rfl ?_;refine tZ 3 87 (Zp (some ⟨b',o'+i*5,none⟩)) rfl ?_;refine tZ 4 88 (.agg #[Zi Zq k2,Zi Zq n2,Zt s2,Zs A2 na2 ca2,Zs B2 nb2 cb2]) rfl ?_;refine tZ 5 89 (Zp (some ⟨w.heap.size,3,none⟩)) rfl ?_;refine tZ 6 90 (Zs (some ⟨b,o,none⟩) nk ca) rfl ?_;refine tZ 7 91 (Zi Zq i) rfl ?_;refine tZ 8 92 (Zp (some ⟨b,o+i*5,none⟩)) rfl ?_;refine tZ 9 93 (.agg #[Zi Zq k1,Zi Zq n1,Zt s1,Zs A1 na1 ca1,Zs B1 nb1 cb1]) rfl ?_;refine aV 10 94 rfl (λ K hK=>?_);go_simp;refine (HLb.out _ HT5.out.drew.2.2).mono ?_;rintro e w6 ⟨rfl,hb5⟩;have hw6:=HT5.out.drew.keep hb5;refine hK.out _ _ (hw6) (λ hHeld2=>?_);clear hK K hHeld
     try simp only [pU]
     refine aX ?_;have HT6:=aW hw6;clear hb5 hw6;go_wp2;go_roundg (nk-(i+1))
     case measure=>rw [HG.out];omega
     case rel=>exact ⟨i+1,hlt,hlq,rfl,by go_num,HE,HT6⟩
    ·have HE:=aW (show R=1 by rw [HST.out];exact eZ (by decide));have HLa:=aW (show ∀ W,Below w.heap.size w W->Calls Tryz.prog 90 #[.agg #[Zi Zq k1,Zi Zq n1,Zt s1,Zs A1 na1 ca1,Zs B1 nb1 cb1],.agg #[Zi Zq k2,Zi Zq n2,Zt s2,Zs A2 na2 ca2,Zs B2 nb2 cb2]] W (aF false W) from λ W h=>by have:=HL1.out W h;simpa using this);have HLb:=aW (show ∀ W,Below w.heap.size w W->Calls Tryz.prog 90 #[.agg #[Zi Zq k2,Zi Zq n2,Zt s2,Zs A2 na2 ca2,Zs B2 nb2 cb2],.agg #[Zi Zq k1,Zi Zq n1,Zt s1,Zs A1 na1 ca1,Zs B1 nb1 cb1]] W (aF true W) from λ W h=>by have:=HL2.out W h;simpa using this);go_wp2;refine wp_region_held_drew (S:=λ w'=>cM w 25 #[Zi Zq k,Zi Zq n,Zt ⟨s.toArray⟩,Zs (some ⟨b,o,none⟩) nk ca,Zs B ny cb] #[Zi Zq k,Zi Zq jq,Zt ⟨sq.toArray⟩,Zs (some ⟨b',o',none⟩) nkq caq,Zs Bq nyq cbq] w') (by kernel_rfl) (by exact HBq.out.drew) (λ hHeld=>?_);refine tZ 0 73 (Zp (some ⟨w.heap.size,3,none⟩)) rfl ?_;refine tZ 1 74 (Zs (some ⟨b,o,none⟩) nk ca) rfl ?_;refine tZ 2 75 (Zi Zq i) rfl ?_;refine tZ 3 76 (Zp (some ⟨b,o+i*5,none⟩)) rfl ?_;refine tZ 4 77 (.agg #[Zi Zq k1,Zi Zq n1,Zt s1,Zs A1 na1 ca1,Zs B1 nb1 cb1]) rfl ?_;refine tZ 5 78 (Zp (some ⟨w.heap.size+1,3,none⟩)) rfl ?_;refine tZ 6 79 (Zs (some ⟨b',o',none⟩) nkq caq) rfl ?_;refine tZ 7 80 (Zi Zq i) rfl ?_;refine tZ 8 81 (Zp (some ⟨b',o'+i*5,none⟩)) rfl ?_;refine tZ 9 82 (.agg #[Zi Zq k2,Zi Zq n2,Zt s2,Zs A2 na2 ca2,Zs B2 nb2 cb2]) rfl ?_;refine aV 10 83 rfl (λ K hK=>?_);go_simp;refine (HLa.out _ HBq.out.drew.2.2).mono ?_;rintro e w5 ⟨rfl,hb5⟩;have hw5:=HBq.out.drew.keep hb5;refine hK.out _ _ (hw5) (λ hHeld2=>?_);clear hK K hHeld
     try simp only [pU]
     refine aX ?_;have HT5:=aW hw5;clear hb5 hw5;go_wp2;refine wp_region_held_drew (S:=λ w'=>cM w 25 #[Zi Zq k,Zi Zq n,Zt ⟨s.toArray⟩,Zs (some ⟨b,o,none⟩) nk ca,Zs B ny cb] #[Zi Zq k,Zi Zq jq,Zt ⟨sq.toArray⟩,Zs (some ⟨b',o',none⟩) nkq caq,Zs Bq nyq cbq] w') (by kernel_rfl) (by exact HT5.out.drew) (λ hHeld=>?_);refine tZ 0 84 (Zp (some ⟨w.heap.size+1,3,none⟩)) rfl ?_;refine tZ 1 85 (Zs (some ⟨b',o',none⟩) nkq caq) rfl ?_;refine tZ 2 86 (Zi Zq i) rfl ?_;refine tZ 3 87 (Zp (some ⟨b',o'+i*5,none⟩)) rfl ?_;refine tZ 4 88 (.agg #[Zi Zq k2,Zi Zq n2,Zt s2,Zs A2 na2 ca2,Zs B2 nb2 cb2]) rfl ?_;refine tZ 5 89 (Zp (some ⟨w.heap.size,3,none⟩)) rfl ?_;refine tZ 6 90 (Zs (some ⟨b,o,none⟩) nk ca) rfl ?_;refine tZ 7 91 (Zi Zq i) rfl ?_;refine tZ 8 92 (Zp (some ⟨b,o+i*5,none⟩)) rfl ?_;refine tZ 9 93 (.agg #[Zi Zq k1,Zi Zq n1,Zt s1,Zs A1 na1 ca1,Zs B1 nb1 cb1]) rfl ?_;refine aV 10 94 rfl (λ K hK=>?_);go_simp;refine (HLb.out _ HT5.out.drew.2.2).mono ?_;rintro e w6 ⟨rfl,hb5⟩;have hw6:=HT5.out.drew.keep hb5;refine hK.out _ _ (hw6) (λ hHeld2=>?_);clear hK K hHeld
     try simp only [pU]
     refine aX ?_;have HT6:=aW hw6;clear hb5 hw6;go_wp2;go_ret;exact ⟨by rw [HE.out];rfl,HT6.out.2.2⟩
theorem gZ:∀ N:Nat,mJ N
 | 0=>λ a b h=>by have:=bj a;omega
 | N+1=>oN N (gZ N)
end Go.Proofs.YtgolomgmnanbpaaGreatDoor
