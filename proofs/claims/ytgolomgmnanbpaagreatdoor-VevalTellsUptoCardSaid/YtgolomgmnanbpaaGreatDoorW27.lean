import Derived.Test.YtgolomgmnanbpaaGreatDoorW21
import Derived.Test.YtgolomgmnanbpaaGreatDoorW22
import Derived.Test.YtgolomgmnanbpaaGreatDoorW16
import Derived.Test.YtgolomgmnanbpaaGreatDoorW01
set_option maxRecDepth 100000
set_option maxHeartbeats 16000000
namespace Go.Proofs.YtgolomgmnanbpaaGreatDoor
set_option linter.unusedVariables false
set_option linter.unusedSimpArgs false
open Go.RowKit
attribute [local go_sem] run_index_arr run_part_agg run_part_one run_field_agg
theorem rKind_any (cs:List Value) (k n:Int) (s:List UInt8) (kids:List JV) (keys:List (List UInt8)) (F:Nat→Prop) (w:World) (hv:VR w F cs (.mk k n s kids keys)) (hal:goodA k n s kids.length keys=true) :
  Calls Tryz.prog 140 #[.agg cs.toArray] w fun e w'=>e=.returned (.int .i64 (rankJ (.mk k n s kids keys)+1))∧Below w.heap.size w w':=by
 obtain ⟨A,B,ca,cb,css,rfl,_⟩:=hv.out;have hk6:=goodA_kind hal;have hr:=rank_of (n:=n) (s:=s) (kids:=kids) (keys:=keys) hk6;have h2:k=2→n=0∨n=1:=fun e=>by subst e;unfold goodA at hal;simp at hal;exact hal.1.1.1
 obtain ⟨r,hrr⟩:∃ r,rankJ (.mk k n s kids keys)=r:=⟨_,rfl⟩
 rw [hrr] at hr ⊢;obtain ⟨nk,hnk⟩:∃ nk,kids.length=nk:=⟨_,rfl⟩
 obtain ⟨ny,hny⟩:∃ ny,keys.length=ny:=⟨_,rfl⟩
 rw [hnk,hny];have HBW:=aW ((Below.refl w.heap.size w).alloc (Nat.le_refl _) (.cells #[.int .i64 k,.int .i64 n,.string ⟨s.toArray⟩,.slice A nk ca,.slice B ny cb] 25));clear hv hal hrr hnk hny;by_cases e2:k=2
 ·subst e2;have hn2:=h2 rfl;have hrn:r+1=2+n:=by omega
  rw [hrn];clear hrn hr h2;rcases hn2 with rfl | rfl
  ·go_enter Tryz.func140,Tryz.ntmps140;go_wp2;go_ret;exact ⟨rfl,HBW.out⟩
  ·go_enter Tryz.func140,Tryz.ntmps140;go_wp2;go_ret;exact ⟨rfl,HBW.out⟩
 ·have hk2b:(k == 2)=false:=by simp [e2]
  by_cases e3:2<k
  ·have hrn:r+1=k+1:=by omega
   rw [hrn];clear hrn hr h2;go_enter Tryz.func140,Tryz.ntmps140;go_wp2;go_ret;exact ⟨rfl,HBW.out⟩
  ·have hrn:r+1=k:=by omega
   rw [hrn];clear hrn hr h2;go_enter Tryz.func140,Tryz.ntmps140;go_wp2;go_ret;exact ⟨rfl,HBW.out⟩
theorem lexI_ne {a b:Int} (h:a≠0):lexI a b=a:=if_neg h
theorem lexI_0 {b:Int}:lexI 0 b=b:=if_pos rfl
theorem drewE {w wr:World} (h:∃ q,wr=w.drewN q) (n:Nat):∃ q,wr.drewN n=w.drewN q:=by
 obtain ⟨q,rfl⟩:=h;exact ⟨_,World.drewN_drewN _ _ _⟩
theorem ltB_at {s u:List UInt8} {i:Nat} {a b:UInt8} (ha:s[i]? = some a) (hb:u[i]? = some b):ltB (s.drop i) (u.drop i)=(if a=b then ltB (s.drop (i+1)) (u.drop (i+1)) else decide (a<b)):=by
 have h1:=List.getElem?_eq_some_iff.1 ha;have h2:=List.getElem?_eq_some_iff.1 hb;rw [List.drop_eq_getElem_cons h1.1,List.drop_eq_getElem_cons h2.1,h1.2,h2.2];have h:=ltB_cons a b (s.drop (i+1)) (u.drop (i+1));by_cases e:a=b
 ·subst e;rw [if_pos rfl];rw [Bool.eq_iff_iff,h];have:¬ a<a:=by rw [UInt8.lt_iff_toNat_lt];omega
  simp [this]
 ·rw [if_neg e,Bool.eq_iff_iff,h];simp [e]
theorem ltB_end {s u:List UInt8} {i:Nat} (h:s.length=i∨u.length=i) (h1:i≤s.length) (h2:i≤u.length):ltB (s.drop i) (u.drop i)=decide (s.length<u.length):=by
 rcases Nat.lt_or_ge i s.length with hs | hs
 ·have hu:u.length=i:=by omega
  rw [List.drop_of_length_le (l:=u) (by omega),ltB_nil];simp;omega
 ·rw [List.drop_of_length_le (l:=s) hs];rcases Nat.lt_or_ge i u.length with hu | hu
  ·rw [List.drop_eq_getElem_cons hu,ltB_nil_cons];simp;omega
  ·rw [List.drop_of_length_le (l:=u) hu,ltB_nil];simp;omega
theorem index_str {s:List UInt8} {i:Nat} {a:UInt8} (ha:s[i]? = some a) (W:World):(Instr.index 9 (.string ⟨s.toArray⟩) (.int .i64 (i:Int))).run Tryz.prog W=.ok (.int .u8 (a.toNat:Int)) W:=by
 obtain ⟨h1,h2⟩:=List.getElem?_eq_some_iff.1 ha;have hsz:(⟨s.toArray⟩:ByteArray).size=s.length:=by simp [ByteArray.size]
 rw [run_index_string W 9 ⟨s.toArray⟩ .i64 (i:Int) Tryz.underlying9,dif_pos ⟨by omega,by rw [hsz];omega⟩];congr 3;simp only [Int.toNat_natCast];rw [← h2];rfl
theorem rAhead_any (s u:List UInt8) (w:World) (hs:s.length≤4194304) (hu:u.length≤4194304) :
  Calls Tryz.prog 141 #[.string ⟨s.toArray⟩,.string ⟨u.toArray⟩] w fun e w'=>e=.returned (.bool (ltB s u))∧∃ q,w'=w.drewN q:=by
 have h1:(⟨s.toArray⟩:ByteArray).size=s.length:=by simp [ByteArray.size]
 have h2:(⟨u.toArray⟩:ByteArray).size=u.length:=by simp [ByteArray.size]
 obtain ⟨T,hT⟩:∃ T,ltB s u=T:=⟨_,rfl⟩
 rw [hT];have HT:=aW hT;have HI:=aW (fun (i:Nat) (a:UInt8) (ha:s[i]? = some a) W=>index_str ha W);have HJ:=aW (fun (i:Nat) (a:UInt8) (ha:u[i]? = some a) W=>index_str ha W);obtain ⟨ns,hns⟩:∃ ns,s.length=ns:=⟨_,rfl⟩
 obtain ⟨nu,hnu⟩:∃ nu,u.length=nu:=⟨_,rfl⟩
 rw [hns] at h1 hs;rw [hnu] at h2 hu;have HNS:=aW hns;have HNU:=aW hnu;clear hT hns hnu;obtain ⟨S,hS⟩:∃ S:ByteArray,(⟨s.toArray⟩:ByteArray)=S:=⟨_,rfl⟩
 obtain ⟨U,hU⟩:∃ U:ByteArray,(⟨u.toArray⟩:ByteArray)=U:=⟨_,rfl⟩
 rw [hS] at h1 HI ⊢;rw [hU] at h2 HJ ⊢;clear hS hU;go_enter Tryz.func141,Tryz.ntmps141;go_wp2;go_loopg [5] ns (fun gk s5 wr => ∃ i:Nat,i≤ns∧i≤nu∧gk=ns-i∧s5=.int .i64 i∧Hid (T=ltB (s.drop i) (u.drop i))∧Hid (∃ q,wr=w.drewN q))
 case atStart=>exact ⟨0,Nat.zero_le _,Nat.zero_le _,rfl,by go_num,aW (by rw [List.drop_zero,List.drop_zero,HT.out]),aW ⟨0,rfl⟩⟩
 case round =>
  obtain ⟨i,hi,hiu,hgk,rfl,HQ,HW⟩:=hrel;have HG:=aW hgk;clear hgk;by_cases hlt:i<ns
  ·have hlt1:(i:Int)<ns:=by omega
   by_cases hlu:i<nu
   ·have hlu1:(i:Int)<nu:=by omega
    obtain ⟨a,ha⟩:∃ a,s[i]? = some a:=⟨_,List.getElem?_eq_getElem (by rw [HNS.out];exact hlt)⟩
    obtain ⟨b,hb⟩:∃ b,u[i]? = some b:=⟨_,List.getElem?_eq_getElem (by rw [HNU.out];exact hlu)⟩
    have x1:=HI.out i a ha;have x2:=HJ.out i b hb;have hq:=HQ.out;rw [ltB_at ha hb] at hq;obtain ⟨p,hp⟩:∃ p:Int,(a.toNat:Int)=p:=⟨_,rfl⟩
    obtain ⟨r,hr⟩:∃ r:Int,(b.toNat:Int)=r:=⟨_,rfl⟩
    have hpb:0≤p∧p<256:=by have:=a.toNat_lt;omega
    have hrb:0≤r∧r<256:=by have:=b.toNat_lt;omega
    have hpr:a=b ↔ p=r:=by
     constructor
     ·rintro rfl;omega
     ·intro e;apply UInt8.toNat_inj.1;omega
    have hlr:a<b ↔ p<r:=by rw [UInt8.lt_iff_toNat_lt];omega
    rw [hp] at x1;rw [hr] at x2;clear hp hr ha hb;by_cases hab:a=b
    ·rw [if_pos hab] at hq;have hpr2:=hpr.1 hab;subst hpr2;have HQ2:=aW hq;clear hq hpr hlr hab;go_wp2;go_quiet (fail);go_wp2;go_roundg (ns-(i+1))
     case measure=>rw [HG.out];omega
     case rel=>exact ⟨i+1,hlt,hlu,rfl,by go_num,HQ2,aW (drewE HW.out _)⟩
    ·rw [if_neg hab] at hq;have hnpr:¬ p=r:=fun e=>hab (hpr.2 e)
     have hne:(p == r)=false:=by simp [hnpr]
     have hne2:(p != r)=true:=by simp [hnpr]
     by_cases hplt:p<r
     ·have HQ2:=aW (show T=true by rw [hq,decide_eq_true_eq];exact hlr.2 hplt);clear hq hpr hlr hab;go_wp2;go_quiet (fail);go_wp2;go_quiet (fail);go_wp2;go_ret;exact ⟨by rw [HQ2.out];rfl,drewE (drewE HW.out _) _⟩
     ·have HQ2:=aW (show T=false by rw [hq,decide_eq_false_iff_not];exact fun h=>hplt (hlr.1 h));clear hq hpr hlr hab;go_wp2;go_quiet (fail);go_wp2;go_quiet (fail);go_wp2;go_ret;exact ⟨ret_bool (by rw [HQ2.out];rw [decide_eq_false_iff_not];omega),drewE (drewE HW.out _) _⟩
   ·have hlu1:¬ (i:Int)<nu:=by omega
    have HE:=aW (show T=decide (ns<nu) by rw [HQ.out,ltB_end (.inr (by rw [HNU.out];omega)) (by rw [HNS.out];omega) (by rw [HNU.out];omega),HNS.out,HNU.out]);go_wp2;go_ret;exact ⟨ret_bool (by rw [HE.out]),HW.out⟩
  ·have hlt1:¬ (i:Int)<ns:=by omega
   have HE:=aW (show T=decide (ns<nu) by rw [HQ.out,ltB_end (.inl (by rw [HNS.out];omega)) (by rw [HNS.out];omega) (by rw [HNU.out];omega),HNS.out,HNU.out]);go_wp2;go_ret;exact ⟨ret_bool (by rw [HE.out]),HW.out⟩
end Go.Proofs.YtgolomgmnanbpaaGreatDoor
namespace Go.Proofs.YtgolomgmnanbpaaGreatDoor
set_option linter.unusedVariables false
set_option linter.unusedSimpArgs false
open Go.RowKit
attribute [local go_sem] run_index_arr run_part_agg run_part_one run_field_agg
def LessFor (N:Nat):Prop:=∀ (a b:JV),nodesJ a+nodesJ b≤N→∀ (d d':Nat) (cs cs':List Value) (F F':Nat→Prop) (w:World),VR w F cs a→VR w F' cs' b→goodJ d a=true→goodJ d' b=true→Came a→Came b →
  Calls Tryz.prog 90 #[.agg cs.toArray,.agg cs'.toArray] w (BoolS (decide (cmpJ a b = -1)) w)
theorem rLess_step (N:Nat) (ih:LessFor N):LessFor (N+1):=by
  rintro ⟨k,n,s,kids,keys⟩ ⟨kq,jq,sq,kidsq,keysq⟩ hN d d' cs cs' F F' w hv hv' hR hR' hC hC';obtain ⟨hal,hdd,hrk⟩:=goodJ_out hR;obtain ⟨hal',hdd',hrk'⟩:=goodJ_out hR';unfold nodesJ at hN;obtain ⟨_,hin,hsl,hkl,hyl,hys,hck⟩:=hC.out;obtain ⟨_,hinq,hsl',hkl',hyl',hys',hck'⟩:=hC'.out;have hk6:=goodA_kind hal;have hk6':=goodA_kind hal';have HKA:=aW (fun W (h:Below w.heap.size w W)=>rKind_any cs k n s kids keys F W (hv.bel h) hal);have HKB:=aW (fun W (h:Below w.heap.size w W)=>rKind_any cs' kq jq sq kidsq keysq F' W (hv'.bel h) hal');obtain ⟨A,B,ca,cb,css,rfl,h1,h2,h3,h4,h5,h6,h7⟩:=hv.out;obtain ⟨Aq,Bq,caq,cbq,cssq,rfl,h1q,h2q,h3q,h4q,h5q,h6q,h7q⟩:=hv'.out;have HIH:=aW (fun (i:Nat) (x:JV) (hx:kids[i]? = some x)=>kid_cellsG h1 h6 hx);have HIH':=aW (fun (i:Nat) (x:JV) (hx:kidsq[i]? = some x)=>kid_cellsG h1q h6q hx);have HKY:=aW (show RdF w (fun _=>True) B (strV keys) from h7.mono fun _ _ _=>trivial);have HKY':=aW (show RdF w (fun _=>True) Bq (strV keysq) from h7q.mono fun _ _ _=>trivial);have HLS:=aW (fun (i:Nat) (x y:JV) (hx:kids[i]? = some x) (hy:kidsq[i]? = some y) (csx csy:List Value) W (hvx:VR W F csx x) (hvy:VR W F' csy y)=>(show Calls Tryz.prog 90 #[.agg csx.toArray,.agg csy.toArray] W (BoolS (decide (cmpJ x y = -1)) W)∧Calls Tryz.prog 90 #[.agg csy.toArray,.agg csx.toArray] W (BoolS (decide (cmpJ x y=1)) W) by
   obtain ⟨hn1,hn2⟩:=nodesL_at hx;obtain ⟨hn3,hn4⟩:=nodesL_at hy;have hmx:=List.mem_of_getElem? hx;have hmy:=List.mem_of_getElem? hy;have gx:=goodL_iff.1 hrk x hmx;have gy:=goodL_iff.1 hrk' y hmy;have e1:=ih x y (by omega) (d-1) (d'-1) csx csy F F' W hvx hvy gx gy (hck x hmx) (hck' y hmy);have e2:=ih y x (by omega) (d'-1) (d-1) csy csx F' F W hvy hvx gy gx (hck' y hmy) (hck x hmx);have e3:decide (cmpJ y x = -1)=decide (cmpJ x y=1):=by rw [cmpJ_anti gx gy];rw [decide_eq_decide];omega
   rw [e3] at e2;exact ⟨e1,e2⟩))
  have HSL:=aW (fun (t:List UInt8) (ht:t ∈ keys) (u:List UInt8) (hu:u ∈ keysq) W=>rAhead_any t u W (hys t ht) (hys' u hu));have HAS:=aW (fun W=>rAhead_any s sq W hsl hsl');obtain ⟨ra,hra⟩:∃ ra,rankJ (.mk k n s kids keys)=ra:=⟨_,rfl⟩
  obtain ⟨rb,hrb⟩:∃ rb,rankJ (.mk kq jq sq kidsq keysq)=rb:=⟨_,rfl⟩
  have hcj:cmpJ (.mk k n s kids keys) (.mk kq jq sq kidsq keysq)=(if rankJ (.mk k n s kids keys)≠rankJ (.mk kq jq sq kidsq keysq) then sgnI (rankJ (.mk k n s kids keys)-rankJ (.mk kq jq sq kidsq keysq)) else if k=3 then cmpN n jq else if k=4 then cmpB s sq else cmpL (decide (k=6)) kids keys kidsq keysq):=by rw [cmpJ];rfl
  rw [hra,hrb] at hcj;rw [hra] at HKA;rw [hrb] at HKB;have HCJ:=aW hcj;obtain ⟨R,hRR⟩:∃ R,cmpJ (.mk k n s kids keys) (.mk kq jq sq kidsq keysq)=R:=⟨_,rfl⟩
  rw [hRR] at HCJ ⊢;have HKD:=aW (show kq=k→(k == 6)=true∧keys.length=kids.length∧keysq.length=kidsq.length∨(k == 6)=false from fun e=>by
   by_cases h:k=6
   ·exact .inl ⟨by simpa using h,(keyed hal).1 h,(keyed hal').1 (e.trans h)⟩
   ·exact .inr (by simpa using h))
  have HSAME:=aW (fun e=>rank_same hal hal' (hra.trans (Eq.trans e hrb.symm)));obtain ⟨nk,hnk⟩:∃ nk,kids.length=nk:=⟨_,rfl⟩
  obtain ⟨ny,hny⟩:∃ ny,keys.length=ny:=⟨_,rfl⟩
  obtain ⟨nkq,hnkq⟩:∃ nkq,kidsq.length=nkq:=⟨_,rfl⟩
  obtain ⟨nyq,hnyq⟩:∃ nyq,keysq.length=nyq:=⟨_,rfl⟩
  rw [hnk,hny] at HKA;rw [hnkq,hnyq] at HKB;rw [hnk,hny,hnkq,hnyq] at HKD ⊢;rw [hnk] at h2 hkl;rw [hny] at h3 hyl;rw [hnkq] at h2q hkl';rw [hnyq] at h3q hyl';have HNK:=aW hnk;have HNY:=aW hny;have HNKQ:=aW hnkq;have HNYQ:=aW hnyq;have HTB:=aW (TwoB.new w 25 #[.int .i64 k,.int .i64 n,.string ⟨s.toArray⟩,.slice A nk ca,.slice B ny cb] #[.int .i64 kq,.int .i64 jq,.string ⟨sq.toArray⟩,.slice Aq nkq caq,.slice Bq nyq cbq]);clear hv hv' hcj hRR hal hal' hrk hrk' hR hR' hC hC' hck hck' h1 h1q h4 h4q h5 h5q h6 h6q h7 h7q hra hrb hnk hny hnkq hnyq ih hdd hdd' hys hys' hin hinq hN;have y1:w.heap.size≠w.heap.size+1:=by omega
  have y2:w.heap.size+1≠w.heap.size:=by omega
  by_cases hrr:ra=rb
  case neg =>
   have HR:=aW (show decide (R = -1)=decide (ra+1<rb+1) by
    rw [HCJ.out,if_pos hrr,decide_eq_decide];unfold sgnI;split
    ·omega
    split
    ·omega
    ·omega)
   obtain ⟨ka,hka⟩:∃ ka,ra+1=ka:=⟨_,rfl⟩
   obtain ⟨kb,hkb⟩:∃ kb,rb+1=kb:=⟨_,rfl⟩
   rw [hka] at HR HKA;rw [hkb] at HR HKB;have hne:ka≠kb:=by omega
   have hne1:(ka == kb)=false:=by simp [hne]
   have hne2:(ka != kb)=true:=by simp [hne]
   clear hka hkb hrr HCJ HSAME;go_enter Tryz.func90,Tryz.ntmps90;go_wp2;refine wp_region_held_drew (S:=fun w'=>TwoB w 25 #[.int .i64 k,.int .i64 n,.string ⟨s.toArray⟩,.slice A nk ca,.slice B ny cb] #[.int .i64 kq,.int .i64 jq,.string ⟨sq.toArray⟩,.slice Aq nkq caq,.slice Bq nyq cbq] w') (by kernel_rfl) (by exact HTB.out.drew) (fun hHeld=>?_);refine aY 0 6 (.agg #[.int .i64 k,.int .i64 n,.string ⟨s.toArray⟩,.slice A nk ca,.slice B ny cb]) rfl ?_ ?_
   ·intro W hSw;obtain ⟨⟨c1,f1,l1⟩,⟨c2,f2,l2⟩⟩:=And.intro hSw.1.rules hSw.2.1.rules;go_simp
   try simp only [pU]
   refine aY 2 8 (.agg #[.int .i64 kq,.int .i64 jq,.string ⟨sq.toArray⟩,.slice Aq nkq caq,.slice Bq nyq cbq]) rfl ?_ ?_
   ·intro W hSw;obtain ⟨⟨c1,f1,l1⟩,⟨c2,f2,l2⟩⟩:=And.intro hSw.1.rules hSw.2.1.rules;go_simp
   try simp only [pU]
   refine aV 1 7 rfl (fun K hK=>?_);go_simp;refine (HKA.out _ HTB.out.drew.2.2).mono ?_;rintro e w2 ⟨rfl,hb2⟩;have ht2:=HTB.out.drew.keep hb2;refine hK.out _ _ (ht2) (fun hHeld2=>?_);clear hK K hHeld
   try simp only [pU]
   refine aV 3 9 rfl (fun K hK=>?_);go_simp;refine (HKB.out _ ht2.2.2).mono ?_;rintro e w3 ⟨rfl,hb3⟩;have ht3:=ht2.keep hb3;refine hK.out _ _ (ht3) (fun hHeld2=>?_);clear hK K
   try simp only [pU]
   refine aY 4 10 (.bool true) rfl ?_ ?_
   ·intro W hSw;obtain ⟨⟨c1,f1,l1⟩,⟨c2,f2,l2⟩⟩:=And.intro hSw.1.rules hSw.2.1.rules;go_simp
   try simp only [pU]
   refine aX ?_;have HT3:=aW ht3;clear hb2 hb3 ht2 ht3;go_wp2;refine wp_region_held_drew (S:=fun w'=>TwoB w 25 #[.int .i64 k,.int .i64 n,.string ⟨s.toArray⟩,.slice A nk ca,.slice B ny cb] #[.int .i64 kq,.int .i64 jq,.string ⟨sq.toArray⟩,.slice Aq nkq caq,.slice Bq nyq cbq] w') (by kernel_rfl) (by exact HT3.out.drew) (fun hHeld=>?_);refine aY 0 11 (.agg #[.int .i64 k,.int .i64 n,.string ⟨s.toArray⟩,.slice A nk ca,.slice B ny cb]) rfl ?_ ?_
   ·intro W hSw;obtain ⟨⟨c1,f1,l1⟩,⟨c2,f2,l2⟩⟩:=And.intro hSw.1.rules hSw.2.1.rules;go_simp
   try simp only [pU]
   refine aY 2 13 (.agg #[.int .i64 kq,.int .i64 jq,.string ⟨sq.toArray⟩,.slice Aq nkq caq,.slice Bq nyq cbq]) rfl ?_ ?_
   ·intro W hSw;obtain ⟨⟨c1,f1,l1⟩,⟨c2,f2,l2⟩⟩:=And.intro hSw.1.rules hSw.2.1.rules;go_simp
   try simp only [pU]
   refine aV 1 12 rfl (fun K hK=>?_);go_simp;refine (HKA.out _ HT3.out.drew.2.2).mono ?_;rintro e w2 ⟨rfl,hb2⟩;have ht2:=HT3.out.drew.keep hb2;refine hK.out _ _ (ht2) (fun hHeld2=>?_);clear hK K hHeld
   try simp only [pU]
   refine aV 3 14 rfl (fun K hK=>?_);go_simp;refine (HKB.out _ ht2.2.2).mono ?_;rintro e w3 ⟨rfl,hb3⟩;have ht3:=ht2.keep hb3;refine hK.out _ _ (ht3) (fun hHeld2=>?_);clear hK K
   try simp only [pU]
   refine aY 4 15 (.bool (decide (ka<kb))) rfl ?_ ?_
   ·intro W hSw;obtain ⟨⟨c1,f1,l1⟩,⟨c2,f2,l2⟩⟩:=And.intro hSw.1.rules hSw.2.1.rules;go_simp
   try simp only [pU]
   refine aY 5 4 (.bool (decide (ka<kb))) rfl ?_ ?_
   ·intro W hSw;obtain ⟨⟨c1,f1,l1⟩,⟨c2,f2,l2⟩⟩:=And.intro hSw.1.rules hSw.2.1.rules;go_simp
   try simp only [pU]
   refine aX ?_;have HT4:=aW ht3;clear hb2 hb3 ht2 ht3;go_wp2;go_ret;exact ⟨by rw [HR.out];rfl,HT4.out.2.2⟩
  obtain ⟨ek,-,-⟩:=HSAME.out hrr;clear HSAME;subst hrr ek;have HCJ2:=aW (show R=if k=3 then cmpN n jq else if k=4 then cmpB s sq else cmpL (decide (k=6)) kids keys kidsq keysq by rw [HCJ.out,if_neg (show ¬ (ra≠ra) from fun h=>h rfl)]);clear HCJ;have hkd:=HKD.out rfl;clear HKD;obtain ⟨ka,hka⟩:∃ ka,ra+1=ka:=⟨_,rfl⟩
  rw [hka] at HKA HKB;clear hka;by_cases k3:k=3
  ·subst k3;have HR:=aW (show decide (R = -1)=decide (n<jq) by
    rw [HCJ2.out,if_pos rfl,decide_eq_decide];unfold cmpN sgnI;split
    ·omega
    split
    ·omega
    ·omega)
   clear hkd;go_enter Tryz.func90,Tryz.ntmps90;go_wp2;refine wp_region_held_drew (S:=fun w'=>TwoB w 25 #[.int .i64 3,.int .i64 n,.string ⟨s.toArray⟩,.slice A nk ca,.slice B ny cb] #[.int .i64 3,.int .i64 jq,.string ⟨sq.toArray⟩,.slice Aq nkq caq,.slice Bq nyq cbq] w') (by kernel_rfl) (by exact HTB.out.drew) (fun hHeld=>?_);refine aY 0 6 (.agg #[.int .i64 3,.int .i64 n,.string ⟨s.toArray⟩,.slice A nk ca,.slice B ny cb]) rfl ?_ ?_
   ·intro W hSw;obtain ⟨⟨c1,f1,l1⟩,⟨c2,f2,l2⟩⟩:=And.intro hSw.1.rules hSw.2.1.rules;go_simp
   try simp only [pU]
   refine aY 2 8 (.agg #[.int .i64 3,.int .i64 jq,.string ⟨sq.toArray⟩,.slice Aq nkq caq,.slice Bq nyq cbq]) rfl ?_ ?_
   ·intro W hSw;obtain ⟨⟨c1,f1,l1⟩,⟨c2,f2,l2⟩⟩:=And.intro hSw.1.rules hSw.2.1.rules;go_simp
   try simp only [pU]
   refine aV 1 7 rfl (fun K hK=>?_);go_simp;refine (HKA.out _ HTB.out.drew.2.2).mono ?_;rintro e w2 ⟨rfl,hb2⟩;have ht2:=HTB.out.drew.keep hb2;refine hK.out _ _ (ht2) (fun hHeld2=>?_);clear hK K hHeld
   try simp only [pU]
   refine aV 3 9 rfl (fun K hK=>?_);go_simp;refine (HKB.out _ ht2.2.2).mono ?_;rintro e w3 ⟨rfl,hb3⟩;have ht3:=ht2.keep hb3;refine hK.out _ _ (ht3) (fun hHeld2=>?_);clear hK K
   try simp only [pU]
   refine aY 4 10 (.bool false) rfl ?_ ?_
   ·intro W hSw;obtain ⟨⟨c1,f1,l1⟩,⟨c2,f2,l2⟩⟩:=And.intro hSw.1.rules hSw.2.1.rules;go_simp
   try simp only [pU]
   refine aX ?_;have HT3:=aW ht3;clear hb2 hb3 ht2 ht3;obtain ⟨c1,f1,l1⟩:=HT3.out.1.rules;obtain ⟨c2,f2,l2⟩:=HT3.out.2.1.rules;go_wp2;go_ret;exact ⟨by rw [HR.out];rfl,HT3.out.2.2⟩
  have k3b:(k == 3)=false:=by simp [k3]
  by_cases k4:k=4
  ·subst k4;have HR:=aW (show decide (R = -1)=ltB s sq by
    rw [HCJ2.out,if_neg k3,if_pos rfl,Bool.eq_iff_iff,decide_eq_true_eq];exact cmpB_neg)
   clear hkd;go_enter Tryz.func90,Tryz.ntmps90;go_wp2;refine wp_region_held_drew (S:=fun w'=>TwoB w 25 #[.int .i64 4,.int .i64 n,.string ⟨s.toArray⟩,.slice A nk ca,.slice B ny cb] #[.int .i64 4,.int .i64 jq,.string ⟨sq.toArray⟩,.slice Aq nkq caq,.slice Bq nyq cbq] w') (by kernel_rfl) (by exact HTB.out.drew) (fun hHeld=>?_);refine aY 0 6 (.agg #[.int .i64 4,.int .i64 n,.string ⟨s.toArray⟩,.slice A nk ca,.slice B ny cb]) rfl ?_ ?_
   ·intro W hSw;obtain ⟨⟨c1,f1,l1⟩,⟨c2,f2,l2⟩⟩:=And.intro hSw.1.rules hSw.2.1.rules;go_simp
   try simp only [pU]
   refine aY 2 8 (.agg #[.int .i64 4,.int .i64 jq,.string ⟨sq.toArray⟩,.slice Aq nkq caq,.slice Bq nyq cbq]) rfl ?_ ?_
   ·intro W hSw;obtain ⟨⟨c1,f1,l1⟩,⟨c2,f2,l2⟩⟩:=And.intro hSw.1.rules hSw.2.1.rules;go_simp
   try simp only [pU]
   refine aV 1 7 rfl (fun K hK=>?_);go_simp;refine (HKA.out _ HTB.out.drew.2.2).mono ?_;rintro e w2 ⟨rfl,hb2⟩;have ht2:=HTB.out.drew.keep hb2;refine hK.out _ _ (ht2) (fun hHeld2=>?_);clear hK K hHeld
   try simp only [pU]
   refine aV 3 9 rfl (fun K hK=>?_);go_simp;refine (HKB.out _ ht2.2.2).mono ?_;rintro e w3 ⟨rfl,hb3⟩;have ht3:=ht2.keep hb3;refine hK.out _ _ (ht3) (fun hHeld2=>?_);clear hK K
   try simp only [pU]
   refine aY 4 10 (.bool false) rfl ?_ ?_
   ·intro W hSw;obtain ⟨⟨c1,f1,l1⟩,⟨c2,f2,l2⟩⟩:=And.intro hSw.1.rules hSw.2.1.rules;go_simp
   try simp only [pU]
   refine aX ?_;have HT3:=aW ht3;clear hb2 hb3 ht2 ht3;obtain ⟨c1,f1,l1⟩:=HT3.out.1.rules;obtain ⟨c2,f2,l2⟩:=HT3.out.2.1.rules;go_wp2_with fail;refine (HAS.out _).mono ?_;rintro e w4 ⟨rfl,q,rfl⟩;go_wp2;go_ret;exact ⟨by rw [HR.out];rfl,bel_drewN HT3.out.2.2 q⟩
  have k4b:(k == 4)=false:=by simp [k4]
  have HR:=aW (show R=cmpL (decide (k=6)) kids keys kidsq keysq by rw [HCJ2.out,if_neg k3,if_neg k4]);have HDONE:=aW (fun (i:Nat)=>cmpL_done (decide (k=6)) kids kidsq (keys.drop i) (keysq.drop i) (i:=i));rw [HNK.out,HNKQ.out] at HDONE;clear HCJ2 HAS;go_enter Tryz.func90,Tryz.ntmps90;go_wp2;refine wp_region_held_drew (S:=fun w'=>TwoB w 25 #[.int .i64 k,.int .i64 n,.string ⟨s.toArray⟩,.slice A nk ca,.slice B ny cb] #[.int .i64 k,.int .i64 jq,.string ⟨sq.toArray⟩,.slice Aq nkq caq,.slice Bq nyq cbq] w') (by kernel_rfl) (by exact HTB.out.drew) (fun hHeld=>?_);refine aY 0 6 (.agg #[.int .i64 k,.int .i64 n,.string ⟨s.toArray⟩,.slice A nk ca,.slice B ny cb]) rfl ?_ ?_
  ·intro W hSw;obtain ⟨⟨c1,f1,l1⟩,⟨c2,f2,l2⟩⟩:=And.intro hSw.1.rules hSw.2.1.rules;go_simp
  try simp only [pU]
  refine aY 2 8 (.agg #[.int .i64 k,.int .i64 jq,.string ⟨sq.toArray⟩,.slice Aq nkq caq,.slice Bq nyq cbq]) rfl ?_ ?_
  ·intro W hSw;obtain ⟨⟨c1,f1,l1⟩,⟨c2,f2,l2⟩⟩:=And.intro hSw.1.rules hSw.2.1.rules;go_simp
  try simp only [pU]
  refine aV 1 7 rfl (fun K hK=>?_);go_simp;refine (HKA.out _ HTB.out.drew.2.2).mono ?_;rintro e w2 ⟨rfl,hb2⟩;have ht2:=HTB.out.drew.keep hb2;refine hK.out _ _ (ht2) (fun hHeld2=>?_);clear hK K hHeld
  try simp only [pU]
  refine aV 3 9 rfl (fun K hK=>?_);go_simp;refine (HKB.out _ ht2.2.2).mono ?_;rintro e w3 ⟨rfl,hb3⟩;have ht3:=ht2.keep hb3;refine hK.out _ _ (ht3) (fun hHeld2=>?_);clear hK K
  try simp only [pU]
  refine aY 4 10 (.bool false) rfl ?_ ?_
  ·intro W hSw;obtain ⟨⟨c1,f1,l1⟩,⟨c2,f2,l2⟩⟩:=And.intro hSw.1.rules hSw.2.1.rules;go_simp
  try simp only [pU]
  refine aX ?_;have HT3:=aW ht3;clear hb2 hb3 ht2 ht3;obtain ⟨c1,f1,l1⟩:=HT3.out.1.rules;obtain ⟨c2,f2,l2⟩:=HT3.out.2.1.rules;go_wp2;clear c1 f1 l1 c2 f2 l2;go_loopg [5] nk (fun gk s5 wr => ∃ i:Nat,i≤nk∧i≤nkq∧gk=nk-i∧s5=.int .i64 i∧Hid (R=cmpL (decide (k=6)) (kids.drop i) (keys.drop i) (kidsq.drop i) (keysq.drop i))∧Hid (TwoB w 25 #[.int .i64 k,.int .i64 n,.string ⟨s.toArray⟩,.slice A nk ca,.slice B ny cb] #[.int .i64 k,.int .i64 jq,.string ⟨sq.toArray⟩,.slice Aq nkq caq,.slice Bq nyq cbq] wr))
  case atStart=>exact ⟨0,Nat.zero_le _,Nat.zero_le _,rfl,by go_num,aW (by rw [List.drop_zero,List.drop_zero,List.drop_zero,List.drop_zero,HR.out]),HT3⟩
  case round =>
   obtain ⟨i,hi,hiq,hgk,rfl,HQ,HB⟩:=hrel;have HG:=aW hgk;clear hgk;obtain ⟨c1,f1,l1⟩:=HB.out.1.rules;obtain ⟨c2,f2,l2⟩:=HB.out.2.1.rules;by_cases hlt:i<nk
   case neg =>
    have hlt1:¬ (i:Int)<nk:=by omega
    have HE:=aW (show decide (R = -1)=decide (nk<nkq) by
     rw [HQ.out,HDONE.out i (by omega) hi hiq,decide_eq_decide];unfold sgnI;split
     ·omega
     split
     ·omega
     ·omega)
    go_wp2;go_ret;exact ⟨by rw [HE.out];rfl,HB.out.2.2⟩
   have hlt1:(i:Int)<nk:=by omega
   by_cases hlq:i<nkq
   case neg =>
    have hlq1:¬ (i:Int)<nkq:=by omega
    have HE:=aW (show decide (R = -1)=decide (nk<nkq) by
     rw [HQ.out,HDONE.out i (by omega) hi hiq,decide_eq_decide];unfold sgnI;split
     ·omega
     split
     ·omega
     ·omega)
    go_wp2;go_ret;exact ⟨by rw [HE.out];rfl,HB.out.2.2⟩
   have hlq1:(i:Int)<nkq:=by omega
   obtain ⟨x,hx⟩:∃ x,kids[i]? = some x:=⟨_,List.getElem?_eq_getElem (by rw [HNK.out];omega)⟩
   obtain ⟨y,hy⟩:∃ y,kidsq[i]? = some y:=⟨_,List.getElem?_eq_getElem (by rw [HNKQ.out];omega)⟩
   have hst:=HQ.out;rw [cmpL_at (o:=decide (k=6)) (ks:=keys) (ls:=keysq) hx hy] at hst;obtain ⟨b,o,k1,n1,s1,A1,na1,ca1,B1,nb1,cb1,rfl,hb,hvx,hz⟩:=HIH.out i x hx;obtain ⟨b',o',k2,n2,s2,A2,na2,ca2,B2,nb2,cb2,rfl,hb',hvy,hz'⟩:=HIH'.out i y hy;have HL1:=aW (fun W (h:Below w.heap.size w W)=>(HLS.out i x y hx hy _ _ W (hvx.bel h) (hvy.bel h)).1);have HL2:=aW (fun W (h:Below w.heap.size w W)=>(HLS.out i x y hx hy _ _ W (hvx.bel h) (hvy.bel h)).2);have HZ:=aW hz;have HZ':=aW hz';have hxy3:=cmpJ_3 x y;obtain ⟨xy,hxy⟩:∃ xy,cmpJ x y=xy:=⟨_,rfl⟩
   rw [hxy] at hst hxy3 HL1 HL2;clear hz hz' hvx hvy hx hy hxy;have hkk:((k == 6)=true∧∃ (t u:List UInt8) (bk ok bkq okq:Nat),t ∈ keys∧u ∈ keysq∧keyC (decide (k=6)) (keys.drop i) (keysq.drop i)=cmpB t u∧i<ny∧i<nyq∧B=some ⟨bk,ok,none⟩∧Bq=some ⟨bkq,okq,none⟩∧(∀ W,Below w.heap.size w W→W.cell? ⟨bk,ok+i,none⟩=some (.string ⟨t.toArray⟩)∧W.cell? ⟨bkq,okq+i,none⟩=some (.string ⟨u.toArray⟩)))∨((k == 6)=false∧keyC (decide (k=6)) (keys.drop i) (keysq.drop i)=0):=by
    rcases hkd with ⟨h6,e1,e2⟩ | h6
    ·refine .inl ⟨h6,?_⟩;obtain ⟨t,ht⟩:∃ t,keys[i]? = some t:=⟨_,List.getElem?_eq_getElem (by rw [HNY.out];omega)⟩
     obtain ⟨u,hu⟩:∃ u,keysq[i]? = some u:=⟨_,List.getElem?_eq_getElem (by rw [HNYQ.out];omega)⟩
     obtain ⟨d1,o1,rfl,hd1⟩:=strV_some HKY.out (by rw [HNY.out];omega);obtain ⟨d2,o2,rfl,hd2⟩:=strV_some HKY'.out (by rw [HNYQ.out];omega);refine ⟨t,u,d1,o1,d2,o2,List.mem_of_getElem? ht,List.mem_of_getElem? hu,?_,by omega,by omega,rfl,rfl,fun W hW=>⟨strV_cell (n:=0) (HKY.out.keep (KeepF.of_below hW)) ht,strV_cell (n:=0) (HKY'.out.keep (KeepF.of_below hW)) hu⟩⟩;unfold keyC;rw [if_pos (by simpa using h6),head_drop ht,head_drop hu]
    ·refine .inr ⟨h6,?_⟩;unfold keyC;rw [if_neg (by simpa using h6)]
   clear hkd;rcases hkk with ⟨h6,t,u,bk,ok,bkq,okq,hmt,hmu,hkc,hiy,hiyq,rfl,rfl,hkcell⟩ | ⟨h6,hkc⟩
   ·rw [hkc] at hst;have HKC:=aW hkcell;obtain ⟨p1,p2⟩:=hkcell _ HB.out.2.2;by_cases htu:t=u
    case neg =>
     have hb1:(t == u)=false:=by simp [htu]
     have hb2:(t != u)=true:=by simp [htu]
     have hc0:cmpB t u≠0:=fun e=>htu (cmpB_zero.1 e)
     have HE:=aW (show decide (R = -1)=ltB t u by
      have e:R=cmpB t u:=by rw [hst,lexI_ne (by rw [lexI_ne hc0];exact hc0),lexI_ne hc0]
      rw [e,Bool.eq_iff_iff,decide_eq_true_eq];exact cmpB_neg)
     have HAH:=aW (fun W=>HSL.out t hmt u hmu W);clear hst hkcell hkc;go_wp2;go_quiet (fail);have HBq:=aW (HB.out.drewN nq);go_wp2;refine wp_region_held_drew (S:=fun w'=>TwoB w 25 #[.int .i64 k,.int .i64 n,.string ⟨s.toArray⟩,.slice (some ⟨b,o,none⟩) nk ca,.slice (some ⟨bk,ok,none⟩) ny cb] #[.int .i64 k,.int .i64 jq,.string ⟨sq.toArray⟩,.slice (some ⟨b',o',none⟩) nkq caq,.slice (some ⟨bkq,okq,none⟩) nyq cbq] w') (by kernel_rfl) (by exact HBq.out.drew) (fun hHeld=>?_);refine aY 0 62 (.pointer (some ⟨w.heap.size,4,none⟩)) rfl ?_ ?_
     ·intro W hSw;obtain ⟨⟨c1,f1,l1⟩,⟨c2,f2,l2⟩⟩:=And.intro hSw.1.rules hSw.2.1.rules;obtain ⟨p1,p2⟩:=HKC.out W hSw.2.2;go_simp
     try simp only [pU]
     refine aY 1 63 (.slice (some ⟨bk,ok,none⟩) ny cb) rfl ?_ ?_
     ·intro W hSw;obtain ⟨⟨c1,f1,l1⟩,⟨c2,f2,l2⟩⟩:=And.intro hSw.1.rules hSw.2.1.rules;obtain ⟨p1,p2⟩:=HKC.out W hSw.2.2;go_simp
     try simp only [pU]
     refine aY 2 64 (.int .i64 i) rfl ?_ ?_
     ·intro W hSw;obtain ⟨⟨c1,f1,l1⟩,⟨c2,f2,l2⟩⟩:=And.intro hSw.1.rules hSw.2.1.rules;obtain ⟨p1,p2⟩:=HKC.out W hSw.2.2;go_simp
     try simp only [pU]
     refine aY 3 65 (.pointer (some ⟨bk,ok+i,none⟩)) rfl ?_ ?_
     ·intro W hSw;obtain ⟨⟨c1,f1,l1⟩,⟨c2,f2,l2⟩⟩:=And.intro hSw.1.rules hSw.2.1.rules;obtain ⟨p1,p2⟩:=HKC.out W hSw.2.2;go_simp
     try simp only [pU]
     refine aY 4 66 (.string ⟨t.toArray⟩) rfl ?_ ?_
     ·intro W hSw;obtain ⟨⟨c1,f1,l1⟩,⟨c2,f2,l2⟩⟩:=And.intro hSw.1.rules hSw.2.1.rules;obtain ⟨p1,p2⟩:=HKC.out W hSw.2.2;go_simp
     try simp only [pU]
     refine aY 5 67 (.pointer (some ⟨w.heap.size+1,4,none⟩)) rfl ?_ ?_
     ·intro W hSw;obtain ⟨⟨c1,f1,l1⟩,⟨c2,f2,l2⟩⟩:=And.intro hSw.1.rules hSw.2.1.rules;obtain ⟨p1,p2⟩:=HKC.out W hSw.2.2;go_simp
     try simp only [pU]
     refine aY 6 68 (.slice (some ⟨bkq,okq,none⟩) nyq cbq) rfl ?_ ?_
     ·intro W hSw;obtain ⟨⟨c1,f1,l1⟩,⟨c2,f2,l2⟩⟩:=And.intro hSw.1.rules hSw.2.1.rules;obtain ⟨p1,p2⟩:=HKC.out W hSw.2.2;go_simp
     try simp only [pU]
     refine aY 7 69 (.int .i64 i) rfl ?_ ?_
     ·intro W hSw;obtain ⟨⟨c1,f1,l1⟩,⟨c2,f2,l2⟩⟩:=And.intro hSw.1.rules hSw.2.1.rules;obtain ⟨p1,p2⟩:=HKC.out W hSw.2.2;go_simp
     try simp only [pU]
     refine aY 8 70 (.pointer (some ⟨bkq,okq+i,none⟩)) rfl ?_ ?_
     ·intro W hSw;obtain ⟨⟨c1,f1,l1⟩,⟨c2,f2,l2⟩⟩:=And.intro hSw.1.rules hSw.2.1.rules;obtain ⟨p1,p2⟩:=HKC.out W hSw.2.2;go_simp
     try simp only [pU]
     refine aY 9 71 (.string ⟨u.toArray⟩) rfl ?_ ?_
     ·intro W hSw;obtain ⟨⟨c1,f1,l1⟩,⟨c2,f2,l2⟩⟩:=And.intro hSw.1.rules hSw.2.1.rules;obtain ⟨p1,p2⟩:=HKC.out W hSw.2.2;go_simp
     try simp only [pU]
     refine aV 10 72 rfl (fun K hK=>?_);go_simp;refine (HAH.out _).mono ?_;rintro e w4 ⟨rfl,q4,rfl⟩;have ht4:=HBq.out.drew.drewN q4;refine hK.out _ _ (ht4) (fun hHeld2=>?_);clear hK K hHeld
     try simp only [pU]
     refine aY 11 4 (.bool (ltB t u)) rfl ?_ ?_
     ·intro W hSw;obtain ⟨⟨c1,f1,l1⟩,⟨c2,f2,l2⟩⟩:=And.intro hSw.1.rules hSw.2.1.rules;obtain ⟨p1,p2⟩:=HKC.out W hSw.2.2;go_simp
     try simp only [pU]
     refine aX ?_;have HT4:=aW ht4;clear ht4;go_wp2;go_ret;exact ⟨by rw [HE.out];rfl,HT4.out.2.2⟩
    subst htu;have hst2:R=lexI xy (cmpL (decide (k=6)) (kids.drop (i+1)) (keys.drop (i+1)) (kidsq.drop (i+1)) (keysq.drop (i+1))):=by
     rw [hst,show cmpB t t=0 from cmpB_zero.2 rfl,lexI_0]
    have HST:=aW hst2;clear hst hst2 hkcell hkc;go_wp2;go_quiet (fail);have HBq:=aW (HB.out.drewN nq);clear c1 f1 l1 c2 f2 l2;rcases hxy3 with rfl | rfl | rfl
    ·have HE:=aW (show R = -1 by rw [HST.out];exact lexI_ne (by decide));have HLa:=aW (show ∀ W,Below w.heap.size w W→Calls Tryz.prog 90 #[.agg #[.int .i64 k1,.int .i64 n1,.string s1,.slice A1 na1 ca1,.slice B1 nb1 cb1],.agg #[.int .i64 k2,.int .i64 n2,.string s2,.slice A2 na2 ca2,.slice B2 nb2 cb2]] W (BoolS true W) from fun W h=>by have:=HL1.out W h;simpa using this);go_wp2;refine wp_region_held_drew (S:=fun w'=>TwoB w 25 #[.int .i64 k,.int .i64 n,.string ⟨s.toArray⟩,.slice (some ⟨b,o,none⟩) nk ca,.slice (some ⟨bk,ok,none⟩) ny cb] #[.int .i64 k,.int .i64 jq,.string ⟨sq.toArray⟩,.slice (some ⟨b',o',none⟩) nkq caq,.slice (some ⟨bkq,okq,none⟩) nyq cbq] w') (by kernel_rfl) (by exact HBq.out.drew) (fun hHeld=>?_);refine tZ 0 73 (.pointer (some ⟨w.heap.size,3,none⟩)) rfl ?_
     try simp only [pU]
     refine tZ 1 74 (.slice (some ⟨b,o,none⟩) nk ca) rfl ?_
     try simp only [pU]
     refine tZ 2 75 (.int .i64 i) rfl ?_
     try simp only [pU]
     refine tZ 3 76 (.pointer (some ⟨b,o+i*5,none⟩)) rfl ?_
     try simp only [pU]
     refine tZ 4 77 (.agg #[.int .i64 k1,.int .i64 n1,.string s1,.slice A1 na1 ca1,.slice B1 nb1 cb1]) rfl ?_
     try simp only [pU]
     refine tZ 5 78 (.pointer (some ⟨w.heap.size+1,3,none⟩)) rfl ?_
     try simp only [pU]
     refine tZ 6 79 (.slice (some ⟨b',o',none⟩) nkq caq) rfl ?_
     try simp only [pU]
     refine tZ 7 80 (.int .i64 i) rfl ?_
     try simp only [pU]
     refine tZ 8 81 (.pointer (some ⟨b',o'+i*5,none⟩)) rfl ?_
     try simp only [pU]
     refine tZ 9 82 (.agg #[.int .i64 k2,.int .i64 n2,.string s2,.slice A2 na2 ca2,.slice B2 nb2 cb2]) rfl ?_
     try simp only [pU]
     refine aV 10 83 rfl (fun K hK=>?_);go_simp;refine (HLa.out _ HBq.out.drew.2.2).mono ?_;rintro e w5 ⟨rfl,hb5⟩;have hw5:=HBq.out.drew.keep hb5;refine hK.out _ _ (hw5) (fun hHeld2=>?_);clear hK K hHeld
     try simp only [pU]
     refine aX ?_;have HT5:=aW hw5;clear hb5 hw5;go_wp2;go_ret;exact ⟨by rw [HE.out];rfl,HT5.out.2.2⟩
    ·have HE:=aW (show R=cmpL (decide (k=6)) (kids.drop (i+1)) (keys.drop (i+1)) (kidsq.drop (i+1)) (keysq.drop (i+1)) by rw [HST.out];rfl);have HLa:=aW (show ∀ W,Below w.heap.size w W→Calls Tryz.prog 90 #[.agg #[.int .i64 k1,.int .i64 n1,.string s1,.slice A1 na1 ca1,.slice B1 nb1 cb1],.agg #[.int .i64 k2,.int .i64 n2,.string s2,.slice A2 na2 ca2,.slice B2 nb2 cb2]] W (BoolS false W) from fun W h=>by have:=HL1.out W h;simpa using this);have HLb:=aW (show ∀ W,Below w.heap.size w W→Calls Tryz.prog 90 #[.agg #[.int .i64 k2,.int .i64 n2,.string s2,.slice A2 na2 ca2,.slice B2 nb2 cb2],.agg #[.int .i64 k1,.int .i64 n1,.string s1,.slice A1 na1 ca1,.slice B1 nb1 cb1]] W (BoolS false W) from fun W h=>by have:=HL2.out W h;simpa using this);go_wp2;refine wp_region_held_drew (S:=fun w'=>TwoB w 25 #[.int .i64 k,.int .i64 n,.string ⟨s.toArray⟩,.slice (some ⟨b,o,none⟩) nk ca,.slice (some ⟨bk,ok,none⟩) ny cb] #[.int .i64 k,.int .i64 jq,.string ⟨sq.toArray⟩,.slice (some ⟨b',o',none⟩) nkq caq,.slice (some ⟨bkq,okq,none⟩) nyq cbq] w') (by kernel_rfl) (by exact HBq.out.drew) (fun hHeld=>?_);refine tZ 0 73 (.pointer (some ⟨w.heap.size,3,none⟩)) rfl ?_
     try simp only [pU]
     refine tZ 1 74 (.slice (some ⟨b,o,none⟩) nk ca) rfl ?_
     try simp only [pU]
     refine tZ 2 75 (.int .i64 i) rfl ?_
     try simp only [pU]
     refine tZ 3 76 (.pointer (some ⟨b,o+i*5,none⟩)) rfl ?_
     try simp only [pU]
     refine tZ 4 77 (.agg #[.int .i64 k1,.int .i64 n1,.string s1,.slice A1 na1 ca1,.slice B1 nb1 cb1]) rfl ?_
     try simp only [pU]
     refine tZ 5 78 (.pointer (some ⟨w.heap.size+1,3,none⟩)) rfl ?_
     try simp only [pU]
     refine tZ 6 79 (.slice (some ⟨b',o',none⟩) nkq caq) rfl ?_
     try simp only [pU]
     refine tZ 7 80 (.int .i64 i) rfl ?_
     try simp only [pU]
     refine tZ 8 81 (.pointer (some ⟨b',o'+i*5,none⟩)) rfl ?_
     try simp only [pU]
     refine tZ 9 82 (.agg #[.int .i64 k2,.int .i64 n2,.string s2,.slice A2 na2 ca2,.slice B2 nb2 cb2]) rfl ?_
     try simp only [pU]
     refine aV 10 83 rfl (fun K hK=>?_);go_simp;refine (HLa.out _ HBq.out.drew.2.2).mono ?_;rintro e w5 ⟨rfl,hb5⟩;have hw5:=HBq.out.drew.keep hb5;refine hK.out _ _ (hw5) (fun hHeld2=>?_);clear hK K hHeld
     try simp only [pU]
     refine aX ?_;have HT5:=aW hw5;clear hb5 hw5;go_wp2;refine wp_region_held_drew (S:=fun w'=>TwoB w 25 #[.int .i64 k,.int .i64 n,.string ⟨s.toArray⟩,.slice (some ⟨b,o,none⟩) nk ca,.slice (some ⟨bk,ok,none⟩) ny cb] #[.int .i64 k,.int .i64 jq,.string ⟨sq.toArray⟩,.slice (some ⟨b',o',none⟩) nkq caq,.slice (some ⟨bkq,okq,none⟩) nyq cbq] w') (by kernel_rfl) (by exact HT5.out.drew) (fun hHeld=>?_);refine tZ 0 84 (.pointer (some ⟨w.heap.size+1,3,none⟩)) rfl ?_
     try simp only [pU]
     refine tZ 1 85 (.slice (some ⟨b',o',none⟩) nkq caq) rfl ?_
     try simp only [pU]
     refine tZ 2 86 (.int .i64 i) rfl ?_
     try simp only [pU]
     refine tZ 3 87 (.pointer (some ⟨b',o'+i*5,none⟩)) rfl ?_
     try simp only [pU]
     refine tZ 4 88 (.agg #[.int .i64 k2,.int .i64 n2,.string s2,.slice A2 na2 ca2,.slice B2 nb2 cb2]) rfl ?_
     try simp only [pU]
     refine tZ 5 89 (.pointer (some ⟨w.heap.size,3,none⟩)) rfl ?_
     try simp only [pU]
     refine tZ 6 90 (.slice (some ⟨b,o,none⟩) nk ca) rfl ?_
     try simp only [pU]
     refine tZ 7 91 (.int .i64 i) rfl ?_
     try simp only [pU]
     refine tZ 8 92 (.pointer (some ⟨b,o+i*5,none⟩)) rfl ?_
     try simp only [pU]
     refine tZ 9 93 (.agg #[.int .i64 k1,.int .i64 n1,.string s1,.slice A1 na1 ca1,.slice B1 nb1 cb1]) rfl ?_
     try simp only [pU]
     refine aV 10 94 rfl (fun K hK=>?_);go_simp;refine (HLb.out _ HT5.out.drew.2.2).mono ?_;rintro e w6 ⟨rfl,hb5⟩;have hw6:=HT5.out.drew.keep hb5;refine hK.out _ _ (hw6) (fun hHeld2=>?_);clear hK K hHeld
     try simp only [pU]
     refine aX ?_;have HT6:=aW hw6;clear hb5 hw6;go_wp2;go_roundg (nk-(i+1))
     case measure=>rw [HG.out];omega
     case rel=>exact ⟨i+1,hlt,hlq,rfl,by go_num,HE,HT6⟩
    ·have HE:=aW (show R=1 by rw [HST.out];exact lexI_ne (by decide));have HLa:=aW (show ∀ W,Below w.heap.size w W→Calls Tryz.prog 90 #[.agg #[.int .i64 k1,.int .i64 n1,.string s1,.slice A1 na1 ca1,.slice B1 nb1 cb1],.agg #[.int .i64 k2,.int .i64 n2,.string s2,.slice A2 na2 ca2,.slice B2 nb2 cb2]] W (BoolS false W) from fun W h=>by have:=HL1.out W h;simpa using this);have HLb:=aW (show ∀ W,Below w.heap.size w W→Calls Tryz.prog 90 #[.agg #[.int .i64 k2,.int .i64 n2,.string s2,.slice A2 na2 ca2,.slice B2 nb2 cb2],.agg #[.int .i64 k1,.int .i64 n1,.string s1,.slice A1 na1 ca1,.slice B1 nb1 cb1]] W (BoolS true W) from fun W h=>by have:=HL2.out W h;simpa using this);go_wp2;refine wp_region_held_drew (S:=fun w'=>TwoB w 25 #[.int .i64 k,.int .i64 n,.string ⟨s.toArray⟩,.slice (some ⟨b,o,none⟩) nk ca,.slice (some ⟨bk,ok,none⟩) ny cb] #[.int .i64 k,.int .i64 jq,.string ⟨sq.toArray⟩,.slice (some ⟨b',o',none⟩) nkq caq,.slice (some ⟨bkq,okq,none⟩) nyq cbq] w') (by kernel_rfl) (by exact HBq.out.drew) (fun hHeld=>?_);refine tZ 0 73 (.pointer (some ⟨w.heap.size,3,none⟩)) rfl ?_
     try simp only [pU]
     refine tZ 1 74 (.slice (some ⟨b,o,none⟩) nk ca) rfl ?_
     try simp only [pU]
     refine tZ 2 75 (.int .i64 i) rfl ?_
     try simp only [pU]
     refine tZ 3 76 (.pointer (some ⟨b,o+i*5,none⟩)) rfl ?_
     try simp only [pU]
     refine tZ 4 77 (.agg #[.int .i64 k1,.int .i64 n1,.string s1,.slice A1 na1 ca1,.slice B1 nb1 cb1]) rfl ?_
     try simp only [pU]
     refine tZ 5 78 (.pointer (some ⟨w.heap.size+1,3,none⟩)) rfl ?_
     try simp only [pU]
     refine tZ 6 79 (.slice (some ⟨b',o',none⟩) nkq caq) rfl ?_
     try simp only [pU]
     refine tZ 7 80 (.int .i64 i) rfl ?_
     try simp only [pU]
     refine tZ 8 81 (.pointer (some ⟨b',o'+i*5,none⟩)) rfl ?_
     try simp only [pU]
     refine tZ 9 82 (.agg #[.int .i64 k2,.int .i64 n2,.string s2,.slice A2 na2 ca2,.slice B2 nb2 cb2]) rfl ?_
     try simp only [pU]
     refine aV 10 83 rfl (fun K hK=>?_);go_simp;refine (HLa.out _ HBq.out.drew.2.2).mono ?_;rintro e w5 ⟨rfl,hb5⟩;have hw5:=HBq.out.drew.keep hb5;refine hK.out _ _ (hw5) (fun hHeld2=>?_);clear hK K hHeld
     try simp only [pU]
     refine aX ?_;have HT5:=aW hw5;clear hb5 hw5;go_wp2;refine wp_region_held_drew (S:=fun w'=>TwoB w 25 #[.int .i64 k,.int .i64 n,.string ⟨s.toArray⟩,.slice (some ⟨b,o,none⟩) nk ca,.slice (some ⟨bk,ok,none⟩) ny cb] #[.int .i64 k,.int .i64 jq,.string ⟨sq.toArray⟩,.slice (some ⟨b',o',none⟩) nkq caq,.slice (some ⟨bkq,okq,none⟩) nyq cbq] w') (by kernel_rfl) (by exact HT5.out.drew) (fun hHeld=>?_);refine tZ 0 84 (.pointer (some ⟨w.heap.size+1,3,none⟩)) rfl ?_
     try simp only [pU]
     refine tZ 1 85 (.slice (some ⟨b',o',none⟩) nkq caq) rfl ?_
     try simp only [pU]
     refine tZ 2 86 (.int .i64 i) rfl ?_
     try simp only [pU]
     refine tZ 3 87 (.pointer (some ⟨b',o'+i*5,none⟩)) rfl ?_
     try simp only [pU]
     refine tZ 4 88 (.agg #[.int .i64 k2,.int .i64 n2,.string s2,.slice A2 na2 ca2,.slice B2 nb2 cb2]) rfl ?_
     try simp only [pU]
     refine tZ 5 89 (.pointer (some ⟨w.heap.size,3,none⟩)) rfl ?_
     try simp only [pU]
     refine tZ 6 90 (.slice (some ⟨b,o,none⟩) nk ca) rfl ?_
     try simp only [pU]
     refine tZ 7 91 (.int .i64 i) rfl ?_
     try simp only [pU]
     refine tZ 8 92 (.pointer (some ⟨b,o+i*5,none⟩)) rfl ?_
     try simp only [pU]
     refine tZ 9 93 (.agg #[.int .i64 k1,.int .i64 n1,.string s1,.slice A1 na1 ca1,.slice B1 nb1 cb1]) rfl ?_
     try simp only [pU]
     refine aV 10 94 rfl (fun K hK=>?_);go_simp;refine (HLb.out _ HT5.out.drew.2.2).mono ?_;rintro e w6 ⟨rfl,hb5⟩;have hw6:=HT5.out.drew.keep hb5;refine hK.out _ _ (hw6) (fun hHeld2=>?_);clear hK K hHeld
     try simp only [pU]
     refine aX ?_;have HT6:=aW hw6;clear hb5 hw6;go_wp2;go_ret;exact ⟨by rw [HE.out];rfl,HT6.out.2.2⟩
   ·rw [hkc] at hst;have hst2:R=lexI xy (cmpL (decide (k=6)) (kids.drop (i+1)) (keys.drop (i+1)) (kidsq.drop (i+1)) (keysq.drop (i+1))):=by
     rw [hst,lexI_0]
    have HST:=aW hst2;clear hst hst2 hkc;go_wp2;go_quiet (fail);have HBq:=aW (HB.out.drewN nq);clear c1 f1 l1 c2 f2 l2;rcases hxy3 with rfl | rfl | rfl
    ·have HE:=aW (show R = -1 by rw [HST.out];exact lexI_ne (by decide));have HLa:=aW (show ∀ W,Below w.heap.size w W→Calls Tryz.prog 90 #[.agg #[.int .i64 k1,.int .i64 n1,.string s1,.slice A1 na1 ca1,.slice B1 nb1 cb1],.agg #[.int .i64 k2,.int .i64 n2,.string s2,.slice A2 na2 ca2,.slice B2 nb2 cb2]] W (BoolS true W) from fun W h=>by have:=HL1.out W h;simpa using this);go_wp2;refine wp_region_held_drew (S:=fun w'=>TwoB w 25 #[.int .i64 k,.int .i64 n,.string ⟨s.toArray⟩,.slice (some ⟨b,o,none⟩) nk ca,.slice B ny cb] #[.int .i64 k,.int .i64 jq,.string ⟨sq.toArray⟩,.slice (some ⟨b',o',none⟩) nkq caq,.slice Bq nyq cbq] w') (by kernel_rfl) (by exact HBq.out.drew) (fun hHeld=>?_);refine tZ 0 73 (.pointer (some ⟨w.heap.size,3,none⟩)) rfl ?_
     try simp only [pU]
     refine tZ 1 74 (.slice (some ⟨b,o,none⟩) nk ca) rfl ?_
     try simp only [pU]
     refine tZ 2 75 (.int .i64 i) rfl ?_
     try simp only [pU]
     refine tZ 3 76 (.pointer (some ⟨b,o+i*5,none⟩)) rfl ?_
     try simp only [pU]
     refine tZ 4 77 (.agg #[.int .i64 k1,.int .i64 n1,.string s1,.slice A1 na1 ca1,.slice B1 nb1 cb1]) rfl ?_
     try simp only [pU]
     refine tZ 5 78 (.pointer (some ⟨w.heap.size+1,3,none⟩)) rfl ?_
     try simp only [pU]
     refine tZ 6 79 (.slice (some ⟨b',o',none⟩) nkq caq) rfl ?_
     try simp only [pU]
     refine tZ 7 80 (.int .i64 i) rfl ?_
     try simp only [pU]
     refine tZ 8 81 (.pointer (some ⟨b',o'+i*5,none⟩)) rfl ?_
     try simp only [pU]
     refine tZ 9 82 (.agg #[.int .i64 k2,.int .i64 n2,.string s2,.slice A2 na2 ca2,.slice B2 nb2 cb2]) rfl ?_
     try simp only [pU]
     refine aV 10 83 rfl (fun K hK=>?_);go_simp;refine (HLa.out _ HBq.out.drew.2.2).mono ?_;rintro e w5 ⟨rfl,hb5⟩;have hw5:=HBq.out.drew.keep hb5;refine hK.out _ _ (hw5) (fun hHeld2=>?_);clear hK K hHeld
     try simp only [pU]
     refine aX ?_;have HT5:=aW hw5;clear hb5 hw5;go_wp2;go_ret;exact ⟨by rw [HE.out];rfl,HT5.out.2.2⟩
    ·have HE:=aW (show R=cmpL (decide (k=6)) (kids.drop (i+1)) (keys.drop (i+1)) (kidsq.drop (i+1)) (keysq.drop (i+1)) by rw [HST.out];rfl);have HLa:=aW (show ∀ W,Below w.heap.size w W→Calls Tryz.prog 90 #[.agg #[.int .i64 k1,.int .i64 n1,.string s1,.slice A1 na1 ca1,.slice B1 nb1 cb1],.agg #[.int .i64 k2,.int .i64 n2,.string s2,.slice A2 na2 ca2,.slice B2 nb2 cb2]] W (BoolS false W) from fun W h=>by have:=HL1.out W h;simpa using this);have HLb:=aW (show ∀ W,Below w.heap.size w W→Calls Tryz.prog 90 #[.agg #[.int .i64 k2,.int .i64 n2,.string s2,.slice A2 na2 ca2,.slice B2 nb2 cb2],.agg #[.int .i64 k1,.int .i64 n1,.string s1,.slice A1 na1 ca1,.slice B1 nb1 cb1]] W (BoolS false W) from fun W h=>by have:=HL2.out W h;simpa using this);go_wp2;refine wp_region_held_drew (S:=fun w'=>TwoB w 25 #[.int .i64 k,.int .i64 n,.string ⟨s.toArray⟩,.slice (some ⟨b,o,none⟩) nk ca,.slice B ny cb] #[.int .i64 k,.int .i64 jq,.string ⟨sq.toArray⟩,.slice (some ⟨b',o',none⟩) nkq caq,.slice Bq nyq cbq] w') (by kernel_rfl) (by exact HBq.out.drew) (fun hHeld=>?_);refine tZ 0 73 (.pointer (some ⟨w.heap.size,3,none⟩)) rfl ?_
     try simp only [pU]
     refine tZ 1 74 (.slice (some ⟨b,o,none⟩) nk ca) rfl ?_
     try simp only [pU]
     refine tZ 2 75 (.int .i64 i) rfl ?_
     try simp only [pU]
     refine tZ 3 76 (.pointer (some ⟨b,o+i*5,none⟩)) rfl ?_
     try simp only [pU]
     refine tZ 4 77 (.agg #[.int .i64 k1,.int .i64 n1,.string s1,.slice A1 na1 ca1,.slice B1 nb1 cb1]) rfl ?_
     try simp only [pU]
     refine tZ 5 78 (.pointer (some ⟨w.heap.size+1,3,none⟩)) rfl ?_
     try simp only [pU]
     refine tZ 6 79 (.slice (some ⟨b',o',none⟩) nkq caq) rfl ?_
     try simp only [pU]
     refine tZ 7 80 (.int .i64 i) rfl ?_
     try simp only [pU]
     refine tZ 8 81 (.pointer (some ⟨b',o'+i*5,none⟩)) rfl ?_
     try simp only [pU]
     refine tZ 9 82 (.agg #[.int .i64 k2,.int .i64 n2,.string s2,.slice A2 na2 ca2,.slice B2 nb2 cb2]) rfl ?_
     try simp only [pU]
     refine aV 10 83 rfl (fun K hK=>?_);go_simp;refine (HLa.out _ HBq.out.drew.2.2).mono ?_;rintro e w5 ⟨rfl,hb5⟩;have hw5:=HBq.out.drew.keep hb5;refine hK.out _ _ (hw5) (fun hHeld2=>?_);clear hK K hHeld
     try simp only [pU]
     refine aX ?_;have HT5:=aW hw5;clear hb5 hw5;go_wp2;refine wp_region_held_drew (S:=fun w'=>TwoB w 25 #[.int .i64 k,.int .i64 n,.string ⟨s.toArray⟩,.slice (some ⟨b,o,none⟩) nk ca,.slice B ny cb] #[.int .i64 k,.int .i64 jq,.string ⟨sq.toArray⟩,.slice (some ⟨b',o',none⟩) nkq caq,.slice Bq nyq cbq] w') (by kernel_rfl) (by exact HT5.out.drew) (fun hHeld=>?_);refine tZ 0 84 (.pointer (some ⟨w.heap.size+1,3,none⟩)) rfl ?_
     try simp only [pU]
     refine tZ 1 85 (.slice (some ⟨b',o',none⟩) nkq caq) rfl ?_
     try simp only [pU]
     refine tZ 2 86 (.int .i64 i) rfl ?_
     try simp only [pU]
     refine tZ 3 87 (.pointer (some ⟨b',o'+i*5,none⟩)) rfl ?_
     try simp only [pU]
     refine tZ 4 88 (.agg #[.int .i64 k2,.int .i64 n2,.string s2,.slice A2 na2 ca2,.slice B2 nb2 cb2]) rfl ?_
     try simp only [pU]
     refine tZ 5 89 (.pointer (some ⟨w.heap.size,3,none⟩)) rfl ?_
     try simp only [pU]
     refine tZ 6 90 (.slice (some ⟨b,o,none⟩) nk ca) rfl ?_
     try simp only [pU]
     refine tZ 7 91 (.int .i64 i) rfl ?_
     try simp only [pU]
     refine tZ 8 92 (.pointer (some ⟨b,o+i*5,none⟩)) rfl ?_
     try simp only [pU]
     refine tZ 9 93 (.agg #[.int .i64 k1,.int .i64 n1,.string s1,.slice A1 na1 ca1,.slice B1 nb1 cb1]) rfl ?_
     try simp only [pU]
     refine aV 10 94 rfl (fun K hK=>?_);go_simp;refine (HLb.out _ HT5.out.drew.2.2).mono ?_;rintro e w6 ⟨rfl,hb5⟩;have hw6:=HT5.out.drew.keep hb5;refine hK.out _ _ (hw6) (fun hHeld2=>?_);clear hK K hHeld
     try simp only [pU]
     refine aX ?_;have HT6:=aW hw6;clear hb5 hw6;go_wp2;go_roundg (nk-(i+1))
     case measure=>rw [HG.out];omega
     case rel=>exact ⟨i+1,hlt,hlq,rfl,by go_num,HE,HT6⟩
    ·have HE:=aW (show R=1 by rw [HST.out];exact lexI_ne (by decide));have HLa:=aW (show ∀ W,Below w.heap.size w W→Calls Tryz.prog 90 #[.agg #[.int .i64 k1,.int .i64 n1,.string s1,.slice A1 na1 ca1,.slice B1 nb1 cb1],.agg #[.int .i64 k2,.int .i64 n2,.string s2,.slice A2 na2 ca2,.slice B2 nb2 cb2]] W (BoolS false W) from fun W h=>by have:=HL1.out W h;simpa using this);have HLb:=aW (show ∀ W,Below w.heap.size w W→Calls Tryz.prog 90 #[.agg #[.int .i64 k2,.int .i64 n2,.string s2,.slice A2 na2 ca2,.slice B2 nb2 cb2],.agg #[.int .i64 k1,.int .i64 n1,.string s1,.slice A1 na1 ca1,.slice B1 nb1 cb1]] W (BoolS true W) from fun W h=>by have:=HL2.out W h;simpa using this);go_wp2;refine wp_region_held_drew (S:=fun w'=>TwoB w 25 #[.int .i64 k,.int .i64 n,.string ⟨s.toArray⟩,.slice (some ⟨b,o,none⟩) nk ca,.slice B ny cb] #[.int .i64 k,.int .i64 jq,.string ⟨sq.toArray⟩,.slice (some ⟨b',o',none⟩) nkq caq,.slice Bq nyq cbq] w') (by kernel_rfl) (by exact HBq.out.drew) (fun hHeld=>?_);refine tZ 0 73 (.pointer (some ⟨w.heap.size,3,none⟩)) rfl ?_
     try simp only [pU]
     refine tZ 1 74 (.slice (some ⟨b,o,none⟩) nk ca) rfl ?_
     try simp only [pU]
     refine tZ 2 75 (.int .i64 i) rfl ?_
     try simp only [pU]
     refine tZ 3 76 (.pointer (some ⟨b,o+i*5,none⟩)) rfl ?_
     try simp only [pU]
     refine tZ 4 77 (.agg #[.int .i64 k1,.int .i64 n1,.string s1,.slice A1 na1 ca1,.slice B1 nb1 cb1]) rfl ?_
     try simp only [pU]
     refine tZ 5 78 (.pointer (some ⟨w.heap.size+1,3,none⟩)) rfl ?_
     try simp only [pU]
     refine tZ 6 79 (.slice (some ⟨b',o',none⟩) nkq caq) rfl ?_
     try simp only [pU]
     refine tZ 7 80 (.int .i64 i) rfl ?_
     try simp only [pU]
     refine tZ 8 81 (.pointer (some ⟨b',o'+i*5,none⟩)) rfl ?_
     try simp only [pU]
     refine tZ 9 82 (.agg #[.int .i64 k2,.int .i64 n2,.string s2,.slice A2 na2 ca2,.slice B2 nb2 cb2]) rfl ?_
     try simp only [pU]
     refine aV 10 83 rfl (fun K hK=>?_);go_simp;refine (HLa.out _ HBq.out.drew.2.2).mono ?_;rintro e w5 ⟨rfl,hb5⟩;have hw5:=HBq.out.drew.keep hb5;refine hK.out _ _ (hw5) (fun hHeld2=>?_);clear hK K hHeld
     try simp only [pU]
     refine aX ?_;have HT5:=aW hw5;clear hb5 hw5;go_wp2;refine wp_region_held_drew (S:=fun w'=>TwoB w 25 #[.int .i64 k,.int .i64 n,.string ⟨s.toArray⟩,.slice (some ⟨b,o,none⟩) nk ca,.slice B ny cb] #[.int .i64 k,.int .i64 jq,.string ⟨sq.toArray⟩,.slice (some ⟨b',o',none⟩) nkq caq,.slice Bq nyq cbq] w') (by kernel_rfl) (by exact HT5.out.drew) (fun hHeld=>?_);refine tZ 0 84 (.pointer (some ⟨w.heap.size+1,3,none⟩)) rfl ?_
     try simp only [pU]
     refine tZ 1 85 (.slice (some ⟨b',o',none⟩) nkq caq) rfl ?_
     try simp only [pU]
     refine tZ 2 86 (.int .i64 i) rfl ?_
     try simp only [pU]
     refine tZ 3 87 (.pointer (some ⟨b',o'+i*5,none⟩)) rfl ?_
     try simp only [pU]
     refine tZ 4 88 (.agg #[.int .i64 k2,.int .i64 n2,.string s2,.slice A2 na2 ca2,.slice B2 nb2 cb2]) rfl ?_
     try simp only [pU]
     refine tZ 5 89 (.pointer (some ⟨w.heap.size,3,none⟩)) rfl ?_
     try simp only [pU]
     refine tZ 6 90 (.slice (some ⟨b,o,none⟩) nk ca) rfl ?_
     try simp only [pU]
     refine tZ 7 91 (.int .i64 i) rfl ?_
     try simp only [pU]
     refine tZ 8 92 (.pointer (some ⟨b,o+i*5,none⟩)) rfl ?_
     try simp only [pU]
     refine tZ 9 93 (.agg #[.int .i64 k1,.int .i64 n1,.string s1,.slice A1 na1 ca1,.slice B1 nb1 cb1]) rfl ?_
     try simp only [pU]
     refine aV 10 94 rfl (fun K hK=>?_);go_simp;refine (HLb.out _ HT5.out.drew.2.2).mono ?_;rintro e w6 ⟨rfl,hb5⟩;have hw6:=HT5.out.drew.keep hb5;refine hK.out _ _ (hw6) (fun hHeld2=>?_);clear hK K hHeld
     try simp only [pU]
     refine aX ?_;have HT6:=aW hw6;clear hb5 hw6;go_wp2;go_ret;exact ⟨by rw [HE.out];rfl,HT6.out.2.2⟩
theorem rLess_all:∀ N:Nat,LessFor N
 | 0=>fun a b h=>by have:=nodesJ_pos a;omega
 | N+1=>rLess_step N (rLess_all N)
end Go.Proofs.YtgolomgmnanbpaaGreatDoor
