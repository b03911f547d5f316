import Derived.Test.YtgmnmnnoahdjnaaGreatDoorH14
open Go.Value renaming int → Zi, slice → Zs, string → Zt, pointer → Zp
open Go.IntKind renaming i64 → Zq
set_option maxRecDepth 100000
set_option maxHeartbeats 16000000
set_option linter.unusedVariables false
set_option linter.unusedSimpArgs false
namespace Go.Proofs.YtgmnmnnoahdjnaaGreatDoor
section
open Go.RowKit
attribute [local go_sem] ab ae af ac
theorem bl0:ByteArray.toList ⟨#[]⟩=[]:=by rw [ByteArray.toList_eq]
def cP (r:Bool) (w:World) (e:Ending) (w':World):Prop:=e=.returned (.bool r)/\Below w.heap.size w w'
theorem k8 (k m j:Int) (n:Int) (s t:ByteArray) (nk nb:Nat) (A B:Option Addr) (ca cb:Nat) (w:World):Calls Tryz.prog 241 #[.agg #[Zi Zq k,Zi Zq n,Zt s,Zs A nk ca,Zs B nb cb],Zi Zq m,Zt t,Zi Zq j] w
  (cP (decide (n=m) && (decide (s.toList=t.toList) && (decide ((nk:Int)=j) && decide (nb=0)))) w):=by
 have HB:=aW ((Below.refl w.heap.size w).alloc (Nat.le_refl _) (.cells #[Zi Zq k,Zi Zq n,Zt s,Zs A nk ca,Zs B nb cb] 266));by_cases h1:n=m
 ·subst h1;by_cases h2:s.toList=t.toList
  ·rw [decide_eq_true h2,decide_eq_true rfl];have e2:(s.toList == t.toList)=true:=by simp [h2]
   clear h2;by_cases h3:(nk:Int)=j
   ·rw [decide_eq_true h3];have e3:((nk:Int) == j)=true:=by simp [h3]
    by_cases h4:nb=0
    ·rw [decide_eq_true h4];subst h4;go_enter Tryz.func241,Tryz.ntmps241;go_wp2;go_ret;exact ⟨rfl,HB.out⟩
    ·rw [decide_eq_false h4];have e4:((nb:Int) == 0)=false:=by simp;omega
     go_enter Tryz.func241,Tryz.ntmps241;go_wp2;go_ret;exact ⟨rfl,HB.out⟩
   ·rw [decide_eq_false h3];have e3:((nk:Int) == j)=false:=by simp [h3]
    go_enter Tryz.func241,Tryz.ntmps241;go_wp2;go_ret;exact ⟨rfl,HB.out⟩
  ·rw [decide_eq_false h2];have e2:(s.toList == t.toList)=false:=by simp [h2]
   go_enter Tryz.func241,Tryz.ntmps241;go_wp2;go_ret;exact ⟨by simp,HB.out⟩
 ·rw [decide_eq_false h1];have e1:(n == m)=false:=by simp [h1]
  go_enter Tryz.func241,Tryz.ntmps241;go_wp2;go_ret;exact ⟨by simp,HB.out⟩
theorem xe (n:Int) (s:ByteArray) (nk nb:Nat) (A B:Option Addr) (ca cb:Nat) (w:World) (r:Bool) (hr:(decide (n=0) && (decide (s.toList=ByteArray.toList ⟨#[]⟩) && (decide ((nk:Int)=0) && decide (nb=0))))=r):Calls Tryz.prog 229 #[.agg #[Zi Zq 1,Zi Zq n,Zt s,Zs A nk ca,Zs B nb cb]] w (cP r w):=by
 have HB:=aW ((Below.refl w.heap.size w).alloc (Nat.le_refl _) (.cells #[Zi Zq 1,Zi Zq n,Zt s,Zs A nk ca,Zs B nb cb] 266));have HC:=aW (λ W=>by have h:=k8 1 0 0 n s ⟨#[]⟩ nk nb A B ca cb W;rw [hr] at h;exact h);clear hr;go_enter Tryz.func229,Tryz.ntmps229;go_wp2_with fail;refine (HC.out _).mono ?_;rintro e w1 ⟨rfl,hb⟩;have HB1:=aW (HB.out.trans (hb.mono HB.out.size));clear hb;go_wp2;go_ret;exact ⟨rfl,HB1.out⟩
theorem tT (n:Int) (s:ByteArray) (nk nb:Nat) (A B:Option Addr) (ca cb:Nat) (w:World) (r:Bool) (hr:(decide (n=n) && (decide (s.toList=ByteArray.toList ⟨#[]⟩) && (decide ((nk:Int)=0) && decide (nb=0))))=r):Calls Tryz.prog 231 #[.agg #[Zi Zq 3,Zi Zq n,Zt s,Zs A nk ca,Zs B nb cb]] w (cP r w):=by
 have HB:=aW ((Below.refl w.heap.size w).alloc (Nat.le_refl _) (.cells #[Zi Zq 3,Zi Zq n,Zt s,Zs A nk ca,Zs B nb cb] 266));have HC:=aW (λ W=>by have h:=k8 3 n 0 n s ⟨#[]⟩ nk nb A B ca cb W;rw [hr] at h;exact h);clear hr;go_enter Tryz.func231,Tryz.ntmps231;go_wp2_with fail;refine (HC.out _).mono ?_;rintro e w1 ⟨rfl,hb⟩;have HB1:=aW (HB.out.trans (hb.mono HB.out.size));clear hb;go_wp2;go_ret;exact ⟨rfl,HB1.out⟩
theorem xd (n:Int) (s:ByteArray) (nk nb:Nat) (A B:Option Addr) (ca cb:Nat) (w:World) (r:Bool) (hr:(decide (n=0) && (decide (s.toList=ByteArray.toList ⟨#[]⟩) && (decide ((nk:Int)=(nk:Int)) && decide (nb=0))))=r):Calls Tryz.prog 233 #[.agg #[Zi Zq 5,Zi Zq n,Zt s,Zs A nk ca,Zs B nb cb]] w (cP r w):=by
 have HB:=aW ((Below.refl w.heap.size w).alloc (Nat.le_refl _) (.cells #[Zi Zq 5,Zi Zq n,Zt s,Zs A nk ca,Zs B nb cb] 266));have HC:=aW (λ W=>by have h:=k8 5 0 (nk:Int) n s ⟨#[]⟩ nk nb A B ca cb W;rw [hr] at h;exact h);clear hr;go_enter Tryz.func233,Tryz.ntmps233;go_wp2_with fail;refine (HC.out _).mono ?_;rintro e w1 ⟨rfl,hb⟩;have HB1:=aW (HB.out.trans (hb.mono HB.out.size));clear hb;go_wp2;go_ret;exact ⟨rfl,HB1.out⟩
theorem vr (n:Int) (s:ByteArray) (nk nb:Nat) (A B:Option Addr) (ca cb:Nat) (w:World) (m:Int) (hm:bits .and .i64 n 1=m) (r:Bool) (hr:(decide (n=m) && (decide (s.toList=ByteArray.toList ⟨#[]⟩) && (decide ((nk:Int)=0) && decide (nb=0))))=r):Calls Tryz.prog 230 #[.agg #[Zi Zq 2,Zi Zq n,Zt s,Zs A nk ca,Zs B nb cb]] w (cP r w):=by
 have HB:=aW ((Below.refl w.heap.size w).alloc (Nat.le_refl _) (.cells #[Zi Zq 2,Zi Zq n,Zt s,Zs A nk ca,Zs B nb cb] 266));have HC:=aW (λ W=>by have h:=k8 2 m 0 n s ⟨#[]⟩ nk nb A B ca cb W;rw [hr] at h;exact h);clear hr;go_enter Tryz.func230,Tryz.ntmps230;go_wp2_with fail;refine (HC.out _).mono ?_;rintro e w1 ⟨rfl,hb⟩;have HB1:=aW (HB.out.trans (hb.mono HB.out.size));clear hb;go_wp2;go_ret;exact ⟨rfl,HB1.out⟩
theorem xf (n:Int) (s:List UInt8) (nk nb:Nat) (A B:Option Addr) (ca cb:Nat) (w:World) (hG:GOK w) (hs:s.length<=4194304) (r:Bool) (hr:(cF s && (decide (n=0) && (decide ((nk:Int)=0) && decide (nb=0))))=r):Calls Tryz.prog 232 #[.agg #[Zi Zq 4,Zi Zq n,Zt ⟨s.toArray⟩,Zs A nk ca,Zs B nb cb]] w (cP r w):=by
 have HB:=aW ((Below.refl w.heap.size w).alloc (Nat.le_refl _) (.cells #[Zi Zq 4,Zi Zq n,Zt ⟨s.toArray⟩,Zs A nk ca,Zs B nb cb] 266));have hbk:=Blk.new w 266 #[Zi Zq 4,Zi Zq n,Zt ⟨s.toArray⟩,Zs A nk ca,Zs B nb cb];have HC:=aW (λ W=>k8 4 0 0 n ⟨s.toArray⟩ ⟨s.toArray⟩ nk nb A B ca cb W);have HU:=aW (kY s _ (hG.keep HB.out) hs);clear hG hs;have HBK:=aW hbk;clear hbk;by_cases ht:cF s=true
 ·have e0:ew s=0:=by unfold ew;rw [if_pos ht]
  rw [e0] at HU;rw [ht,Bool.true_and] at hr;have hr':(decide (n=0) && (decide ((⟨s.toArray⟩:ByteArray).toList=(⟨s.toArray⟩:ByteArray).toList) && (decide ((nk:Int)=0) && decide (nb=0))))=r:=by rw [decide_eq_true (rfl:(⟨s.toArray⟩:ByteArray).toList=(⟨s.toArray⟩:ByteArray).toList),Bool.true_and];exact hr
  rw [hr'] at HC;clear hr hr' e0 ht;go_enter Tryz.func232,Tryz.ntmps232;go_wp2_with fail;refine HU.out.mono ?_;rintro e w1 ⟨⟨p,rfl⟩,hb⟩;have HB1:=aW (HB.out.trans (hb.mono HB.out.size));obtain ⟨c1,f1,l1⟩:=(HBK.out.keep hb).rules;clear hb;go_wp2_with fail;refine (HC.out _).mono ?_;rintro e w2 ⟨rfl,hb⟩;have HB2:=aW (HB1.out.trans (hb.mono HB1.out.size));clear hb;go_wp2;go_ret;exact ⟨rfl,HB2.out⟩
 ·have e0:ew s=110:=by unfold ew;rw [if_neg ht]
  rw [e0] at HU;rw [Bool.eq_false_iff.2 ht,Bool.false_and] at hr;subst hr;clear e0 ht;go_enter Tryz.func232,Tryz.ntmps232;go_wp2_with fail;refine HU.out.mono ?_;rintro e w1 ⟨⟨p,rfl⟩,hb⟩;have HB1:=aW (HB.out.trans (hb.mono HB.out.size));obtain ⟨c1,f1,l1⟩:=(HBK.out.keep hb).rules;clear hb;go_wp2;go_ret;exact ⟨rfl,HB1.out⟩
def eG:Option (List UInt8)->List (List UInt8)->Bool
 | _,[]=>true
 | p,k::r=>cF k && ((match p with | none=>true | some q=>ltB q k) && eG (some k) r)
theorem jA:∀ (q:List UInt8) (l:List (List UInt8)),eG (some q) l=((match l with | []=>true | k::_=>ltB q k) && cA l)
 | q,[]=>rfl
 |q,k::r=>by
  unfold eG cA;rw [jA k r];cases r<;>cases cF k<;>cases ltB q k<;>simp
theorem nV:∀ (l:List (List UInt8)),eG none l=cA l
 | []=>rfl
 |k::r=>by
  unfold eG cA;rw [jA k r];cases r<;>simp
def cS (keys:List (List UInt8)) (i:Nat):Bool:=eG (if i=0 then none else keys[i-1]?) (keys.drop i)
theorem nU (keys:List (List UInt8)):cS keys 0=cA keys:=by unfold cS;rw [if_pos rfl,List.drop_zero,nV]
theorem ku (keys:List (List UInt8)):cS keys keys.length=true:=by unfold cS;rw [List.drop_length];unfold eG;rfl
theorem fu {keys:List (List UInt8)} {t:List UInt8} (h:keys[0]? = some t):cS keys 0=(cF t && cS keys 1):=by
 unfold cS;rw [if_pos rfl,if_neg (by decide),show 1-1=0 from rfl,h];cases keys with
 | nil=>simp at h
 |cons k r =>
  obtain rfl:k=t:=by simpa using h
  rw [List.drop_zero];show eG none (k::r)=_
  conv=>lhs;unfold eG
  simp
theorem fT {keys:List (List UInt8)} {i:Nat} {u t:List UInt8} (hu:keys[i]? = some u) (ht:keys[i+1]? = some t):cS keys (i+1)=(cF t && (ltB u t && cS keys (i+2))):=by
 unfold cS;rw [if_neg (by omega),if_neg (by omega),show i+1-1=i from rfl,show i+2-1=i+1 from rfl,hu,ht];have e:keys.drop (i+1)=t::keys.drop (i+2):=by
  obtain ⟨h1,h2⟩:=List.getElem?_eq_some_iff.1 ht;rw [List.drop_eq_getElem_cons h1,h2]
 rw [e]
 conv=>lhs;unfold eG
theorem xV (n0:Int) (s0:ByteArray) (nk:Nat) (keys:List (List UInt8)) (n:Nat) (A B:Option Addr) (ca cb:Nat) (w:World) (hG:GOK w) (hn:keys.length=n) (hn9:n<=4194304) (hcb:n<=cb) (hk:RdF w (λ _=>True) B (ar keys)) (hts:∀ t ∈ keys,t.length<=4194304)
  (r:Bool) (hr:(cA keys && (decide (n0=0) && (decide (s0.toList=ByteArray.toList ⟨#[]⟩) && decide (nk=n))))=r) :
  Calls Tryz.prog 234 #[.agg #[Zi Zq 6,Zi Zq n0,Zt s0,Zs A nk ca,Zs B n cb]] w (cP r w):=by
 have HNY:=aW hn;have HK:=aW hk;have HTS:=aW hts;have HGK:=aW hG;have HR:=aW hr;have HBW:=aW ((Below.refl w.heap.size w).alloc (Nat.le_refl _) (.cells #[Zi Zq 6,Zi Zq n0,Zt s0,Zs A nk ca,Zs B n cb] 266));have HBK:=aW (Blk.new w 266 #[Zi Zq 6,Zi Zq n0,Zt s0,Zs A nk ca,Zs B n cb]);clear hn hk hts hG hr;go_enter Tryz.func234,Tryz.ntmps234;go_wp2;go_loopg [10] n (λ gk s10 wr => ∃ i:Nat,i<=n/\gk=n-i/\s10=Zi Zq i/\Hid (Blk wr w.heap.size 266 #[Zi Zq 6,Zi Zq n0,Zt s0,Zs A nk ca,Zs B n cb])/\Hid (Below w.heap.size w wr)/\Hid (cA keys=cS keys i))
 case atStart=>exact ⟨0,Nat.zero_le _,rfl,by go_num,HBK,HBW,aW (nU keys).symm⟩
 case round =>
  obtain ⟨i,hi,hgk,rfl,HB1,HBW1,HQ⟩:=hrel;have HG:=aW hgk;clear hgk;obtain ⟨c1,f1,l1⟩:=HB1.out.rules;by_cases hlt:i<n
  ·obtain ⟨b,o,rfl,hb⟩:=lX HK.out (by rw [HNY.out];omega);obtain ⟨t,ht⟩:∃ t,keys[i]? = some t:=⟨_,List.getElem?_eq_getElem (by rw [HNY.out];exact hlt)⟩
   have HV:=aW (kY t wr (HGK.out.keep HBW1.out) (HTS.out t (List.mem_of_getElem? ht)));have HC:=aW (λ W (h:Below w.heap.size w W)=>gJ (n:=0) (HK.out.keep (aj.of_below h)) ht);have x0:=HC.out wr HBW1.out;have hTT:=aW ht;clear ht;by_cases h0:0<i
   ·obtain ⟨j,rfl⟩:∃ j,i=j+1:=⟨i-1,by omega⟩
    obtain ⟨u,hu⟩:∃ u,keys[j]? = some u:=⟨_,List.getElem?_eq_getElem (by rw [HNY.out];omega)⟩
    have HST:=aW (fT hu hTT.out);have HD:=aW (λ W (h:Below w.heap.size w W)=>gJ (n:=0) (HK.out.keep (aj.of_below h)) hu);clear hTT hu;obtain ⟨i,hij⟩:∃ i,j+1=i:=⟨_,rfl⟩
    have HIJ:=aW hij;rw [show j+2=i+1 by omega] at HST;rw [hij] at hi HG hlt HQ HST x0 h0 ⊢;have i1:(0:Int)<=(j:Int):=by omega
    have i2:(j:Int)<(n:Int):=by omega
    have i3:(0:Int)<=(i:Int):=by omega
    have i4:(i:Int)<(n:Int):=by omega
    have i5:(0:Int)<(i:Int):=by omega
    have i6:IntKind.i64.wrap ((i:Int)-1)=(i:Int)-1:=IntWalk.i64_in _ (by omega);have i8:(0:Int)<=(i:Int)-1:=by omega
    have i9:(i:Int)-1<(n:Int):=by omega
    have i10:((i:Int)-1).toNat=j:=by omega
    clear hij;by_cases htx:cF t=true
    ·have e0:ew t=0:=by unfold ew;rw [if_pos htx]
     rw [e0] at HV;clear e0;by_cases hlb:ltB u t=true
     ·have hup:Op.bytesLess u t=true:=hlb;have HQ2:=aW (show cA keys=cS keys (i+1) by rw [HQ.out,HST.out,htx,hlb];rfl);clear htx hlb;go_wp2_with fail;refine HV.out.mono ?_;rintro e w2 ⟨⟨p,rfl⟩,hb2⟩;have HB2:=aW (HB1.out.keep hb2);have HW2:=aW (HBW1.out.trans (hb2.mono HBW1.out.size));have z0:=HB2.out.cell 4;simp at z0;have z1:=HD.out w2 HW2.out;clear hb2;go_wp2;go_roundg (n-(i+1))
      case measure=>rw [HG.out];omega
      case rel=>exact ⟨i+1,hlt,rfl,by go_num,HB2,HW2,HQ2⟩
     ·have hup:Op.bytesLess u t=false:=Bool.eq_false_iff.2 hlb;have hrf:r=false:=by rw [← HR.out,HQ.out,HST.out,htx,Bool.eq_false_iff.2 hlb];rfl
      subst hrf;clear htx hlb;go_wp2_with fail;refine HV.out.mono ?_;rintro e w2 ⟨⟨p,rfl⟩,hb2⟩;have HB2:=aW (HB1.out.keep hb2);have HW2:=aW (HBW1.out.trans (hb2.mono HBW1.out.size));have z0:=HB2.out.cell 4;simp at z0;have z1:=HD.out w2 HW2.out;clear hb2;go_wp2;go_ret;exact ⟨rfl,HW2.out⟩
    ·have e0:ew t=110:=by unfold ew;rw [if_neg htx]
     rw [e0] at HV;have hrf:r=false:=by rw [← HR.out,HQ.out,HST.out,Bool.eq_false_iff.2 htx];rfl
     subst hrf;clear htx e0;go_wp2_with fail;refine HV.out.mono ?_;rintro e w2 ⟨⟨p,rfl⟩,hb2⟩;have HB2:=aW (HB1.out.keep hb2);have HW2:=aW (HBW1.out.trans (hb2.mono HBW1.out.size));have z0:=HB2.out.cell 4;simp at z0
     skip
     clear hb2;go_wp2;go_ret;exact ⟨rfl,HW2.out⟩
   ·obtain rfl:i=0:=by omega
    have i4:(0:Int)<(n:Int):=by omega
    rw [Nat.add_zero] at x0;have HST:=aW (fu hTT.out);clear hTT h0;by_cases htx:cF t=true
    ·have e0:ew t=0:=by unfold ew;rw [if_pos htx]
     rw [e0] at HV;have HQ2:=aW (show cA keys=cS keys (0+1) by rw [HQ.out,HST.out,htx];rfl);clear e0 htx;go_wp2_with fail;refine HV.out.mono ?_;rintro e w2 ⟨⟨p,rfl⟩,hb2⟩;have HB2:=aW (HB1.out.keep hb2);have HW2:=aW (HBW1.out.trans (hb2.mono HBW1.out.size));have z0:=HB2.out.cell 4;simp at z0
     skip
     clear hb2;go_wp2;go_roundg (n-(0+1))
     case measure=>rw [HG.out];omega
     case rel=>exact ⟨0+1,hlt,rfl,by go_num,HB2,HW2,HQ2⟩
    ·have e0:ew t=110:=by unfold ew;rw [if_neg htx]
     rw [e0] at HV;have hrf:r=false:=by rw [← HR.out,HQ.out,HST.out,Bool.eq_false_iff.2 htx];rfl
     subst hrf;clear htx e0;go_wp2_with fail;refine HV.out.mono ?_;rintro e w2 ⟨⟨p,rfl⟩,hb2⟩;have HB2:=aW (HB1.out.keep hb2);have HW2:=aW (HBW1.out.trans (hb2.mono HBW1.out.size));have z0:=HB2.out.cell 4;simp at z0
     skip
     clear hb2;go_wp2;go_ret;exact ⟨rfl,HW2.out⟩
  ·obtain rfl:i=n:=by omega
   have hr2:(decide (n0=0) && (decide (s0.toList=ByteArray.toList ⟨#[]⟩) && decide (nk=i)))=r:=by
    have h:=HR.out;rw [HQ.out,← HNY.out,ku,Bool.true_and,HNY.out] at h;exact h
   by_cases h1:n0=0
   ·subst h1;by_cases h2:s0.toList=ByteArray.toList ⟨#[]⟩
    ·have hs0:s0.toList=[]:=by rw [h2,bl0]
     have e2:s0.toList.isEmpty=true:=by rw [hs0];rfl
     rw [decide_eq_true h2] at hr2;clear h2;by_cases h3:nk=i
     ·obtain rfl:r=true:=by rw [← hr2];simp [h3]
      subst h3;clear hr2;go_wp2;go_ret;exact ⟨rfl,HBW1.out⟩
     ·obtain rfl:r=false:=by rw [← hr2];simp [h3]
      have e3:((nk:Int) == (i:Int))=false:=by simp;omega
      clear hr2;go_wp2;go_ret;exact ⟨rfl,HBW1.out⟩
    ·have hs0:¬ s0.toList=[]:=λ e=>h2 (by rw [e,bl0])
     have e2:s0.toList.isEmpty=false:=by cases h:s0.toList with | nil=>exact absurd h hs0 | cons=>rfl
     obtain rfl:r=false:=by rw [← hr2,decide_eq_false h2];rfl
     clear hr2 h2;go_wp2;go_ret;exact ⟨rfl,HBW1.out⟩
   ·have e1:(n0 == 0)=false:=by simp [h1]
    obtain rfl:r=false:=by rw [← hr2];simp [h1]
    clear hr2;go_wp2;go_ret;exact ⟨rfl,HBW1.out⟩
theorem mg (kd:Int) (j fn:Nat) (hk9:(kd=1/\j=0/\fn=229)∨(kd=2/\j=1/\fn=230)∨(kd=3/\j=2/\fn=231)∨(kd=4/\j=3/\fn=232)∨(kd=5/\j=4/\fn=233)∨(kd=6/\j=5/\fn=234)) (n:Int) (s:ByteArray) (nk nb:Nat) (A B:Option Addr) (ca cb:Nat) (w:World) (r:Bool) (hC:∀ W,Below w.heap.size w W->Calls Tryz.prog fn #[.agg #[Zi Zq kd,Zi Zq n,Zt s,Zs A nk ca,Zs B nb cb]] W (cP r W)):Calls Tryz.prog 217 #[.agg #[Zi Zq kd,Zi Zq n,Zt s,Zs A nk ca,Zs B nb cb]] w (cP r w):=by
 have hk1:1<=kd:=by omega
 have hk6:kd<=6:=by omega
 have hj6:j<6:=by omega
 have hji:(j:Int)<6:=by omega
 have hw9:IntKind.i64.wrap (kd-1)=(j:Int):=by rw [IntKind.wrap_i64];omega
 have HE9:=aW (show (#[.func (.func 229) #[] #[],.func (.func 230) #[] #[],.func (.func 231) #[] #[],.func (.func 232) #[] #[],.func (.func 233) #[] #[],.func (.func 234) #[] #[]]:Array Value)[j]? = some (.func (.func fn) #[] #[]) by
  rcases hk9 with ⟨_,rfl,rfl⟩ | ⟨_,rfl,rfl⟩ | ⟨_,rfl,rfl⟩ | ⟨_,rfl,rfl⟩ | ⟨_,rfl,rfl⟩ | ⟨_,rfl,rfl⟩<;>rfl)
 have HF9:=aW (show fn=229∨fn=230∨fn=231∨fn=232∨fn=233∨fn=234 by omega);clear hk9;have HC:=aW hC;clear hC;go_enter Tryz.func217,Tryz.ntmps217;go_wp2_with fail;obtain ⟨W1,hW1⟩:∃ W1,(w.alloc (.cells #[Zi Zq kd,Zi Zq n,Zt s,Zs A nk ca,Zs B nb cb] 266)).alloc (.cells #[.func (.func 229) #[] #[],.func (.func 230) #[] #[],.func (.func 231) #[] #[],.func (.func 232) #[] #[],.func (.func 233) #[] #[],.func (.func 234) #[] #[]] 276)=W1:=⟨_,rfl⟩
 have hb1:Blk W1 w.heap.size 266 #[Zi Zq kd,Zi Zq n,Zt s,Zs A nk ca,Zs B nb cb]:=by rw [← hW1];exact (Blk.new _ _ _).alloc _
 have hb2:Blk W1 (w.heap.size+1) 276 #[.func (.func 229) #[] #[],.func (.func 230) #[] #[],.func (.func 231) #[] #[],.func (.func 232) #[] #[],.func (.func 233) #[] #[],.func (.func 234) #[] #[]]:=by
  rw [← hW1];have:=Blk.new (w.alloc (.cells #[Zi Zq kd,Zi Zq n,Zt s,Zs A nk ca,Zs B nb cb] 266)) 276 #[.func (.func 229) #[] #[],.func (.func 230) #[] #[],.func (.func 231) #[] #[],.func (.func 232) #[] #[],.func (.func 233) #[] #[],.func (.func 234) #[] #[]];rw [World.size_alloc] at this;exact this
 have hbw:Below w.heap.size w W1:=by rw [← hW1];exact ((Below.refl _ w).alloc (Nat.le_refl _) _).alloc (by simp) _
 rw [hW1];have HB1:=aW hb1;have HB2:=aW hb2;have HBW:=aW hbw;clear hW1 hb1 hb2 hbw;obtain ⟨c1,f1,l1⟩:=HB1.out.rules;obtain ⟨c2,f2,l2⟩:=HB2.out.rules;have g0:=c1 0;have g1:=c1 1;have g2:=c1 2;have g3:=c1 3;have g4:=c1 4;simp at g0 g1 g2 g3 g4;have e0:=(c2 j).trans HE9.out;refine wp_region_held_drew (S:=λ w'=>w'.cell? ⟨w.heap.size,0,none⟩=some (Zi Zq kd)/\w'.cell? ⟨w.heap.size,1,none⟩=some (Zi Zq n)/\w'.cell? ⟨w.heap.size,2,none⟩=some (Zt s)/\w'.cell? ⟨w.heap.size,3,none⟩=some (Zs A nk ca)/\w'.cell? ⟨w.heap.size,4,none⟩=some (Zs B nb cb)/\w'.cell? ⟨w.heap.size+1,j,none⟩=some (.func (.func fn) #[] #[])) (by kernel_rfl) (by exact ⟨g0,g1,g2,g3,g4,e0⟩) (λ hHeld=>?_);refine tA 0 5 (Zp (some ⟨w.heap.size,0,none⟩)) rfl ?_;refine tA 1 6 (Zi Zq kd) rfl ?_;refine tA 2 7 (.bool true) rfl ?_;refine tA 3 8 (.bool true) rfl ?_;refine tA 4 9 (Zp (some ⟨w.heap.size,0,none⟩)) rfl ?_;refine tA 5 10 (Zi Zq kd) rfl ?_;refine tA 6 11 (.bool true) rfl ?_;refine tA 7 12 (.bool true) rfl ?_;refine tA 8 13 (.bool true) rfl ?_;refine tA 9 14 (Zp (some ⟨w.heap.size,0,none⟩)) rfl ?_;refine tA 10 15 (Zi Zq kd) rfl ?_;refine tA 11 16 (Zi Zq (j:Int)) rfl ?_;refine tA 12 17 (Zp (some ⟨w.heap.size+1,j,none⟩)) rfl ?_;refine tA 13 18 (.func (.func fn) #[] #[]) rfl ?_;refine tA 14 19 (.agg #[Zi Zq kd,Zi Zq n,Zt s,Zs A nk ca,Zs B nb cb]) rfl ?_;refine aV 15 20 rfl (λ K hK=>?_);rcases HF9.out with rfl | rfl | rfl | rfl | rfl | rfl
 all_goals
  go_simp;refine (HC.out _ HBW.out.drew).mono ?_;rintro e w2 ⟨rfl,hb2⟩;have hk1:=HB1.out.drew.keep hb2;have hk2:=HB2.out.drew.keep hb2;have z0:=hk1.cell 0;have z1:=hk1.cell 1;have z2:=hk1.cell 2;have z3:=hk1.cell 3;have z4:=hk1.cell 4;have z5:=(hk2.cell j).trans HE9.out;simp at z0 z1 z2 z3 z4;have hbw2:=HBW.out.drew.trans (hb2.mono HBW.out.drew.size);refine hK.out _ _ (⟨z0,z1,z2,z3,z4,z5⟩) (λ hHeld2=>?_);clear hK K hHeld
  try simp only [pU]
  refine tA 16 21 (.bool r) rfl ?_;refine tA 17 2 (.bool r) rfl ?_;refine aX ?_;have HW2:=aW hbw2;clear hbw2 hb2 hk1 hk2 z0 z1 z2 z3 z4 z5;go_wp2;go_ret;exact ⟨rfl,HW2.out⟩
theorem xc (k:Int) (n:Int) (s:ByteArray) (nk nb:Nat) (A B:Option Addr) (ca cb:Nat) (w:World) (hk:k<1):Calls Tryz.prog 217 #[.agg #[Zi Zq k,Zi Zq n,Zt s,Zs A nk ca,Zs B nb cb]] w (cP false w):=by
 have k1:¬ (1<=k):=by omega
 have k2:decide (1<=k)=false:=by simp;omega
 go_enter Tryz.func217,Tryz.ntmps217;go_wp2_with fail;obtain ⟨W1,hW1⟩:∃ W1,(w.alloc (.cells #[Zi Zq k,Zi Zq n,Zt s,Zs A nk ca,Zs B nb cb] 266)).alloc (.cells #[.func (.func 229) #[] #[],.func (.func 230) #[] #[],.func (.func 231) #[] #[],.func (.func 232) #[] #[],.func (.func 233) #[] #[],.func (.func 234) #[] #[]] 276)=W1:=⟨_,rfl⟩
 have hb1:Blk W1 w.heap.size 266 #[Zi Zq k,Zi Zq n,Zt s,Zs A nk ca,Zs B nb cb]:=by rw [← hW1];exact (Blk.new _ _ _).alloc _
 have hb2:Blk W1 (w.heap.size+1) 276 #[.func (.func 229) #[] #[],.func (.func 230) #[] #[],.func (.func 231) #[] #[],.func (.func 232) #[] #[],.func (.func 233) #[] #[],.func (.func 234) #[] #[]]:=by
  rw [← hW1];have:=Blk.new (w.alloc (.cells #[Zi Zq k,Zi Zq n,Zt s,Zs A nk ca,Zs B nb cb] 266)) 276 #[.func (.func 229) #[] #[],.func (.func 230) #[] #[],.func (.func 231) #[] #[],.func (.func 232) #[] #[],.func (.func 233) #[] #[],.func (.func 234) #[] #[]];rw [World.size_alloc] at this;exact this
 have hbw:Below w.heap.size w W1:=by rw [← hW1];exact ((Below.refl _ w).alloc (Nat.le_refl _) _).alloc (by simp) _
 rw [hW1];have HB1:=aW hb1;have HB2:=aW hb2;have HBW:=aW hbw;clear hW1 hb1 hb2 hbw;obtain ⟨c1,f1,l1⟩:=HB1.out.rules;obtain ⟨c2,f2,l2⟩:=HB2.out.rules;have g0:=c1 0;have g1:=c1 1;have g2:=c1 2;have g3:=c1 3;have g4:=c1 4;have e0:=c2 0;simp at g0 g1 g2 g3 g4 e0;refine wp_region_held_drew (S:=λ w'=>w'.cell? ⟨w.heap.size,0,none⟩=some (Zi Zq k)/\w'.cell? ⟨w.heap.size,1,none⟩=some (Zi Zq n)/\w'.cell? ⟨w.heap.size,2,none⟩=some (Zt s)/\w'.cell? ⟨w.heap.size,3,none⟩=some (Zs A nk ca)/\w'.cell? ⟨w.heap.size,4,none⟩=some (Zs B nb cb)/\w'.cell? ⟨w.heap.size+1,0,none⟩=some (.func (.func 229) #[] #[])) (by kernel_rfl) (by exact ⟨g0,g1,g2,g3,g4,e0⟩) (λ hHeld=>?_);refine tA 0 5 (Zp (some ⟨w.heap.size,0,none⟩)) rfl ?_;refine tA 1 6 (Zi Zq k) rfl ?_;refine tA 2 7 (.bool false) rfl ?_;refine tA 3 8 (.bool false) rfl ?_;refine tN 4 9 undef rfl ?_;refine tN 5 10 undef rfl ?_;refine tN 6 11 undef rfl ?_;refine tA 7 12 (.bool false) rfl ?_;refine tA 8 13 (.bool false) rfl ?_;refine tN 9 14 undef rfl ?_;refine tN 10 15 undef rfl ?_;refine tN 11 16 undef rfl ?_;refine tN 12 17 undef rfl ?_;refine tN 13 18 undef rfl ?_;refine tN 14 19 undef rfl ?_;refine tN 15 20 undef rfl ?_;refine tA 16 21 (.bool false) rfl ?_;refine tA 17 2 (.bool false) rfl ?_;refine aX ?_;go_wp2;go_ret;exact ⟨rfl,HBW.out.drew⟩
theorem vn (k:Int) (n:Int) (s:ByteArray) (nk nb:Nat) (A B:Option Addr) (ca cb:Nat) (w:World) (hk:6<k):Calls Tryz.prog 217 #[.agg #[Zi Zq k,Zi Zq n,Zt s,Zs A nk ca,Zs B nb cb]] w (cP false w):=by
 have k1:1<=k:=by omega
 have k2:decide (1<=k)=true:=by simp;omega
 have k3:¬ (k<=6):=by omega
 have k4:decide (k<=6)=false:=by simp;omega
 go_enter Tryz.func217,Tryz.ntmps217;go_wp2_with fail;obtain ⟨W1,hW1⟩:∃ W1,(w.alloc (.cells #[Zi Zq k,Zi Zq n,Zt s,Zs A nk ca,Zs B nb cb] 266)).alloc (.cells #[.func (.func 229) #[] #[],.func (.func 230) #[] #[],.func (.func 231) #[] #[],.func (.func 232) #[] #[],.func (.func 233) #[] #[],.func (.func 234) #[] #[]] 276)=W1:=⟨_,rfl⟩
 have hb1:Blk W1 w.heap.size 266 #[Zi Zq k,Zi Zq n,Zt s,Zs A nk ca,Zs B nb cb]:=by rw [← hW1];exact (Blk.new _ _ _).alloc _
 have hb2:Blk W1 (w.heap.size+1) 276 #[.func (.func 229) #[] #[],.func (.func 230) #[] #[],.func (.func 231) #[] #[],.func (.func 232) #[] #[],.func (.func 233) #[] #[],.func (.func 234) #[] #[]]:=by
  rw [← hW1];have:=Blk.new (w.alloc (.cells #[Zi Zq k,Zi Zq n,Zt s,Zs A nk ca,Zs B nb cb] 266)) 276 #[.func (.func 229) #[] #[],.func (.func 230) #[] #[],.func (.func 231) #[] #[],.func (.func 232) #[] #[],.func (.func 233) #[] #[],.func (.func 234) #[] #[]];rw [World.size_alloc] at this;exact this
 have hbw:Below w.heap.size w W1:=by rw [← hW1];exact ((Below.refl _ w).alloc (Nat.le_refl _) _).alloc (by simp) _
 rw [hW1];have HB1:=aW hb1;have HB2:=aW hb2;have HBW:=aW hbw;clear hW1 hb1 hb2 hbw;obtain ⟨c1,f1,l1⟩:=HB1.out.rules;obtain ⟨c2,f2,l2⟩:=HB2.out.rules;have g0:=c1 0;have g1:=c1 1;have g2:=c1 2;have g3:=c1 3;have g4:=c1 4;have e0:=c2 0;simp at g0 g1 g2 g3 g4 e0;refine wp_region_held_drew (S:=λ w'=>w'.cell? ⟨w.heap.size,0,none⟩=some (Zi Zq k)/\w'.cell? ⟨w.heap.size,1,none⟩=some (Zi Zq n)/\w'.cell? ⟨w.heap.size,2,none⟩=some (Zt s)/\w'.cell? ⟨w.heap.size,3,none⟩=some (Zs A nk ca)/\w'.cell? ⟨w.heap.size,4,none⟩=some (Zs B nb cb)/\w'.cell? ⟨w.heap.size+1,0,none⟩=some (.func (.func 229) #[] #[])) (by kernel_rfl) (by exact ⟨g0,g1,g2,g3,g4,e0⟩) (λ hHeld=>?_);refine tA 0 5 (Zp (some ⟨w.heap.size,0,none⟩)) rfl ?_;refine tA 1 6 (Zi Zq k) rfl ?_;refine tA 2 7 (.bool true) rfl ?_;refine tA 3 8 (.bool true) rfl ?_;refine tA 4 9 (Zp (some ⟨w.heap.size,0,none⟩)) rfl ?_;refine tA 5 10 (Zi Zq k) rfl ?_;refine tA 6 11 (.bool false) rfl ?_;refine tA 7 12 (.bool false) rfl ?_;refine tA 8 13 (.bool false) rfl ?_;refine tN 9 14 undef rfl ?_;refine tN 10 15 undef rfl ?_;refine tN 11 16 undef rfl ?_;refine tN 12 17 undef rfl ?_;refine tN 13 18 undef rfl ?_;refine tN 14 19 undef rfl ?_;refine tN 15 20 undef rfl ?_;refine tA 16 21 (.bool false) rfl ?_;refine tA 17 2 (.bool false) rfl ?_;refine aX ?_;go_wp2;go_ret;exact ⟨rfl,HBW.out.drew⟩
theorem rA (n:Int):decide (n=bits .and .i64 n 1)=(n == 0 || n == 1):=by
 have h:bits .and .i64 n 1=(((n % 18446744073709551616).toNat % 2:Nat):Int):=by
  show IntKind.i64.wrap ((BitVec.ofInt 64 n&&&BitVec.ofInt 64 1).toNat:Int)=_
  have e:(BitVec.ofInt 64 n&&&BitVec.ofInt 64 1).toNat=(n % 18446744073709551616).toNat % 2:=by
   rw [BitVec.toNat_and,show (BitVec.ofInt 64 1).toNat=1 by decide,Nat.and_one_is_mod,BitVec.toNat_ofInt];rfl
  rw [e,IntKind.wrap_i64];omega
 rw [h,show (n == 0)=decide (n=0) from rfl,show (n == 1)=decide (n=1) from rfl,Bool.eq_iff_iff];simp only [Bool.or_eq_true,decide_eq_true_eq];omega
theorem j0 (s:List UInt8):decide ((⟨s.toArray⟩:ByteArray).toList=ByteArray.toList ⟨#[]⟩)=(s == []):=by
 have h1:(⟨s.toArray⟩:ByteArray).toList=s:=by rw [ByteArray.toList_eq]
 have h2:ByteArray.toList ⟨#[]⟩=[]:=by rw [ByteArray.toList_eq]
 rw [h1,h2];cases s<;>rfl
theorem tS (cs:List Value) (k n:Int) (s:List UInt8) (kids:List JV) (keys:List (List UInt8)) (F:Nat->Prop) (w:World) (hG:GOK w) (hv:VR w F cs (.mk k n s kids keys)) (hc:cN (.mk k n s kids keys)) :
  Calls Tryz.prog 217 #[.agg cs.toArray] w (cP (bZ k n s kids.length keys) w):=by
 obtain ⟨A,B,ca,cb,css,rfl,h1,h2,h3,h4,h5,h6,h7⟩:=hv.out;obtain ⟨b1,b2,b3,b4,b5,b6,b7⟩:=hc.out;have hkl:(keys == [])=decide (keys.length=0):=by cases keys<;>rfl
 have hz:∀ x:Nat,(x == 0)=decide ((x:Int)=0):=λ x=>by rw [Bool.eq_iff_iff];simp
 rcases Int.lt_or_le k 1 with hk | hk
 ·have:bZ k n s kids.length keys=false:=by rw [Bool.eq_false_iff];intro h;have:=fs h;omega
  rw [this];exact xc k n _ _ _ A B ca cb w hk
 rcases Int.lt_or_le 6 k with hk' | hk'
 ·have:bZ k n s kids.length keys=false:=by rw [Bool.eq_false_iff];intro h;have:=fs h;omega
  rw [this];exact vn k n _ _ _ A B ca cb w hk'
 have hk7:k=1∨k=2∨k=3∨k=4∨k=5∨k=6:=by omega
 rcases hk7 with rfl | rfl | rfl | rfl | rfl | rfl
 ·refine mg 1 0 _ (by simp) n _ _ _ A B ca cb w _ (λ W hW=>xe n _ _ _ A B ca cb W _ ?_);rw [j0,← hz,← hkl];simp [bZ,Bool.and_assoc,show (n == 0)=decide (n=0) from rfl]
 ·refine mg 2 1 _ (by simp) n _ _ _ A B ca cb w _ (λ W hW=>vr n _ _ _ A B ca cb W _ rfl _ ?_);rw [j0,← hz,← hkl];rw [rA n];simp [bZ,Bool.and_assoc,show (n == 0)=decide (n=0) from rfl]
 ·refine mg 3 2 _ (by simp) n _ _ _ A B ca cb w _ (λ W hW=>tT n _ _ _ A B ca cb W _ ?_);rw [j0,← hz,← hkl];simp [bZ,Bool.and_assoc,show (n == 0)=decide (n=0) from rfl]
 ·refine mg 4 3 _ (by simp) n _ _ _ A B ca cb w _ (λ W hW=>xf n s _ _ A B ca cb W (hG.keep hW) b3 _ ?_);rw [← hz,← hkl];cases hh:cF s<;>simp [bZ,Bool.and_assoc,hh,show (n == 0)=decide (n=0) from rfl]
 ·refine mg 5 4 _ (by simp) n _ _ _ A B ca cb w _ (λ W hW=>xd n _ _ _ A B ca cb W _ ?_);rw [j0,← hkl];simp [bZ,Bool.and_assoc,show (n == 0)=decide (n=0) from rfl]
 ·refine mg 6 5 _ (by simp) n _ _ _ A B ca cb w _ (λ W hW=>xV n _ _ keys _ A B ca cb W (hG.keep hW) rfl b5 h3 ((h7.mono λ _ _ _=>trivial).keep (aj.of_below hW)) b6 _ ?_);rw [j0,show decide (kids.length=keys.length)=(kids.length == keys.length) by rw [Bool.eq_iff_iff];simp];cases hh:cA keys<;>simp [bZ,Bool.and_assoc,hh,show (n == 0)=decide (n=0) from rfl]
end
end Go.Proofs.YtgmnmnnoahdjnaaGreatDoor
