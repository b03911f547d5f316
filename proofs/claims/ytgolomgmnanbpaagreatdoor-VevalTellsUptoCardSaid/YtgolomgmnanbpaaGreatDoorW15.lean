import Derived.Test.YtgolomgmnanbpaaGreatDoorW11
import Derived.Deep.RegionHeld3
import Derived.Test.YtgolomgmnanbpaaGreatDoorW01
set_option maxRecDepth 100000
set_option maxHeartbeats 16000000
namespace Go.Proofs.YtgolomgmnanbpaaGreatDoor
set_option linter.unusedVariables false
set_option linter.unusedSimpArgs false
open Go.RowKit
attribute [local go_sem] run_index_arr run_part_agg run_part_one run_field_agg
theorem bl0:ByteArray.toList ⟨#[]⟩=[]:=by rw [ByteArray.toList_eq]
def BoolS (r:Bool) (w:World) (e:Ending) (w':World):Prop:=e=.returned (.bool r)∧Below w.heap.size w w'
theorem vBareG (k m j:Int) (n:Int) (s t:ByteArray) (nk nb:Nat) (A B:Option Addr) (ca cb:Nat) (w:World):Calls Tryz.prog 194 #[.agg #[.int .i64 k,.int .i64 n,.string s,.slice A nk ca,.slice B nb cb],.int .i64 m,.string t,.int .i64 j] w
  (BoolS (decide (n=m) && (decide (s.toList=t.toList) && (decide ((nk:Int)=j) && decide (nb=0)))) w):=by
 have HB:=aW ((Below.refl w.heap.size w).alloc (Nat.le_refl _) (.cells #[.int .i64 k,.int .i64 n,.string s,.slice A nk ca,.slice B nb cb] 168));by_cases h1:n=m
 ·subst h1;by_cases h2:s.toList=t.toList
  ·rw [decide_eq_true h2,decide_eq_true rfl];have e2:(s.toList == t.toList)=true:=by simp [h2]
   clear h2;by_cases h3:(nk:Int)=j
   ·rw [decide_eq_true h3];have e3:((nk:Int) == j)=true:=by simp [h3]
    by_cases h4:nb=0
    ·rw [decide_eq_true h4];subst h4;go_enter Tryz.func194,Tryz.ntmps194;go_wp2;go_ret;exact ⟨rfl,HB.out⟩
    ·rw [decide_eq_false h4];have e4:((nb:Int) == 0)=false:=by simp;omega
     go_enter Tryz.func194,Tryz.ntmps194;go_wp2;go_ret;exact ⟨rfl,HB.out⟩
   ·rw [decide_eq_false h3];have e3:((nk:Int) == j)=false:=by simp [h3]
    go_enter Tryz.func194,Tryz.ntmps194;go_wp2;go_ret;exact ⟨rfl,HB.out⟩
  ·rw [decide_eq_false h2];have e2:(s.toList == t.toList)=false:=by simp [h2]
   go_enter Tryz.func194,Tryz.ntmps194;go_wp2;go_ret;exact ⟨by simp,HB.out⟩
 ·rw [decide_eq_false h1];have e1:(n == m)=false:=by simp [h1]
  go_enter Tryz.func194,Tryz.ntmps194;go_wp2;go_ret;exact ⟨by simp,HB.out⟩
theorem vNullG (n:Int) (s:ByteArray) (nk nb:Nat) (A B:Option Addr) (ca cb:Nat) (w:World) (r:Bool) (hr:(decide (n=0) && (decide (s.toList=ByteArray.toList ⟨#[]⟩) && (decide ((nk:Int)=0) && decide (nb=0))))=r):Calls Tryz.prog 176 #[.agg #[.int .i64 1,.int .i64 n,.string s,.slice A nk ca,.slice B nb cb]] w (BoolS r w):=by
 have HB:=aW ((Below.refl w.heap.size w).alloc (Nat.le_refl _) (.cells #[.int .i64 1,.int .i64 n,.string s,.slice A nk ca,.slice B nb cb] 168));have HC:=aW (fun W=>by have h:=vBareG 1 0 0 n s ⟨#[]⟩ nk nb A B ca cb W;rw [hr] at h;exact h);clear hr;go_enter Tryz.func176,Tryz.ntmps176;go_wp2_with fail;refine (HC.out _).mono ?_;rintro e w1 ⟨rfl,hb⟩;have HB1:=aW (HB.out.trans (hb.mono HB.out.size));clear hb;go_wp2;go_ret;exact ⟨rfl,HB1.out⟩
theorem vNumberG (n:Int) (s:ByteArray) (nk nb:Nat) (A B:Option Addr) (ca cb:Nat) (w:World) (r:Bool) (hr:(decide (n=n) && (decide (s.toList=ByteArray.toList ⟨#[]⟩) && (decide ((nk:Int)=0) && decide (nb=0))))=r):Calls Tryz.prog 178 #[.agg #[.int .i64 3,.int .i64 n,.string s,.slice A nk ca,.slice B nb cb]] w (BoolS r w):=by
 have HB:=aW ((Below.refl w.heap.size w).alloc (Nat.le_refl _) (.cells #[.int .i64 3,.int .i64 n,.string s,.slice A nk ca,.slice B nb cb] 168));have HC:=aW (fun W=>by have h:=vBareG 3 n 0 n s ⟨#[]⟩ nk nb A B ca cb W;rw [hr] at h;exact h);clear hr;go_enter Tryz.func178,Tryz.ntmps178;go_wp2_with fail;refine (HC.out _).mono ?_;rintro e w1 ⟨rfl,hb⟩;have HB1:=aW (HB.out.trans (hb.mono HB.out.size));clear hb;go_wp2;go_ret;exact ⟨rfl,HB1.out⟩
theorem vListG (n:Int) (s:ByteArray) (nk nb:Nat) (A B:Option Addr) (ca cb:Nat) (w:World) (r:Bool) (hr:(decide (n=0) && (decide (s.toList=ByteArray.toList ⟨#[]⟩) && (decide ((nk:Int)=(nk:Int)) && decide (nb=0))))=r):Calls Tryz.prog 180 #[.agg #[.int .i64 5,.int .i64 n,.string s,.slice A nk ca,.slice B nb cb]] w (BoolS r w):=by
 have HB:=aW ((Below.refl w.heap.size w).alloc (Nat.le_refl _) (.cells #[.int .i64 5,.int .i64 n,.string s,.slice A nk ca,.slice B nb cb] 168));have HC:=aW (fun W=>by have h:=vBareG 5 0 (nk:Int) n s ⟨#[]⟩ nk nb A B ca cb W;rw [hr] at h;exact h);clear hr;go_enter Tryz.func180,Tryz.ntmps180;go_wp2_with fail;refine (HC.out _).mono ?_;rintro e w1 ⟨rfl,hb⟩;have HB1:=aW (HB.out.trans (hb.mono HB.out.size));clear hb;go_wp2;go_ret;exact ⟨rfl,HB1.out⟩
theorem vTruthG (n:Int) (s:ByteArray) (nk nb:Nat) (A B:Option Addr) (ca cb:Nat) (w:World) (m:Int) (hm:bits .and .i64 n 1=m) (r:Bool) (hr:(decide (n=m) && (decide (s.toList=ByteArray.toList ⟨#[]⟩) && (decide ((nk:Int)=0) && decide (nb=0))))=r):Calls Tryz.prog 177 #[.agg #[.int .i64 2,.int .i64 n,.string s,.slice A nk ca,.slice B nb cb]] w (BoolS r w):=by
 have HB:=aW ((Below.refl w.heap.size w).alloc (Nat.le_refl _) (.cells #[.int .i64 2,.int .i64 n,.string s,.slice A nk ca,.slice B nb cb] 168));have HC:=aW (fun W=>by have h:=vBareG 2 m 0 n s ⟨#[]⟩ nk nb A B ca cb W;rw [hr] at h;exact h);clear hr;go_enter Tryz.func177,Tryz.ntmps177;go_wp2_with fail;refine (HC.out _).mono ?_;rintro e w1 ⟨rfl,hb⟩;have HB1:=aW (HB.out.trans (hb.mono HB.out.size));clear hb;go_wp2;go_ret;exact ⟨rfl,HB1.out⟩
theorem vTextG (n:Int) (s:List UInt8) (nk nb:Nat) (A B:Option Addr) (ca cb:Nat) (w:World) (hG:GOK w) (hs:s.length≤4194304) (r:Bool) (hr:(txtOk s && (decide (n=0) && (decide ((nk:Int)=0) && decide (nb=0))))=r):Calls Tryz.prog 179 #[.agg #[.int .i64 4,.int .i64 n,.string ⟨s.toArray⟩,.slice A nk ca,.slice B nb cb]] w (BoolS r w):=by
 have HB:=aW ((Below.refl w.heap.size w).alloc (Nat.le_refl _) (.cells #[.int .i64 4,.int .i64 n,.string ⟨s.toArray⟩,.slice A nk ca,.slice B nb cb] 168));have hbk:=Blk.new w 168 #[.int .i64 4,.int .i64 n,.string ⟨s.toArray⟩,.slice A nk ca,.slice B nb cb];have HC:=aW (fun W=>vBareG 4 0 0 n ⟨s.toArray⟩ ⟨s.toArray⟩ nk nb A B ca cb W);have HU:=aW (uCheck_any s _ (hG.keep HB.out) hs);clear hG hs;have HBK:=aW hbk;clear hbk;by_cases ht:txtOk s=true
 ·have e0:uErr s=0:=by unfold uErr;rw [if_pos ht]
  rw [e0] at HU;rw [ht,Bool.true_and] at hr;have hr':(decide (n=0) && (decide ((⟨s.toArray⟩:ByteArray).toList=(⟨s.toArray⟩:ByteArray).toList) && (decide ((nk:Int)=0) && decide (nb=0))))=r:=by rw [decide_eq_true (rfl:(⟨s.toArray⟩:ByteArray).toList=(⟨s.toArray⟩:ByteArray).toList),Bool.true_and];exact hr
  rw [hr'] at HC;clear hr hr' e0 ht;go_enter Tryz.func179,Tryz.ntmps179;go_wp2_with fail;refine HU.out.mono ?_;rintro e w1 ⟨⟨p,rfl⟩,hb⟩;have HB1:=aW (HB.out.trans (hb.mono HB.out.size));obtain ⟨c1,f1,l1⟩:=(HBK.out.keep hb).rules;clear hb;go_wp2_with fail;refine (HC.out _).mono ?_;rintro e w2 ⟨rfl,hb⟩;have HB2:=aW (HB1.out.trans (hb.mono HB1.out.size));clear hb;go_wp2;go_ret;exact ⟨rfl,HB2.out⟩
 ·have e0:uErr s=110:=by unfold uErr;rw [if_neg ht]
  rw [e0] at HU;rw [Bool.eq_false_iff.2 ht,Bool.false_and] at hr;subst hr;clear e0 ht;go_enter Tryz.func179,Tryz.ntmps179;go_wp2_with fail;refine HU.out.mono ?_;rintro e w1 ⟨⟨p,rfl⟩,hb⟩;have HB1:=aW (HB.out.trans (hb.mono HB.out.size));obtain ⟨c1,f1,l1⟩:=(HBK.out.keep hb).rules;clear hb;go_wp2;go_ret;exact ⟨rfl,HB1.out⟩
def keysGo:Option (List UInt8)→List (List UInt8)→Bool
 | _,[]=>true
 | p,k::r=>txtOk k && ((match p with | none=>true | some q=>ltB q k) && keysGo (some k) r)
theorem keysGo_some:∀ (q:List UInt8) (l:List (List UInt8)),keysGo (some q) l=((match l with | []=>true | k::_=>ltB q k) && keysOk l)
 | q,[]=>rfl
 | q,k::r=>by
  unfold keysGo keysOk;rw [keysGo_some k r];cases r<;>cases txtOk k<;>cases ltB q k<;>simp
theorem keysGo_none:∀ (l:List (List UInt8)),keysGo none l=keysOk l
 | []=>rfl
 | k::r=>by
  unfold keysGo keysOk;rw [keysGo_some k r];cases r<;>simp
def keysAt (keys:List (List UInt8)) (i:Nat):Bool:=keysGo (if i=0 then none else keys[i-1]?) (keys.drop i)
theorem keysAt_0 (keys:List (List UInt8)):keysAt keys 0=keysOk keys:=by unfold keysAt;rw [if_pos rfl,List.drop_zero,keysGo_none]
theorem keysAt_end (keys:List (List UInt8)):keysAt keys keys.length=true:=by unfold keysAt;rw [List.drop_length];unfold keysGo;rfl
theorem keysAt_first {keys:List (List UInt8)} {t:List UInt8} (h:keys[0]? = some t):keysAt keys 0=(txtOk t && keysAt keys 1):=by
 unfold keysAt;rw [if_pos rfl,if_neg (by decide),show 1-1=0 from rfl,h];cases keys with
 | nil=>simp at h
 | cons k r =>
  obtain rfl:k=t:=by simpa using h
  rw [List.drop_zero];show keysGo none (k::r)=_
  conv=>lhs;unfold keysGo
  simp
theorem keysAt_step {keys:List (List UInt8)} {i:Nat} {u t:List UInt8} (hu:keys[i]? = some u) (ht:keys[i+1]? = some t):keysAt keys (i+1)=(txtOk t && (ltB u t && keysAt keys (i+2))):=by
 unfold keysAt;rw [if_neg (by omega),if_neg (by omega),show i+1-1=i from rfl,show i+2-1=i+1 from rfl,hu,ht];have e:keys.drop (i+1)=t::keys.drop (i+2):=by
  obtain ⟨h1,h2⟩:=List.getElem?_eq_some_iff.1 ht;rw [List.drop_eq_getElem_cons h1,h2]
 rw [e]
 conv=>lhs;unfold keysGo
theorem vObjG (n0:Int) (s0:ByteArray) (nk:Nat) (keys:List (List UInt8)) (n:Nat) (A B:Option Addr) (ca cb:Nat) (w:World) (hG:GOK w) (hn:keys.length=n) (hn9:n≤4194304) (hcb:n≤cb) (hk:RdF w (fun _=>True) B (strV keys)) (hts:∀ t ∈ keys,t.length≤4194304)
  (r:Bool) (hr:(keysOk keys && (decide (n0=0) && (decide (s0.toList=ByteArray.toList ⟨#[]⟩) && decide (nk=n))))=r) :
  Calls Tryz.prog 181 #[.agg #[.int .i64 6,.int .i64 n0,.string s0,.slice A nk ca,.slice B n cb]] w (BoolS r w):=by
 have HNY:=aW hn;have HK:=aW hk;have HTS:=aW hts;have HGK:=aW hG;have HR:=aW hr;have HBW:=aW ((Below.refl w.heap.size w).alloc (Nat.le_refl _) (.cells #[.int .i64 6,.int .i64 n0,.string s0,.slice A nk ca,.slice B n cb] 168));have HBK:=aW (Blk.new w 168 #[.int .i64 6,.int .i64 n0,.string s0,.slice A nk ca,.slice B n cb]);clear hn hk hts hG hr;go_enter Tryz.func181,Tryz.ntmps181;go_wp2;go_loopg [10] n (fun gk s10 wr => ∃ i:Nat,i≤n∧gk=n-i∧s10=.int .i64 i∧Hid (Blk wr w.heap.size 168 #[.int .i64 6,.int .i64 n0,.string s0,.slice A nk ca,.slice B n cb])∧Hid (Below w.heap.size w wr)∧Hid (keysOk keys=keysAt keys i))
 case atStart=>exact ⟨0,Nat.zero_le _,rfl,by go_num,HBK,HBW,aW (keysAt_0 keys).symm⟩
 case round =>
  obtain ⟨i,hi,hgk,rfl,HB1,HBW1,HQ⟩:=hrel;have HG:=aW hgk;clear hgk;obtain ⟨c1,f1,l1⟩:=HB1.out.rules;by_cases hlt:i<n
  ·obtain ⟨b,o,rfl,hb⟩:=strV_some HK.out (by rw [HNY.out];omega);obtain ⟨t,ht⟩:∃ t,keys[i]? = some t:=⟨_,List.getElem?_eq_getElem (by rw [HNY.out];exact hlt)⟩
   have HV:=aW (uCheck_any t wr (HGK.out.keep HBW1.out) (HTS.out t (List.mem_of_getElem? ht)));have HC:=aW (fun W (h:Below w.heap.size w W)=>strV_cell (n:=0) (HK.out.keep (KeepF.of_below h)) ht);have x0:=HC.out wr HBW1.out;have hTT:=aW ht;clear ht;by_cases h0:0<i
   ·obtain ⟨j,rfl⟩:∃ j,i=j+1:=⟨i-1,by omega⟩
    obtain ⟨u,hu⟩:∃ u,keys[j]? = some u:=⟨_,List.getElem?_eq_getElem (by rw [HNY.out];omega)⟩
    have HST:=aW (keysAt_step hu hTT.out);have HD:=aW (fun W (h:Below w.heap.size w W)=>strV_cell (n:=0) (HK.out.keep (KeepF.of_below h)) hu);clear hTT hu;obtain ⟨i,hij⟩:∃ i,j+1=i:=⟨_,rfl⟩
    have HIJ:=aW hij;rw [show j+2=i+1 by omega] at HST;rw [hij] at hi HG hlt HQ HST x0 h0 ⊢;have i1:(0:Int)≤(j:Int):=by omega
    have i2:(j:Int)<(n:Int):=by omega
    have i3:(0:Int)≤(i:Int):=by omega
    have i4:(i:Int)<(n:Int):=by omega
    have i5:(0:Int)<(i:Int):=by omega
    have i6:IntKind.i64.wrap ((i:Int)-1)=(i:Int)-1:=IntWalk.i64_in _ (by omega);have i8:(0:Int)≤(i:Int)-1:=by omega
    have i9:(i:Int)-1<(n:Int):=by omega
    have i10:((i:Int)-1).toNat=j:=by omega
    clear hij;by_cases htx:txtOk t=true
    ·have e0:uErr t=0:=by unfold uErr;rw [if_pos htx]
     rw [e0] at HV;clear e0;by_cases hlb:ltB u t=true
     ·have hup:Op.bytesLess u t=true:=hlb;have HQ2:=aW (show keysOk keys=keysAt keys (i+1) by rw [HQ.out,HST.out,htx,hlb];rfl);clear htx hlb;go_wp2_with fail;refine HV.out.mono ?_;rintro e w2 ⟨⟨p,rfl⟩,hb2⟩;have HB2:=aW (HB1.out.keep hb2);have HW2:=aW (HBW1.out.trans (hb2.mono HBW1.out.size));have z0:=HB2.out.cell 4;simp at z0;have z1:=HD.out w2 HW2.out;clear hb2;go_wp2;go_roundg (n-(i+1))
      case measure=>rw [HG.out];omega
      case rel=>exact ⟨i+1,hlt,rfl,by go_num,HB2,HW2,HQ2⟩
     ·have hup:Op.bytesLess u t=false:=Bool.eq_false_iff.2 hlb;have hrf:r=false:=by rw [← HR.out,HQ.out,HST.out,htx,Bool.eq_false_iff.2 hlb];rfl
      subst hrf;clear htx hlb;go_wp2_with fail;refine HV.out.mono ?_;rintro e w2 ⟨⟨p,rfl⟩,hb2⟩;have HB2:=aW (HB1.out.keep hb2);have HW2:=aW (HBW1.out.trans (hb2.mono HBW1.out.size));have z0:=HB2.out.cell 4;simp at z0;have z1:=HD.out w2 HW2.out;clear hb2;go_wp2;go_ret;exact ⟨rfl,HW2.out⟩
    ·have e0:uErr t=110:=by unfold uErr;rw [if_neg htx]
     rw [e0] at HV;have hrf:r=false:=by rw [← HR.out,HQ.out,HST.out,Bool.eq_false_iff.2 htx];rfl
     subst hrf;clear htx e0;go_wp2_with fail;refine HV.out.mono ?_;rintro e w2 ⟨⟨p,rfl⟩,hb2⟩;have HB2:=aW (HB1.out.keep hb2);have HW2:=aW (HBW1.out.trans (hb2.mono HBW1.out.size));have z0:=HB2.out.cell 4;simp at z0
     skip
     clear hb2;go_wp2;go_ret;exact ⟨rfl,HW2.out⟩
   ·obtain rfl:i=0:=by omega
    have i4:(0:Int)<(n:Int):=by omega
    rw [Nat.add_zero] at x0;have HST:=aW (keysAt_first hTT.out);clear hTT h0;by_cases htx:txtOk t=true
    ·have e0:uErr t=0:=by unfold uErr;rw [if_pos htx]
     rw [e0] at HV;have HQ2:=aW (show keysOk keys=keysAt keys (0+1) by rw [HQ.out,HST.out,htx];rfl);clear e0 htx;go_wp2_with fail;refine HV.out.mono ?_;rintro e w2 ⟨⟨p,rfl⟩,hb2⟩;have HB2:=aW (HB1.out.keep hb2);have HW2:=aW (HBW1.out.trans (hb2.mono HBW1.out.size));have z0:=HB2.out.cell 4;simp at z0
     skip
     clear hb2;go_wp2;go_roundg (n-(0+1))
     case measure=>rw [HG.out];omega
     case rel=>exact ⟨0+1,hlt,rfl,by go_num,HB2,HW2,HQ2⟩
    ·have e0:uErr t=110:=by unfold uErr;rw [if_neg htx]
     rw [e0] at HV;have hrf:r=false:=by rw [← HR.out,HQ.out,HST.out,Bool.eq_false_iff.2 htx];rfl
     subst hrf;clear htx e0;go_wp2_with fail;refine HV.out.mono ?_;rintro e w2 ⟨⟨p,rfl⟩,hb2⟩;have HB2:=aW (HB1.out.keep hb2);have HW2:=aW (HBW1.out.trans (hb2.mono HBW1.out.size));have z0:=HB2.out.cell 4;simp at z0
     skip
     clear hb2;go_wp2;go_ret;exact ⟨rfl,HW2.out⟩
  ·obtain rfl:i=n:=by omega
   have hr2:(decide (n0=0) && (decide (s0.toList=ByteArray.toList ⟨#[]⟩) && decide (nk=i)))=r:=by
    have h:=HR.out;rw [HQ.out,← HNY.out,keysAt_end,Bool.true_and,HNY.out] at h;exact h
   by_cases h1:n0=0
   ·subst h1;by_cases h2:s0.toList=ByteArray.toList ⟨#[]⟩
    ·have hs0:s0.toList=[]:=by rw [h2,bl0]
     have e2:s0.toList.isEmpty=true:=by rw [hs0];rfl
     rw [decide_eq_true h2] at hr2;clear h2;by_cases h3:nk=i
     ·obtain rfl:r=true:=by rw [← hr2];simp [h3]
      subst h3;clear hr2;go_wp2;go_ret;exact ⟨rfl,HBW1.out⟩
     ·obtain rfl:r=false:=by rw [← hr2];simp [h3]
      have e3:((nk:Int) == (i:Int))=false:=by simp;omega
      clear hr2;go_wp2;go_ret;exact ⟨rfl,HBW1.out⟩
    ·have hs0:¬ s0.toList=[]:=fun e=>h2 (by rw [e,bl0])
     have e2:s0.toList.isEmpty=false:=by cases h:s0.toList with | nil=>exact absurd h hs0 | cons=>rfl
     obtain rfl:r=false:=by rw [← hr2,decide_eq_false h2];rfl
     clear hr2 h2;go_wp2;go_ret;exact ⟨rfl,HBW1.out⟩
   ·have e1:(n0 == 0)=false:=by simp [h1]
    obtain rfl:r=false:=by rw [← hr2];simp [h1]
    clear hr2;go_wp2;go_ret;exact ⟨rfl,HBW1.out⟩
theorem vIsG1 (n:Int) (s:ByteArray) (nk nb:Nat) (A B:Option Addr) (ca cb:Nat) (w:World) (r:Bool) (hC:∀ W,Below w.heap.size w W→Calls Tryz.prog 176 #[.agg #[.int .i64 1,.int .i64 n,.string s,.slice A nk ca,.slice B nb cb]] W (BoolS r W)):Calls Tryz.prog 147 #[.agg #[.int .i64 1,.int .i64 n,.string s,.slice A nk ca,.slice B nb cb]] w (BoolS r w):=by
 have HC:=aW hC;clear hC;go_enter Tryz.func147,Tryz.ntmps147;go_wp2_with fail;obtain ⟨W1,hW1⟩:∃ W1,(w.alloc (.cells #[.int .i64 1,.int .i64 n,.string s,.slice A nk ca,.slice B nb cb] 168)).alloc (.cells #[.func (.func 176) #[] #[],.func (.func 177) #[] #[],.func (.func 178) #[] #[],.func (.func 179) #[] #[],.func (.func 180) #[] #[],.func (.func 181) #[] #[]] 201)=W1:=⟨_,rfl⟩
 have hb1:Blk W1 w.heap.size 168 #[.int .i64 1,.int .i64 n,.string s,.slice A nk ca,.slice B nb cb]:=by rw [← hW1];exact (Blk.new _ _ _).alloc _
 have hb2:Blk W1 (w.heap.size+1) 201 #[.func (.func 176) #[] #[],.func (.func 177) #[] #[],.func (.func 178) #[] #[],.func (.func 179) #[] #[],.func (.func 180) #[] #[],.func (.func 181) #[] #[]]:=by
  rw [← hW1];have:=Blk.new (w.alloc (.cells #[.int .i64 1,.int .i64 n,.string s,.slice A nk ca,.slice B nb cb] 168)) 201 #[.func (.func 176) #[] #[],.func (.func 177) #[] #[],.func (.func 178) #[] #[],.func (.func 179) #[] #[],.func (.func 180) #[] #[],.func (.func 181) #[] #[]];rw [World.size_alloc] at this;exact this
 have hbw:Below w.heap.size w W1:=by rw [← hW1];exact ((Below.refl _ w).alloc (Nat.le_refl _) _).alloc (by simp) _
 rw [hW1];have HB1:=aW hb1;have HB2:=aW hb2;have HBW:=aW hbw;clear hW1 hb1 hb2 hbw;obtain ⟨c1,f1,l1⟩:=HB1.out.rules;obtain ⟨c2,f2,l2⟩:=HB2.out.rules;have g0:=c1 0;have g1:=c1 1;have g2:=c1 2;have g3:=c1 3;have g4:=c1 4;have e0:=c2 0;simp at g0 g1 g2 g3 g4 e0;refine wp_region_held_drew (S:=fun w'=>w'.cell? ⟨w.heap.size,0,none⟩=some (.int .i64 1)∧w'.cell? ⟨w.heap.size,1,none⟩=some (.int .i64 n)∧w'.cell? ⟨w.heap.size,2,none⟩=some (.string s)∧w'.cell? ⟨w.heap.size,3,none⟩=some (.slice A nk ca)∧w'.cell? ⟨w.heap.size,4,none⟩=some (.slice B nb cb)∧w'.cell? ⟨w.heap.size+1,0,none⟩=some (.func (.func 176) #[] #[])) (by kernel_rfl) (by exact ⟨g0,g1,g2,g3,g4,e0⟩) (fun hHeld=>?_);refine tA 0 5 (.pointer (some ⟨w.heap.size,0,none⟩)) rfl ?_
 try simp only [pU]
 refine tA 1 6 (.int .i64 1) rfl ?_
 try simp only [pU]
 refine tA 2 7 (.bool true) rfl ?_
 try simp only [pU]
 refine tA 3 8 (.bool true) rfl ?_
 try simp only [pU]
 refine tA 4 9 (.pointer (some ⟨w.heap.size,0,none⟩)) rfl ?_
 try simp only [pU]
 refine tA 5 10 (.int .i64 1) rfl ?_
 try simp only [pU]
 refine tA 6 11 (.bool true) rfl ?_
 try simp only [pU]
 refine tA 7 12 (.bool true) rfl ?_
 try simp only [pU]
 refine tA 8 13 (.bool true) rfl ?_
 try simp only [pU]
 refine tA 9 14 (.pointer (some ⟨w.heap.size,0,none⟩)) rfl ?_
 try simp only [pU]
 refine tA 10 15 (.int .i64 1) rfl ?_
 try simp only [pU]
 refine aY 11 16 (.int .i64 0) rfl ?_ ?_
 ·intro w hSw;(try dsimp only at hSw);go_simp;rfl
 try simp only [pU]
 refine tA 12 17 (.pointer (some ⟨w.heap.size+1,0,none⟩)) rfl ?_
 try simp only [pU]
 refine tA 13 18 (.func (.func 176) #[] #[]) rfl ?_
 try simp only [pU]
 refine tA 14 19 (.agg #[.int .i64 1,.int .i64 n,.string s,.slice A nk ca,.slice B nb cb]) rfl ?_
 try simp only [pU]
 refine aV 15 20 rfl (fun K hK=>?_);go_simp;refine (HC.out _ HBW.out.drew).mono ?_;rintro e w2 ⟨rfl,hb2⟩;have hk1:=HB1.out.drew.keep hb2;have hk2:=HB2.out.drew.keep hb2;have z0:=hk1.cell 0;have z1:=hk1.cell 1;have z2:=hk1.cell 2;have z3:=hk1.cell 3;have z4:=hk1.cell 4;have z5:=hk2.cell 0;simp at z0 z1 z2 z3 z4 z5;have hbw2:=HBW.out.drew.trans (hb2.mono HBW.out.drew.size);refine hK.out _ _ (⟨z0,z1,z2,z3,z4,z5⟩) (fun hHeld2=>?_);clear hK K hHeld
 try simp only [pU]
 refine tA 16 21 (.bool r) rfl ?_
 try simp only [pU]
 refine tA 17 2 (.bool r) rfl ?_
 try simp only [pU]
 refine aX ?_;have HW2:=aW hbw2;clear hbw2 hb2 hk1 hk2 z0 z1 z2 z3 z4 z5;go_wp2;go_ret;exact ⟨rfl,HW2.out⟩
theorem vIsG2 (n:Int) (s:ByteArray) (nk nb:Nat) (A B:Option Addr) (ca cb:Nat) (w:World) (r:Bool) (hC:∀ W,Below w.heap.size w W→Calls Tryz.prog 177 #[.agg #[.int .i64 2,.int .i64 n,.string s,.slice A nk ca,.slice B nb cb]] W (BoolS r W)):Calls Tryz.prog 147 #[.agg #[.int .i64 2,.int .i64 n,.string s,.slice A nk ca,.slice B nb cb]] w (BoolS r w):=by
 have HC:=aW hC;clear hC;go_enter Tryz.func147,Tryz.ntmps147;go_wp2_with fail;obtain ⟨W1,hW1⟩:∃ W1,(w.alloc (.cells #[.int .i64 2,.int .i64 n,.string s,.slice A nk ca,.slice B nb cb] 168)).alloc (.cells #[.func (.func 176) #[] #[],.func (.func 177) #[] #[],.func (.func 178) #[] #[],.func (.func 179) #[] #[],.func (.func 180) #[] #[],.func (.func 181) #[] #[]] 201)=W1:=⟨_,rfl⟩
 have hb1:Blk W1 w.heap.size 168 #[.int .i64 2,.int .i64 n,.string s,.slice A nk ca,.slice B nb cb]:=by rw [← hW1];exact (Blk.new _ _ _).alloc _
 have hb2:Blk W1 (w.heap.size+1) 201 #[.func (.func 176) #[] #[],.func (.func 177) #[] #[],.func (.func 178) #[] #[],.func (.func 179) #[] #[],.func (.func 180) #[] #[],.func (.func 181) #[] #[]]:=by
  rw [← hW1];have:=Blk.new (w.alloc (.cells #[.int .i64 2,.int .i64 n,.string s,.slice A nk ca,.slice B nb cb] 168)) 201 #[.func (.func 176) #[] #[],.func (.func 177) #[] #[],.func (.func 178) #[] #[],.func (.func 179) #[] #[],.func (.func 180) #[] #[],.func (.func 181) #[] #[]];rw [World.size_alloc] at this;exact this
 have hbw:Below w.heap.size w W1:=by rw [← hW1];exact ((Below.refl _ w).alloc (Nat.le_refl _) _).alloc (by simp) _
 rw [hW1];have HB1:=aW hb1;have HB2:=aW hb2;have HBW:=aW hbw;clear hW1 hb1 hb2 hbw;obtain ⟨c1,f1,l1⟩:=HB1.out.rules;obtain ⟨c2,f2,l2⟩:=HB2.out.rules;have g0:=c1 0;have g1:=c1 1;have g2:=c1 2;have g3:=c1 3;have g4:=c1 4;have e0:=c2 1;simp at g0 g1 g2 g3 g4 e0;refine wp_region_held_drew (S:=fun w'=>w'.cell? ⟨w.heap.size,0,none⟩=some (.int .i64 2)∧w'.cell? ⟨w.heap.size,1,none⟩=some (.int .i64 n)∧w'.cell? ⟨w.heap.size,2,none⟩=some (.string s)∧w'.cell? ⟨w.heap.size,3,none⟩=some (.slice A nk ca)∧w'.cell? ⟨w.heap.size,4,none⟩=some (.slice B nb cb)∧w'.cell? ⟨w.heap.size+1,1,none⟩=some (.func (.func 177) #[] #[])) (by kernel_rfl) (by exact ⟨g0,g1,g2,g3,g4,e0⟩) (fun hHeld=>?_);refine tA 0 5 (.pointer (some ⟨w.heap.size,0,none⟩)) rfl ?_
 try simp only [pU]
 refine tA 1 6 (.int .i64 2) rfl ?_
 try simp only [pU]
 refine tA 2 7 (.bool true) rfl ?_
 try simp only [pU]
 refine tA 3 8 (.bool true) rfl ?_
 try simp only [pU]
 refine tA 4 9 (.pointer (some ⟨w.heap.size,0,none⟩)) rfl ?_
 try simp only [pU]
 refine tA 5 10 (.int .i64 2) rfl ?_
 try simp only [pU]
 refine tA 6 11 (.bool true) rfl ?_
 try simp only [pU]
 refine tA 7 12 (.bool true) rfl ?_
 try simp only [pU]
 refine tA 8 13 (.bool true) rfl ?_
 try simp only [pU]
 refine tA 9 14 (.pointer (some ⟨w.heap.size,0,none⟩)) rfl ?_
 try simp only [pU]
 refine tA 10 15 (.int .i64 2) rfl ?_
 try simp only [pU]
 refine aY 11 16 (.int .i64 1) rfl ?_ ?_
 ·intro w hSw;(try dsimp only at hSw);go_simp;rfl
 try simp only [pU]
 refine tA 12 17 (.pointer (some ⟨w.heap.size+1,1,none⟩)) rfl ?_
 try simp only [pU]
 refine tA 13 18 (.func (.func 177) #[] #[]) rfl ?_
 try simp only [pU]
 refine tA 14 19 (.agg #[.int .i64 2,.int .i64 n,.string s,.slice A nk ca,.slice B nb cb]) rfl ?_
 try simp only [pU]
 refine aV 15 20 rfl (fun K hK=>?_);go_simp;refine (HC.out _ HBW.out.drew).mono ?_;rintro e w2 ⟨rfl,hb2⟩;have hk1:=HB1.out.drew.keep hb2;have hk2:=HB2.out.drew.keep hb2;have z0:=hk1.cell 0;have z1:=hk1.cell 1;have z2:=hk1.cell 2;have z3:=hk1.cell 3;have z4:=hk1.cell 4;have z5:=hk2.cell 1;simp at z0 z1 z2 z3 z4 z5;have hbw2:=HBW.out.drew.trans (hb2.mono HBW.out.drew.size);refine hK.out _ _ (⟨z0,z1,z2,z3,z4,z5⟩) (fun hHeld2=>?_);clear hK K hHeld
 try simp only [pU]
 refine tA 16 21 (.bool r) rfl ?_
 try simp only [pU]
 refine tA 17 2 (.bool r) rfl ?_
 try simp only [pU]
 refine aX ?_;have HW2:=aW hbw2;clear hbw2 hb2 hk1 hk2 z0 z1 z2 z3 z4 z5;go_wp2;go_ret;exact ⟨rfl,HW2.out⟩
theorem vIsG3 (n:Int) (s:ByteArray) (nk nb:Nat) (A B:Option Addr) (ca cb:Nat) (w:World) (r:Bool) (hC:∀ W,Below w.heap.size w W→Calls Tryz.prog 178 #[.agg #[.int .i64 3,.int .i64 n,.string s,.slice A nk ca,.slice B nb cb]] W (BoolS r W)):Calls Tryz.prog 147 #[.agg #[.int .i64 3,.int .i64 n,.string s,.slice A nk ca,.slice B nb cb]] w (BoolS r w):=by
 have HC:=aW hC;clear hC;go_enter Tryz.func147,Tryz.ntmps147;go_wp2_with fail;obtain ⟨W1,hW1⟩:∃ W1,(w.alloc (.cells #[.int .i64 3,.int .i64 n,.string s,.slice A nk ca,.slice B nb cb] 168)).alloc (.cells #[.func (.func 176) #[] #[],.func (.func 177) #[] #[],.func (.func 178) #[] #[],.func (.func 179) #[] #[],.func (.func 180) #[] #[],.func (.func 181) #[] #[]] 201)=W1:=⟨_,rfl⟩
 have hb1:Blk W1 w.heap.size 168 #[.int .i64 3,.int .i64 n,.string s,.slice A nk ca,.slice B nb cb]:=by rw [← hW1];exact (Blk.new _ _ _).alloc _
 have hb2:Blk W1 (w.heap.size+1) 201 #[.func (.func 176) #[] #[],.func (.func 177) #[] #[],.func (.func 178) #[] #[],.func (.func 179) #[] #[],.func (.func 180) #[] #[],.func (.func 181) #[] #[]]:=by
  rw [← hW1];have:=Blk.new (w.alloc (.cells #[.int .i64 3,.int .i64 n,.string s,.slice A nk ca,.slice B nb cb] 168)) 201 #[.func (.func 176) #[] #[],.func (.func 177) #[] #[],.func (.func 178) #[] #[],.func (.func 179) #[] #[],.func (.func 180) #[] #[],.func (.func 181) #[] #[]];rw [World.size_alloc] at this;exact this
 have hbw:Below w.heap.size w W1:=by rw [← hW1];exact ((Below.refl _ w).alloc (Nat.le_refl _) _).alloc (by simp) _
 rw [hW1];have HB1:=aW hb1;have HB2:=aW hb2;have HBW:=aW hbw;clear hW1 hb1 hb2 hbw;obtain ⟨c1,f1,l1⟩:=HB1.out.rules;obtain ⟨c2,f2,l2⟩:=HB2.out.rules;have g0:=c1 0;have g1:=c1 1;have g2:=c1 2;have g3:=c1 3;have g4:=c1 4;have e0:=c2 2;simp at g0 g1 g2 g3 g4 e0;refine wp_region_held_drew (S:=fun w'=>w'.cell? ⟨w.heap.size,0,none⟩=some (.int .i64 3)∧w'.cell? ⟨w.heap.size,1,none⟩=some (.int .i64 n)∧w'.cell? ⟨w.heap.size,2,none⟩=some (.string s)∧w'.cell? ⟨w.heap.size,3,none⟩=some (.slice A nk ca)∧w'.cell? ⟨w.heap.size,4,none⟩=some (.slice B nb cb)∧w'.cell? ⟨w.heap.size+1,2,none⟩=some (.func (.func 178) #[] #[])) (by kernel_rfl) (by exact ⟨g0,g1,g2,g3,g4,e0⟩) (fun hHeld=>?_);refine tA 0 5 (.pointer (some ⟨w.heap.size,0,none⟩)) rfl ?_
 try simp only [pU]
 refine tA 1 6 (.int .i64 3) rfl ?_
 try simp only [pU]
 refine tA 2 7 (.bool true) rfl ?_
 try simp only [pU]
 refine tA 3 8 (.bool true) rfl ?_
 try simp only [pU]
 refine tA 4 9 (.pointer (some ⟨w.heap.size,0,none⟩)) rfl ?_
 try simp only [pU]
 refine tA 5 10 (.int .i64 3) rfl ?_
 try simp only [pU]
 refine tA 6 11 (.bool true) rfl ?_
 try simp only [pU]
 refine tA 7 12 (.bool true) rfl ?_
 try simp only [pU]
 refine tA 8 13 (.bool true) rfl ?_
 try simp only [pU]
 refine tA 9 14 (.pointer (some ⟨w.heap.size,0,none⟩)) rfl ?_
 try simp only [pU]
 refine tA 10 15 (.int .i64 3) rfl ?_
 try simp only [pU]
 refine aY 11 16 (.int .i64 2) rfl ?_ ?_
 ·intro w hSw;(try dsimp only at hSw);go_simp;rfl
 try simp only [pU]
 refine tA 12 17 (.pointer (some ⟨w.heap.size+1,2,none⟩)) rfl ?_
 try simp only [pU]
 refine tA 13 18 (.func (.func 178) #[] #[]) rfl ?_
 try simp only [pU]
 refine tA 14 19 (.agg #[.int .i64 3,.int .i64 n,.string s,.slice A nk ca,.slice B nb cb]) rfl ?_
 try simp only [pU]
 refine aV 15 20 rfl (fun K hK=>?_);go_simp;refine (HC.out _ HBW.out.drew).mono ?_;rintro e w2 ⟨rfl,hb2⟩;have hk1:=HB1.out.drew.keep hb2;have hk2:=HB2.out.drew.keep hb2;have z0:=hk1.cell 0;have z1:=hk1.cell 1;have z2:=hk1.cell 2;have z3:=hk1.cell 3;have z4:=hk1.cell 4;have z5:=hk2.cell 2;simp at z0 z1 z2 z3 z4 z5;have hbw2:=HBW.out.drew.trans (hb2.mono HBW.out.drew.size);refine hK.out _ _ (⟨z0,z1,z2,z3,z4,z5⟩) (fun hHeld2=>?_);clear hK K hHeld
 try simp only [pU]
 refine tA 16 21 (.bool r) rfl ?_
 try simp only [pU]
 refine tA 17 2 (.bool r) rfl ?_
 try simp only [pU]
 refine aX ?_;have HW2:=aW hbw2;clear hbw2 hb2 hk1 hk2 z0 z1 z2 z3 z4 z5;go_wp2;go_ret;exact ⟨rfl,HW2.out⟩
theorem vIsG4 (n:Int) (s:ByteArray) (nk nb:Nat) (A B:Option Addr) (ca cb:Nat) (w:World) (r:Bool) (hC:∀ W,Below w.heap.size w W→Calls Tryz.prog 179 #[.agg #[.int .i64 4,.int .i64 n,.string s,.slice A nk ca,.slice B nb cb]] W (BoolS r W)):Calls Tryz.prog 147 #[.agg #[.int .i64 4,.int .i64 n,.string s,.slice A nk ca,.slice B nb cb]] w (BoolS r w):=by
 have HC:=aW hC;clear hC;go_enter Tryz.func147,Tryz.ntmps147;go_wp2_with fail;obtain ⟨W1,hW1⟩:∃ W1,(w.alloc (.cells #[.int .i64 4,.int .i64 n,.string s,.slice A nk ca,.slice B nb cb] 168)).alloc (.cells #[.func (.func 176) #[] #[],.func (.func 177) #[] #[],.func (.func 178) #[] #[],.func (.func 179) #[] #[],.func (.func 180) #[] #[],.func (.func 181) #[] #[]] 201)=W1:=⟨_,rfl⟩
 have hb1:Blk W1 w.heap.size 168 #[.int .i64 4,.int .i64 n,.string s,.slice A nk ca,.slice B nb cb]:=by rw [← hW1];exact (Blk.new _ _ _).alloc _
 have hb2:Blk W1 (w.heap.size+1) 201 #[.func (.func 176) #[] #[],.func (.func 177) #[] #[],.func (.func 178) #[] #[],.func (.func 179) #[] #[],.func (.func 180) #[] #[],.func (.func 181) #[] #[]]:=by
  rw [← hW1];have:=Blk.new (w.alloc (.cells #[.int .i64 4,.int .i64 n,.string s,.slice A nk ca,.slice B nb cb] 168)) 201 #[.func (.func 176) #[] #[],.func (.func 177) #[] #[],.func (.func 178) #[] #[],.func (.func 179) #[] #[],.func (.func 180) #[] #[],.func (.func 181) #[] #[]];rw [World.size_alloc] at this;exact this
 have hbw:Below w.heap.size w W1:=by rw [← hW1];exact ((Below.refl _ w).alloc (Nat.le_refl _) _).alloc (by simp) _
 rw [hW1];have HB1:=aW hb1;have HB2:=aW hb2;have HBW:=aW hbw;clear hW1 hb1 hb2 hbw;obtain ⟨c1,f1,l1⟩:=HB1.out.rules;obtain ⟨c2,f2,l2⟩:=HB2.out.rules;have g0:=c1 0;have g1:=c1 1;have g2:=c1 2;have g3:=c1 3;have g4:=c1 4;have e0:=c2 3;simp at g0 g1 g2 g3 g4 e0;refine wp_region_held_drew (S:=fun w'=>w'.cell? ⟨w.heap.size,0,none⟩=some (.int .i64 4)∧w'.cell? ⟨w.heap.size,1,none⟩=some (.int .i64 n)∧w'.cell? ⟨w.heap.size,2,none⟩=some (.string s)∧w'.cell? ⟨w.heap.size,3,none⟩=some (.slice A nk ca)∧w'.cell? ⟨w.heap.size,4,none⟩=some (.slice B nb cb)∧w'.cell? ⟨w.heap.size+1,3,none⟩=some (.func (.func 179) #[] #[])) (by kernel_rfl) (by exact ⟨g0,g1,g2,g3,g4,e0⟩) (fun hHeld=>?_);refine tA 0 5 (.pointer (some ⟨w.heap.size,0,none⟩)) rfl ?_
 try simp only [pU]
 refine tA 1 6 (.int .i64 4) rfl ?_
 try simp only [pU]
 refine tA 2 7 (.bool true) rfl ?_
 try simp only [pU]
 refine tA 3 8 (.bool true) rfl ?_
 try simp only [pU]
 refine tA 4 9 (.pointer (some ⟨w.heap.size,0,none⟩)) rfl ?_
 try simp only [pU]
 refine tA 5 10 (.int .i64 4) rfl ?_
 try simp only [pU]
 refine tA 6 11 (.bool true) rfl ?_
 try simp only [pU]
 refine tA 7 12 (.bool true) rfl ?_
 try simp only [pU]
 refine tA 8 13 (.bool true) rfl ?_
 try simp only [pU]
 refine tA 9 14 (.pointer (some ⟨w.heap.size,0,none⟩)) rfl ?_
 try simp only [pU]
 refine tA 10 15 (.int .i64 4) rfl ?_
 try simp only [pU]
 refine aY 11 16 (.int .i64 3) rfl ?_ ?_
 ·intro w hSw;(try dsimp only at hSw);go_simp;rfl
 try simp only [pU]
 refine tA 12 17 (.pointer (some ⟨w.heap.size+1,3,none⟩)) rfl ?_
 try simp only [pU]
 refine tA 13 18 (.func (.func 179) #[] #[]) rfl ?_
 try simp only [pU]
 refine tA 14 19 (.agg #[.int .i64 4,.int .i64 n,.string s,.slice A nk ca,.slice B nb cb]) rfl ?_
 try simp only [pU]
 refine aV 15 20 rfl (fun K hK=>?_);go_simp;refine (HC.out _ HBW.out.drew).mono ?_;rintro e w2 ⟨rfl,hb2⟩;have hk1:=HB1.out.drew.keep hb2;have hk2:=HB2.out.drew.keep hb2;have z0:=hk1.cell 0;have z1:=hk1.cell 1;have z2:=hk1.cell 2;have z3:=hk1.cell 3;have z4:=hk1.cell 4;have z5:=hk2.cell 3;simp at z0 z1 z2 z3 z4 z5;have hbw2:=HBW.out.drew.trans (hb2.mono HBW.out.drew.size);refine hK.out _ _ (⟨z0,z1,z2,z3,z4,z5⟩) (fun hHeld2=>?_);clear hK K hHeld
 try simp only [pU]
 refine tA 16 21 (.bool r) rfl ?_
 try simp only [pU]
 refine tA 17 2 (.bool r) rfl ?_
 try simp only [pU]
 refine aX ?_;have HW2:=aW hbw2;clear hbw2 hb2 hk1 hk2 z0 z1 z2 z3 z4 z5;go_wp2;go_ret;exact ⟨rfl,HW2.out⟩
theorem vIsG5 (n:Int) (s:ByteArray) (nk nb:Nat) (A B:Option Addr) (ca cb:Nat) (w:World) (r:Bool) (hC:∀ W,Below w.heap.size w W→Calls Tryz.prog 180 #[.agg #[.int .i64 5,.int .i64 n,.string s,.slice A nk ca,.slice B nb cb]] W (BoolS r W)):Calls Tryz.prog 147 #[.agg #[.int .i64 5,.int .i64 n,.string s,.slice A nk ca,.slice B nb cb]] w (BoolS r w):=by
 have HC:=aW hC;clear hC;go_enter Tryz.func147,Tryz.ntmps147;go_wp2_with fail;obtain ⟨W1,hW1⟩:∃ W1,(w.alloc (.cells #[.int .i64 5,.int .i64 n,.string s,.slice A nk ca,.slice B nb cb] 168)).alloc (.cells #[.func (.func 176) #[] #[],.func (.func 177) #[] #[],.func (.func 178) #[] #[],.func (.func 179) #[] #[],.func (.func 180) #[] #[],.func (.func 181) #[] #[]] 201)=W1:=⟨_,rfl⟩
 have hb1:Blk W1 w.heap.size 168 #[.int .i64 5,.int .i64 n,.string s,.slice A nk ca,.slice B nb cb]:=by rw [← hW1];exact (Blk.new _ _ _).alloc _
 have hb2:Blk W1 (w.heap.size+1) 201 #[.func (.func 176) #[] #[],.func (.func 177) #[] #[],.func (.func 178) #[] #[],.func (.func 179) #[] #[],.func (.func 180) #[] #[],.func (.func 181) #[] #[]]:=by
  rw [← hW1];have:=Blk.new (w.alloc (.cells #[.int .i64 5,.int .i64 n,.string s,.slice A nk ca,.slice B nb cb] 168)) 201 #[.func (.func 176) #[] #[],.func (.func 177) #[] #[],.func (.func 178) #[] #[],.func (.func 179) #[] #[],.func (.func 180) #[] #[],.func (.func 181) #[] #[]];rw [World.size_alloc] at this;exact this
 have hbw:Below w.heap.size w W1:=by rw [← hW1];exact ((Below.refl _ w).alloc (Nat.le_refl _) _).alloc (by simp) _
 rw [hW1];have HB1:=aW hb1;have HB2:=aW hb2;have HBW:=aW hbw;clear hW1 hb1 hb2 hbw;obtain ⟨c1,f1,l1⟩:=HB1.out.rules;obtain ⟨c2,f2,l2⟩:=HB2.out.rules;have g0:=c1 0;have g1:=c1 1;have g2:=c1 2;have g3:=c1 3;have g4:=c1 4;have e0:=c2 4;simp at g0 g1 g2 g3 g4 e0;refine wp_region_held_drew (S:=fun w'=>w'.cell? ⟨w.heap.size,0,none⟩=some (.int .i64 5)∧w'.cell? ⟨w.heap.size,1,none⟩=some (.int .i64 n)∧w'.cell? ⟨w.heap.size,2,none⟩=some (.string s)∧w'.cell? ⟨w.heap.size,3,none⟩=some (.slice A nk ca)∧w'.cell? ⟨w.heap.size,4,none⟩=some (.slice B nb cb)∧w'.cell? ⟨w.heap.size+1,4,none⟩=some (.func (.func 180) #[] #[])) (by kernel_rfl) (by exact ⟨g0,g1,g2,g3,g4,e0⟩) (fun hHeld=>?_);refine tA 0 5 (.pointer (some ⟨w.heap.size,0,none⟩)) rfl ?_
 try simp only [pU]
 refine tA 1 6 (.int .i64 5) rfl ?_
 try simp only [pU]
 refine tA 2 7 (.bool true) rfl ?_
 try simp only [pU]
 refine tA 3 8 (.bool true) rfl ?_
 try simp only [pU]
 refine tA 4 9 (.pointer (some ⟨w.heap.size,0,none⟩)) rfl ?_
 try simp only [pU]
 refine tA 5 10 (.int .i64 5) rfl ?_
 try simp only [pU]
 refine tA 6 11 (.bool true) rfl ?_
 try simp only [pU]
 refine tA 7 12 (.bool true) rfl ?_
 try simp only [pU]
 refine tA 8 13 (.bool true) rfl ?_
 try simp only [pU]
 refine tA 9 14 (.pointer (some ⟨w.heap.size,0,none⟩)) rfl ?_
 try simp only [pU]
 refine tA 10 15 (.int .i64 5) rfl ?_
 try simp only [pU]
 refine aY 11 16 (.int .i64 4) rfl ?_ ?_
 ·intro w hSw;(try dsimp only at hSw);go_simp;rfl
 try simp only [pU]
 refine tA 12 17 (.pointer (some ⟨w.heap.size+1,4,none⟩)) rfl ?_
 try simp only [pU]
 refine tA 13 18 (.func (.func 180) #[] #[]) rfl ?_
 try simp only [pU]
 refine tA 14 19 (.agg #[.int .i64 5,.int .i64 n,.string s,.slice A nk ca,.slice B nb cb]) rfl ?_
 try simp only [pU]
 refine aV 15 20 rfl (fun K hK=>?_);go_simp;refine (HC.out _ HBW.out.drew).mono ?_;rintro e w2 ⟨rfl,hb2⟩;have hk1:=HB1.out.drew.keep hb2;have hk2:=HB2.out.drew.keep hb2;have z0:=hk1.cell 0;have z1:=hk1.cell 1;have z2:=hk1.cell 2;have z3:=hk1.cell 3;have z4:=hk1.cell 4;have z5:=hk2.cell 4;simp at z0 z1 z2 z3 z4 z5;have hbw2:=HBW.out.drew.trans (hb2.mono HBW.out.drew.size);refine hK.out _ _ (⟨z0,z1,z2,z3,z4,z5⟩) (fun hHeld2=>?_);clear hK K hHeld
 try simp only [pU]
 refine tA 16 21 (.bool r) rfl ?_
 try simp only [pU]
 refine tA 17 2 (.bool r) rfl ?_
 try simp only [pU]
 refine aX ?_;have HW2:=aW hbw2;clear hbw2 hb2 hk1 hk2 z0 z1 z2 z3 z4 z5;go_wp2;go_ret;exact ⟨rfl,HW2.out⟩
theorem vIsG6 (n:Int) (s:ByteArray) (nk nb:Nat) (A B:Option Addr) (ca cb:Nat) (w:World) (r:Bool) (hC:∀ W,Below w.heap.size w W→Calls Tryz.prog 181 #[.agg #[.int .i64 6,.int .i64 n,.string s,.slice A nk ca,.slice B nb cb]] W (BoolS r W)):Calls Tryz.prog 147 #[.agg #[.int .i64 6,.int .i64 n,.string s,.slice A nk ca,.slice B nb cb]] w (BoolS r w):=by
 have HC:=aW hC;clear hC;go_enter Tryz.func147,Tryz.ntmps147;go_wp2_with fail;obtain ⟨W1,hW1⟩:∃ W1,(w.alloc (.cells #[.int .i64 6,.int .i64 n,.string s,.slice A nk ca,.slice B nb cb] 168)).alloc (.cells #[.func (.func 176) #[] #[],.func (.func 177) #[] #[],.func (.func 178) #[] #[],.func (.func 179) #[] #[],.func (.func 180) #[] #[],.func (.func 181) #[] #[]] 201)=W1:=⟨_,rfl⟩
 have hb1:Blk W1 w.heap.size 168 #[.int .i64 6,.int .i64 n,.string s,.slice A nk ca,.slice B nb cb]:=by rw [← hW1];exact (Blk.new _ _ _).alloc _
 have hb2:Blk W1 (w.heap.size+1) 201 #[.func (.func 176) #[] #[],.func (.func 177) #[] #[],.func (.func 178) #[] #[],.func (.func 179) #[] #[],.func (.func 180) #[] #[],.func (.func 181) #[] #[]]:=by
  rw [← hW1];have:=Blk.new (w.alloc (.cells #[.int .i64 6,.int .i64 n,.string s,.slice A nk ca,.slice B nb cb] 168)) 201 #[.func (.func 176) #[] #[],.func (.func 177) #[] #[],.func (.func 178) #[] #[],.func (.func 179) #[] #[],.func (.func 180) #[] #[],.func (.func 181) #[] #[]];rw [World.size_alloc] at this;exact this
 have hbw:Below w.heap.size w W1:=by rw [← hW1];exact ((Below.refl _ w).alloc (Nat.le_refl _) _).alloc (by simp) _
 rw [hW1];have HB1:=aW hb1;have HB2:=aW hb2;have HBW:=aW hbw;clear hW1 hb1 hb2 hbw;obtain ⟨c1,f1,l1⟩:=HB1.out.rules;obtain ⟨c2,f2,l2⟩:=HB2.out.rules;have g0:=c1 0;have g1:=c1 1;have g2:=c1 2;have g3:=c1 3;have g4:=c1 4;have e0:=c2 5;simp at g0 g1 g2 g3 g4 e0;refine wp_region_held_drew (S:=fun w'=>w'.cell? ⟨w.heap.size,0,none⟩=some (.int .i64 6)∧w'.cell? ⟨w.heap.size,1,none⟩=some (.int .i64 n)∧w'.cell? ⟨w.heap.size,2,none⟩=some (.string s)∧w'.cell? ⟨w.heap.size,3,none⟩=some (.slice A nk ca)∧w'.cell? ⟨w.heap.size,4,none⟩=some (.slice B nb cb)∧w'.cell? ⟨w.heap.size+1,5,none⟩=some (.func (.func 181) #[] #[])) (by kernel_rfl) (by exact ⟨g0,g1,g2,g3,g4,e0⟩) (fun hHeld=>?_);refine tA 0 5 (.pointer (some ⟨w.heap.size,0,none⟩)) rfl ?_
 try simp only [pU]
 refine tA 1 6 (.int .i64 6) rfl ?_
 try simp only [pU]
 refine tA 2 7 (.bool true) rfl ?_
 try simp only [pU]
 refine tA 3 8 (.bool true) rfl ?_
 try simp only [pU]
 refine tA 4 9 (.pointer (some ⟨w.heap.size,0,none⟩)) rfl ?_
 try simp only [pU]
 refine tA 5 10 (.int .i64 6) rfl ?_
 try simp only [pU]
 refine tA 6 11 (.bool true) rfl ?_
 try simp only [pU]
 refine tA 7 12 (.bool true) rfl ?_
 try simp only [pU]
 refine tA 8 13 (.bool true) rfl ?_
 try simp only [pU]
 refine tA 9 14 (.pointer (some ⟨w.heap.size,0,none⟩)) rfl ?_
 try simp only [pU]
 refine tA 10 15 (.int .i64 6) rfl ?_
 try simp only [pU]
 refine aY 11 16 (.int .i64 5) rfl ?_ ?_
 ·intro w hSw;(try dsimp only at hSw);go_simp;rfl
 try simp only [pU]
 refine tA 12 17 (.pointer (some ⟨w.heap.size+1,5,none⟩)) rfl ?_
 try simp only [pU]
 refine tA 13 18 (.func (.func 181) #[] #[]) rfl ?_
 try simp only [pU]
 refine tA 14 19 (.agg #[.int .i64 6,.int .i64 n,.string s,.slice A nk ca,.slice B nb cb]) rfl ?_
 try simp only [pU]
 refine aV 15 20 rfl (fun K hK=>?_);go_simp;refine (HC.out _ HBW.out.drew).mono ?_;rintro e w2 ⟨rfl,hb2⟩;have hk1:=HB1.out.drew.keep hb2;have hk2:=HB2.out.drew.keep hb2;have z0:=hk1.cell 0;have z1:=hk1.cell 1;have z2:=hk1.cell 2;have z3:=hk1.cell 3;have z4:=hk1.cell 4;have z5:=hk2.cell 5;simp at z0 z1 z2 z3 z4 z5;have hbw2:=HBW.out.drew.trans (hb2.mono HBW.out.drew.size);refine hK.out _ _ (⟨z0,z1,z2,z3,z4,z5⟩) (fun hHeld2=>?_);clear hK K hHeld
 try simp only [pU]
 refine tA 16 21 (.bool r) rfl ?_
 try simp only [pU]
 refine tA 17 2 (.bool r) rfl ?_
 try simp only [pU]
 refine aX ?_;have HW2:=aW hbw2;clear hbw2 hb2 hk1 hk2 z0 z1 z2 z3 z4 z5;go_wp2;go_ret;exact ⟨rfl,HW2.out⟩
theorem vIsLow (k:Int) (n:Int) (s:ByteArray) (nk nb:Nat) (A B:Option Addr) (ca cb:Nat) (w:World) (hk:k<1):Calls Tryz.prog 147 #[.agg #[.int .i64 k,.int .i64 n,.string s,.slice A nk ca,.slice B nb cb]] w (BoolS false w):=by
 have k1:¬ (1≤k):=by omega
 have k2:decide (1≤k)=false:=by simp;omega
 go_enter Tryz.func147,Tryz.ntmps147;go_wp2_with fail;obtain ⟨W1,hW1⟩:∃ W1,(w.alloc (.cells #[.int .i64 k,.int .i64 n,.string s,.slice A nk ca,.slice B nb cb] 168)).alloc (.cells #[.func (.func 176) #[] #[],.func (.func 177) #[] #[],.func (.func 178) #[] #[],.func (.func 179) #[] #[],.func (.func 180) #[] #[],.func (.func 181) #[] #[]] 201)=W1:=⟨_,rfl⟩
 have hb1:Blk W1 w.heap.size 168 #[.int .i64 k,.int .i64 n,.string s,.slice A nk ca,.slice B nb cb]:=by rw [← hW1];exact (Blk.new _ _ _).alloc _
 have hb2:Blk W1 (w.heap.size+1) 201 #[.func (.func 176) #[] #[],.func (.func 177) #[] #[],.func (.func 178) #[] #[],.func (.func 179) #[] #[],.func (.func 180) #[] #[],.func (.func 181) #[] #[]]:=by
  rw [← hW1];have:=Blk.new (w.alloc (.cells #[.int .i64 k,.int .i64 n,.string s,.slice A nk ca,.slice B nb cb] 168)) 201 #[.func (.func 176) #[] #[],.func (.func 177) #[] #[],.func (.func 178) #[] #[],.func (.func 179) #[] #[],.func (.func 180) #[] #[],.func (.func 181) #[] #[]];rw [World.size_alloc] at this;exact this
 have hbw:Below w.heap.size w W1:=by rw [← hW1];exact ((Below.refl _ w).alloc (Nat.le_refl _) _).alloc (by simp) _
 rw [hW1];have HB1:=aW hb1;have HB2:=aW hb2;have HBW:=aW hbw;clear hW1 hb1 hb2 hbw;obtain ⟨c1,f1,l1⟩:=HB1.out.rules;obtain ⟨c2,f2,l2⟩:=HB2.out.rules;have g0:=c1 0;have g1:=c1 1;have g2:=c1 2;have g3:=c1 3;have g4:=c1 4;have e0:=c2 0;simp at g0 g1 g2 g3 g4 e0;refine wp_region_held_drew (S:=fun w'=>w'.cell? ⟨w.heap.size,0,none⟩=some (.int .i64 k)∧w'.cell? ⟨w.heap.size,1,none⟩=some (.int .i64 n)∧w'.cell? ⟨w.heap.size,2,none⟩=some (.string s)∧w'.cell? ⟨w.heap.size,3,none⟩=some (.slice A nk ca)∧w'.cell? ⟨w.heap.size,4,none⟩=some (.slice B nb cb)∧w'.cell? ⟨w.heap.size+1,0,none⟩=some (.func (.func 176) #[] #[])) (by kernel_rfl) (by exact ⟨g0,g1,g2,g3,g4,e0⟩) (fun hHeld=>?_);refine tA 0 5 (.pointer (some ⟨w.heap.size,0,none⟩)) rfl ?_
 try simp only [pU]
 refine tA 1 6 (.int .i64 k) rfl ?_
 try simp only [pU]
 refine tA 2 7 (.bool false) rfl ?_
 try simp only [pU]
 refine tA 3 8 (.bool false) rfl ?_
 try simp only [pU]
 refine tN 4 9 undef rfl ?_
 try simp only [pU]
 refine tN 5 10 undef rfl ?_
 try simp only [pU]
 refine tN 6 11 undef rfl ?_
 try simp only [pU]
 refine tA 7 12 (.bool false) rfl ?_
 try simp only [pU]
 refine tA 8 13 (.bool false) rfl ?_
 try simp only [pU]
 refine tN 9 14 undef rfl ?_
 try simp only [pU]
 refine tN 10 15 undef rfl ?_
 try simp only [pU]
 refine tN 11 16 undef rfl ?_
 try simp only [pU]
 refine tN 12 17 undef rfl ?_
 try simp only [pU]
 refine tN 13 18 undef rfl ?_
 try simp only [pU]
 refine tN 14 19 undef rfl ?_
 try simp only [pU]
 refine tN 15 20 undef rfl ?_
 try simp only [pU]
 refine tA 16 21 (.bool false) rfl ?_
 try simp only [pU]
 refine tA 17 2 (.bool false) rfl ?_
 try simp only [pU]
 refine aX ?_;go_wp2;go_ret;exact ⟨rfl,HBW.out.drew⟩
theorem vIsHigh (k:Int) (n:Int) (s:ByteArray) (nk nb:Nat) (A B:Option Addr) (ca cb:Nat) (w:World) (hk:6<k):Calls Tryz.prog 147 #[.agg #[.int .i64 k,.int .i64 n,.string s,.slice A nk ca,.slice B nb cb]] w (BoolS false w):=by
 have k1:1≤k:=by omega
 have k2:decide (1≤k)=true:=by simp;omega
 have k3:¬ (k≤6):=by omega
 have k4:decide (k≤6)=false:=by simp;omega
 go_enter Tryz.func147,Tryz.ntmps147;go_wp2_with fail;obtain ⟨W1,hW1⟩:∃ W1,(w.alloc (.cells #[.int .i64 k,.int .i64 n,.string s,.slice A nk ca,.slice B nb cb] 168)).alloc (.cells #[.func (.func 176) #[] #[],.func (.func 177) #[] #[],.func (.func 178) #[] #[],.func (.func 179) #[] #[],.func (.func 180) #[] #[],.func (.func 181) #[] #[]] 201)=W1:=⟨_,rfl⟩
 have hb1:Blk W1 w.heap.size 168 #[.int .i64 k,.int .i64 n,.string s,.slice A nk ca,.slice B nb cb]:=by rw [← hW1];exact (Blk.new _ _ _).alloc _
 have hb2:Blk W1 (w.heap.size+1) 201 #[.func (.func 176) #[] #[],.func (.func 177) #[] #[],.func (.func 178) #[] #[],.func (.func 179) #[] #[],.func (.func 180) #[] #[],.func (.func 181) #[] #[]]:=by
  rw [← hW1];have:=Blk.new (w.alloc (.cells #[.int .i64 k,.int .i64 n,.string s,.slice A nk ca,.slice B nb cb] 168)) 201 #[.func (.func 176) #[] #[],.func (.func 177) #[] #[],.func (.func 178) #[] #[],.func (.func 179) #[] #[],.func (.func 180) #[] #[],.func (.func 181) #[] #[]];rw [World.size_alloc] at this;exact this
 have hbw:Below w.heap.size w W1:=by rw [← hW1];exact ((Below.refl _ w).alloc (Nat.le_refl _) _).alloc (by simp) _
 rw [hW1];have HB1:=aW hb1;have HB2:=aW hb2;have HBW:=aW hbw;clear hW1 hb1 hb2 hbw;obtain ⟨c1,f1,l1⟩:=HB1.out.rules;obtain ⟨c2,f2,l2⟩:=HB2.out.rules;have g0:=c1 0;have g1:=c1 1;have g2:=c1 2;have g3:=c1 3;have g4:=c1 4;have e0:=c2 0;simp at g0 g1 g2 g3 g4 e0;refine wp_region_held_drew (S:=fun w'=>w'.cell? ⟨w.heap.size,0,none⟩=some (.int .i64 k)∧w'.cell? ⟨w.heap.size,1,none⟩=some (.int .i64 n)∧w'.cell? ⟨w.heap.size,2,none⟩=some (.string s)∧w'.cell? ⟨w.heap.size,3,none⟩=some (.slice A nk ca)∧w'.cell? ⟨w.heap.size,4,none⟩=some (.slice B nb cb)∧w'.cell? ⟨w.heap.size+1,0,none⟩=some (.func (.func 176) #[] #[])) (by kernel_rfl) (by exact ⟨g0,g1,g2,g3,g4,e0⟩) (fun hHeld=>?_);refine tA 0 5 (.pointer (some ⟨w.heap.size,0,none⟩)) rfl ?_
 try simp only [pU]
 refine tA 1 6 (.int .i64 k) rfl ?_
 try simp only [pU]
 refine tA 2 7 (.bool true) rfl ?_
 try simp only [pU]
 refine tA 3 8 (.bool true) rfl ?_
 try simp only [pU]
 refine tA 4 9 (.pointer (some ⟨w.heap.size,0,none⟩)) rfl ?_
 try simp only [pU]
 refine tA 5 10 (.int .i64 k) rfl ?_
 try simp only [pU]
 refine tA 6 11 (.bool false) rfl ?_
 try simp only [pU]
 refine tA 7 12 (.bool false) rfl ?_
 try simp only [pU]
 refine tA 8 13 (.bool false) rfl ?_
 try simp only [pU]
 refine tN 9 14 undef rfl ?_
 try simp only [pU]
 refine tN 10 15 undef rfl ?_
 try simp only [pU]
 refine tN 11 16 undef rfl ?_
 try simp only [pU]
 refine tN 12 17 undef rfl ?_
 try simp only [pU]
 refine tN 13 18 undef rfl ?_
 try simp only [pU]
 refine tN 14 19 undef rfl ?_
 try simp only [pU]
 refine tN 15 20 undef rfl ?_
 try simp only [pU]
 refine tA 16 21 (.bool false) rfl ?_
 try simp only [pU]
 refine tA 17 2 (.bool false) rfl ?_
 try simp only [pU]
 refine aX ?_;go_wp2;go_ret;exact ⟨rfl,HBW.out.drew⟩
theorem truth_bit (n:Int):decide (n=bits .and .i64 n 1)=(n == 0 || n == 1):=by
 have h:bits .and .i64 n 1=(((n % 18446744073709551616).toNat % 2:Nat):Int):=by
  show IntKind.i64.wrap ((BitVec.ofInt 64 n&&&BitVec.ofInt 64 1).toNat:Int)=_
  have e:(BitVec.ofInt 64 n&&&BitVec.ofInt 64 1).toNat=(n % 18446744073709551616).toNat % 2:=by
   rw [BitVec.toNat_and,show (BitVec.ofInt 64 1).toNat=1 by decide,Nat.and_one_is_mod,BitVec.toNat_ofInt];rfl
  rw [e,IntKind.wrap_i64];omega
 rw [h,show (n == 0)=decide (n=0) from rfl,show (n == 1)=decide (n=1) from rfl,Bool.eq_iff_iff];simp only [Bool.or_eq_true,decide_eq_true_eq];omega
theorem bl_nil (s:List UInt8):decide ((⟨s.toArray⟩:ByteArray).toList=ByteArray.toList ⟨#[]⟩)=(s == []):=by
 have h1:(⟨s.toArray⟩:ByteArray).toList=s:=by rw [ByteArray.toList_eq]
 have h2:ByteArray.toList ⟨#[]⟩=[]:=by rw [ByteArray.toList_eq]
 rw [h1,h2];cases s<;>rfl
theorem vIsG_any (cs:List Value) (k n:Int) (s:List UInt8) (kids:List JV) (keys:List (List UInt8)) (F:Nat→Prop) (w:World) (hG:GOK w) (hv:VR w F cs (.mk k n s kids keys)) (hc:Came (.mk k n s kids keys)) :
  Calls Tryz.prog 147 #[.agg cs.toArray] w (BoolS (goodA k n s kids.length keys) w):=by
 obtain ⟨A,B,ca,cb,css,rfl,h1,h2,h3,h4,h5,h6,h7⟩:=hv.out;obtain ⟨b1,b2,b3,b4,b5,b6,b7⟩:=hc.out;have hkl:(keys == [])=decide (keys.length=0):=by cases keys<;>rfl
 have hz:∀ x:Nat,(x == 0)=decide ((x:Int)=0):=fun x=>by rw [Bool.eq_iff_iff];simp
 rcases Int.lt_or_le k 1 with hk | hk
 ·have:goodA k n s kids.length keys=false:=by rw [Bool.eq_false_iff];intro h;have:=goodA_kind h;omega
  rw [this];exact vIsLow k n _ _ _ A B ca cb w hk
 rcases Int.lt_or_le 6 k with hk' | hk'
 ·have:goodA k n s kids.length keys=false:=by rw [Bool.eq_false_iff];intro h;have:=goodA_kind h;omega
  rw [this];exact vIsHigh k n _ _ _ A B ca cb w hk'
 have hk7:k=1∨k=2∨k=3∨k=4∨k=5∨k=6:=by omega
 rcases hk7 with rfl | rfl | rfl | rfl | rfl | rfl
 ·refine vIsG1 n _ _ _ A B ca cb w _ (fun W hW=>vNullG n _ _ _ A B ca cb W _ ?_);rw [bl_nil,← hz,← hkl];simp [goodA,Bool.and_assoc,show (n == 0)=decide (n=0) from rfl]
 ·refine vIsG2 n _ _ _ A B ca cb w _ (fun W hW=>vTruthG n _ _ _ A B ca cb W _ rfl _ ?_);rw [bl_nil,← hz,← hkl];rw [truth_bit n];simp [goodA,Bool.and_assoc,show (n == 0)=decide (n=0) from rfl]
 ·refine vIsG3 n _ _ _ A B ca cb w _ (fun W hW=>vNumberG n _ _ _ A B ca cb W _ ?_);rw [bl_nil,← hz,← hkl];simp [goodA,Bool.and_assoc,show (n == 0)=decide (n=0) from rfl]
 ·refine vIsG4 n _ _ _ A B ca cb w _ (fun W hW=>vTextG n s _ _ A B ca cb W (hG.keep hW) b3 _ ?_);rw [← hz,← hkl];cases hh:txtOk s<;>simp [goodA,Bool.and_assoc,hh,show (n == 0)=decide (n=0) from rfl]
 ·refine vIsG5 n _ _ _ A B ca cb w _ (fun W hW=>vListG n _ _ _ A B ca cb W _ ?_);rw [bl_nil,← hkl];simp [goodA,Bool.and_assoc,show (n == 0)=decide (n=0) from rfl]
 ·refine vIsG6 n _ _ _ A B ca cb w _ (fun W hW=>vObjG n _ _ keys _ A B ca cb W (hG.keep hW) rfl b5 h3 ((h7.mono fun _ _ _=>trivial).keep (KeepF.of_below hW)) b6 _ ?_);rw [bl_nil,show decide (kids.length=keys.length)=(kids.length == keys.length) by rw [Bool.eq_iff_iff];simp];cases hh:keysOk keys<;>simp [goodA,Bool.and_assoc,hh,show (n == 0)=decide (n=0) from rfl]
end Go.Proofs.YtgolomgmnanbpaaGreatDoor
