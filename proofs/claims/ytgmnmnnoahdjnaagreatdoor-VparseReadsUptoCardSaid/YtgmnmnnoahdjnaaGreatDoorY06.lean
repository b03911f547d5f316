import Derived.Test.YtgmnmnnoahdjnaaGreatDoorY04
import Derived.Test.YtgmnmnnoahdjnaaGreatDoorY03
import Derived.Sort.LoopGhostIn
import Derived.Lib.BufferRead
open Go.Value renaming int → Zi, slice → Zs, string → Zt, pointer → Zp
open Go.IntKind renaming i64 → Zq
set_option maxRecDepth 100000
set_option maxHeartbeats 16000000
set_option linter.unusedVariables false
set_option linter.unusedSimpArgs false
namespace Go.Proofs.YtgmnmnnoahdjnaaGreatDoor
section
open Go.RowKit
attribute [local go_sem] aa ac ae ab
def lV:Value:=.agg #[Zi .u8 34,Zi .u8 34,Zi .u8 92,Zi .u8 92,Zi .u8 47,Zi .u8 47,Zi .u8 98,Zi .u8 8,Zi .u8 102,Zi .u8 12,Zi .u8 110,Zi .u8 10,Zi .u8 114,Zi .u8 13,Zi .u8 116,Zi .u8 9]
theorem kM (w:World):Calls Tryz.prog 187 #[] w λ e w'=>e=.returned lV/\Below w.heap.size w w':=by
 go_enter Tryz.func187,Tryz.ntmps187;go_wp2;go_returns;exact ⟨rfl,by go_grown⟩
theorem mM (A:Option Addr) (cap:Nat) (l:List UInt8) (a:Nat) (w:World) (hr:Rd w A (aq l)) (hcap:l.length<=cap) (hlen:l.length<=4194304) (ha:a<=l.length) :
  Calls Tryz.prog 222 #[.agg #[Zs A l.length cap],Zi Zq a] w λ e w'=>e=.returned (Zi Zq (cd l a))/\Below w.heap.size w w':=by
 by_cases h6:l.length<a+6
 ·have HU:=aW (show cd l a = -1 by rw [cd,bq,if_pos (.inl h6)];rfl);go_enter Tryz.func222,Tryz.ntmps222;go_wp2;go_returns;exact ⟨cX HU.out.symm,by go_grown⟩
 ·obtain ⟨b,o,rfl,hb,hx⟩:=hr (by intro e;have h3:=av l;rw [e,List.length_nil] at h3;omega);have hby:∀ i c,l[i]? = some c->w.cell? ⟨b,o+i,none⟩=some (Zi .u8 c.toNat):=λ i c hi=>by
   obtain ⟨hlt,e⟩:=List.getElem?_eq_some_iff.1 hi;rw [hx i (by rw [av];exact hlt)];simp [aq,e]
  clear hx;obtain ⟨c0,hc0⟩:∃ c,l[a]? = some c:=⟨_,List.getElem?_eq_getElem (by omega)⟩
  obtain ⟨c1,hc1⟩:∃ c,l[a+1]? = some c:=⟨_,List.getElem?_eq_getElem (by omega)⟩
  have hm0:=hby a c0 hc0;have hm1:=hby (a+1) c1 hc1;have hwa:IntKind.i64.wrap ((a:Int)+1)=((a+1:Nat):Int):=by rw [IntKind.wrap_i64];omega
  by_cases h0:c0=92
  ·subst h0;by_cases h1:c1=117
   ·subst h1;have hmem:∃ m:List UInt8,(l.drop (a+2)).take 4=m:=⟨_,rfl⟩
    obtain ⟨m,hm⟩:=hmem;have hml:m.length=4:=by rw [← hm];simp;omega
    have HU:=aW (show cd l a=ir (gA m 0) by
     rw [cd,bq,if_neg (λ h=>h.elim (λ h=>h6 h) (λ h=>h.elim (λ h=>h hc0) (λ h=>h hc1))),hm])
    have hmc:∀ k c,m[k]? = some c->w.cell? ⟨b,o+(a+2)+k,none⟩=some (Zi .u8 c.toNat):=λ k c hk=>by
     have:l[a+2+k]? = some c:=by
      rw [← hm,List.getElem?_take,List.getElem?_drop] at hk;split at hk
      ·exact hk
      ·cases hk
     rw [← hby _ _ this];simp [Nat.add_assoc]
    have HB:=aW hby;have HM:=aW hmc;clear hby hmc hm;have hm0':w.cell? ⟨b,o+a,none⟩=some (Zi .u8 92):=hm0;have hm1':w.cell? ⟨b,o+(a+1),none⟩=some (Zi .u8 117):=hm1;clear hm0 hm1;go_enter Tryz.func222,Tryz.ntmps222;go_wp2;rw [show a+6-(a+2)=4 from by omega];go_loopw [5,7,39] (λ s _ i wr => ∃ k n:Nat,k<=4/\i=Zi Zq k/\s=Zi Zq n/\n<16 ^ k/\gA (m.drop k) n=gA m 0/\∃ j,wr=(w.alloc (.cells #[Zs (some ⟨b,o,none⟩) l.length cap] 240)).drewN j) (λ _ _ i _=>4-(intOf i).toNat)
    case atStart=>exact ⟨0,0,by omega,rfl,rfl,by omega,rfl,0,rfl⟩
    case round =>
     obtain ⟨k,n,hk,rfl,rfl,hn,hh,j,rfl⟩:=hrel;have HH:=aW hh;clear hh;by_cases hk4:k<4
     ·obtain ⟨c,hc⟩:∃ c,m[k]? = some c:=⟨_,List.getElem?_eq_getElem (by omega)⟩
      have hcell:=HM.out k c hc;have hd:m.drop k=c::m.drop (k+1):=by
       obtain ⟨hlt,e⟩:=List.getElem?_eq_some_iff.1 hc;rw [List.drop_eq_getElem_cons hlt,e]
      have HH2:=aW (show gA (c::m.drop (k+1)) n=gA m 0 by rw [← hd];exact HH.out);clear hd hc;have hn4:n<4096:=Nat.lt_of_lt_of_le hn (Nat.pow_le_pow_right (by omega) (show k<=3 by omega));have h16:(16:Nat) ^ (k+1)=16 ^ k*16:=Nat.pow_succ _ _;have HN:=aW hn;have H16:=aW h16;clear hn h16;rcases (by omega:(48<=c.toNat/\c.toNat<=57)∨(97<=c.toNat/\c.toNat<=102)∨(65<=c.toNat/\c.toNat<=70)∨(¬ (48<=c.toNat/\c.toNat<=57)/\¬ (97<=c.toNat/\c.toNat<=102)/\¬ (65<=c.toNat/\c.toNat<=70))) with hc | hc | hc | hc
      ·have hv:iX c=some (c.toNat-48):=by unfold iX;rw [if_pos hc]
       have HV:=aW hv;clear hv;go_wp2;go_roundw
       case rel =>
        refine ⟨k+1,n*16+(c.toNat-48),by omega,by go_num,congrArg _ (by omega),?_,?_,j,rfl⟩
        ·have h1:=HN.out;have h2:=H16.out;omega
        ·rw [← HH2.out,gA,HV.out]
       case measure=>simp [intOf];omega
      ·have hv:iX c=some (c.toNat-97+10):=by unfold iX;rw [if_neg (by omega),if_pos hc]
       have HV:=aW hv;clear hv;go_wp2;go_roundw
       case rel =>
        refine ⟨k+1,n*16+(c.toNat-97+10),by omega,by go_num,congrArg _ (by omega),?_,?_,j,rfl⟩
        ·have h1:=HN.out;have h2:=H16.out;omega
        ·rw [← HH2.out,gA,HV.out]
       case measure=>simp [intOf];omega
      ·have hv:iX c=some (c.toNat-65+10):=by unfold iX;rw [if_neg (by omega),if_neg (by omega),if_pos hc]
       have HV:=aW hv;clear hv;go_wp2;go_roundw
       case rel =>
        refine ⟨k+1,n*16+(c.toNat-65+10),by omega,by go_num,congrArg _ (by omega),?_,?_,j,rfl⟩
        ·have h1:=HN.out;have h2:=H16.out;omega
        ·rw [← HH2.out,gA,HV.out]
       case measure=>simp [intOf];omega
      ·have hv:iX c=none:=by unfold iX;rw [if_neg hc.1,if_neg hc.2.1,if_neg hc.2.2]
       have HV:=aW hv;clear hv;have hU:cd l a = -1:=by rw [HU.out,← HH2.out,gA,HV.out];rfl
       have HUU:=aW hU;clear hU;rcases (by omega:c.toNat<48∨(57<c.toNat/\c.toNat<65)∨(70<c.toNat/\c.toNat<97)∨102<c.toNat) with hd | hd | hd | hd
       all_goals
        clear hc;go_wp2;go_ret;exact ⟨cX HUU.out.symm,aj (by go_grown) _⟩
     ·obtain rfl:k=4:=by omega
      have hU:cd l a=n:=by
       rw [HU.out,← HH.out,List.drop_eq_nil_of_le (by omega)];rfl
      have HUU:=aW hU;clear hU;go_wp2;go_returns;exact ⟨cX HUU.out.symm,aj (by go_grown) _⟩
   ·have HU:=aW (show cd l a = -1 by rw [cd,bq,if_pos (.inr (.inr (by rw [hc1];simpa using h1)))];rfl);have hne:((c1.toNat:Int) != 117)=true:=by
     have:c1.toNat≠117:=λ e=>h1 (UInt8.toNat_inj.1 (by simpa using e))
     simp;omega
    have hm0':w.cell? ⟨b,o+a,none⟩=some (Zi .u8 92):=hm0;clear hm0 hby h1;go_enter Tryz.func222,Tryz.ntmps222;go_wp2;go_returns;exact ⟨cX HU.out.symm,by go_grown⟩
  ·have HU:=aW (show cd l a = -1 by rw [cd,bq,if_pos (.inr (.inl (by rw [hc0];simpa using h0)))];rfl);have hne:((c0.toNat:Int) != 92)=true:=by
    have:c0.toNat≠92:=λ e=>h0 (UInt8.toNat_inj.1 (by simpa using e))
    simp;omega
   clear hby h0;go_enter Tryz.func222,Tryz.ntmps222;go_wp2;go_returns;exact ⟨cX HU.out.symm,by go_grown⟩
def dZ (r:Int × Int × Int) (w:World) (e:Ending) (w':World):Prop :=
 e=.returned (.tuple #[Zi Zq r.1,Zi Zq r.2.1,Zi Zq r.2.2])/\Below w.heap.size w w'
theorem pJ (A:Option Addr) (cap:Nat) (l:List UInt8) (a u:Nat) (w:World) (hr:Rd w A (aq l)) (hcap:l.length<=cap) (hlen:l.length<=4194304) (ha:a<=l.length) (hu:bq l a=some u) :
  Calls Tryz.prog 208 #[.agg #[Zs A l.length cap],Zi Zq a] w (dZ (j5 l a) w):=by
 have h1:=λ (w1:World) hr=>mM A cap l a w1 hr hcap hlen ha
 have hlt:=gH hu;obtain ⟨x,hx⟩:∃ x:Int,(u:Int)=x:=⟨_,rfl⟩
 rw [show cd l a=x from by unfold cd;rw [hu];exact hx] at h1;have H1:=aW h1;clear h1;have hx0:0<=x:=by omega
 unfold j5;rw [hu];have HU:=aW hu;clear hu;by_cases hc:u<55296∨57343<u
 ·have hs:0<aZ u:=by
   unfold aZ;rw [if_neg (by omega),Int.toNat_natCast];unfold bJ
   repeat' split
   all_goals omega
  show Calls _ _ _ _ (dZ (if 0<aZ (u:Int) then ((u:Int),(a:Int)+6,0) else _) w)
  rw [if_pos hs];rw [hx] at hs ⊢;have HC:=aW hc;have HX:=aW hx;clear hc hx;go_enter Tryz.func208,Tryz.ntmps208;go_wp2_with (first | (go_at_call 222;refine (H1.out _ (hr.alloc _)).mono ?_;rintro e w1 ⟨rfl,hb⟩;have hbw:=((Below.refl w.heap.size w).alloc (Nat.le_refl _) (.cells #[Zs A l.length cap] 240)).trans (hb.mono (by simp));have hblk:=(Blk.new w 240 #[Zs A l.length cap]).keep hb;obtain ⟨hq,_,_⟩:=hblk.rules) | (go_at_call 223;refine (pu _ _).mono ?_;rintro e w2 ⟨rfl,rfl⟩));go_returns;exact ⟨rfl,hbw⟩
 ·have hs:aZ u=0:=by
   unfold aZ;rw [if_neg (by omega),Int.toNat_natCast];unfold bJ;rw [if_pos (by omega)];rfl
  show Calls _ _ _ _ (dZ (if 0<aZ (u:Int) then ((u:Int),(a:Int)+6,0) else _) w)
  rw [if_neg (by omega)];have HC:=aW hc;have HX:=aW hx;rw [hx] at hs;have hz:=λ w:World=>pu x w
  rw [hs] at hz;have HZ:=aW hz;clear hz hs;by_cases hd:u<56320
  ·rw [if_pos hd];have h2:=λ (w1:World) hr=>mM A cap l (a+6) w1 hr hcap hlen hlt.2
   unfold cd at h2;clear hx;cases hv:bq l (a+6) with
   |none =>
    rw [hv] at h2;have H2:=aW (show ∀ w1,Rd w1 A (aq l)->Calls Tryz.prog 222 #[.agg #[Zs A l.length cap],Zi Zq ((a:Int)+6)] w1 λ e w'=>e=.returned (Zi Zq (-1))/\Below w1.heap.size w1 w' from h2);have HD:=aW hd;have HLT:=aW hlt;have hal:a+6<=l.length:=hlt.2;clear h2 hv hc hd hlt;go_enter Tryz.func208,Tryz.ntmps208;go_wp2_with (first | (go_at_call 222;refine (H2.out _ (hr.below hbw)).mono ?_;rintro e w3 ⟨rfl,hb3⟩) | (go_at_call 222;refine (H1.out _ (hr.alloc _)).mono ?_;rintro e w1 ⟨rfl,hb⟩;have hbw:=((Below.refl w.heap.size w).alloc (Nat.le_refl _) (.cells #[Zs A l.length cap] 240)).trans (hb.mono (by simp));have hblk:=(Blk.new w 240 #[Zs A l.length cap]).keep hb;obtain ⟨hq,_,_⟩:=hblk.rules) | (go_at_call 223;refine (HZ.out _).mono ?_;rintro e w2 ⟨rfl,rfl⟩))
    ·go_returns;exact ⟨rfl,hbw.trans (hb3.mono hbw.size)⟩
    ·exfalso;have h1:=HD.out;have h3:=HX.out;omega
   |some v =>
    rw [hv] at h2;have hvl:=(gH hv).1;obtain ⟨y,hy⟩:∃ y:Int,(v:Int)=y:=⟨_,rfl⟩
    have hy0:0<=y:=by omega
    have H2:=aW (show ∀ w1,Rd w1 A (aq l)->Calls Tryz.prog 222 #[.agg #[Zs A l.length cap],Zi Zq ((a:Int)+6)] w1 λ e w'=>e=.returned (Zi Zq y)/\Below w1.heap.size w1 w' from hy ▸ h2);have HY:=aW hy;clear h2 hv hy;by_cases hv:56320<=v/\v<=57343
    ·show Calls _ _ _ _ (dZ (if 56320<=v/\v<=57343 then _ else _) w)
     rw [if_pos hv];have HD:=aW hd;have HLT:=aW hlt;have HV:=aW hv;have hal:a+6<=l.length:=hlt.2;have HL:=aW (show 55296<=u by omega);have HVL:=aW hvl;clear hc hd hlt hv hvl;go_enter Tryz.func208,Tryz.ntmps208;go_wp2_with (first | (go_at_call 222;refine (H2.out _ (hr.below hbw)).mono ?_;rintro e w3 ⟨rfl,hb3⟩) | (go_at_call 222;refine (H1.out _ (hr.alloc _)).mono ?_;rintro e w1 ⟨rfl,hb⟩;have hbw:=((Below.refl w.heap.size w).alloc (Nat.le_refl _) (.cells #[Zs A l.length cap] 240)).trans (hb.mono (by simp));have hblk:=(Blk.new w 240 #[Zs A l.length cap]).keep hb;obtain ⟨hq,_,_⟩:=hblk.rules) | (go_at_call 223;refine (HZ.out _).mono ?_;rintro e w2 ⟨rfl,rfl⟩))
     ·go_returns;refine ⟨?_,hbw.trans (hb3.mono hbw.size)⟩;rw [HX.out,HY.out];rfl
     all_goals
      exfalso;have h1:=HD.out;have h2:=HV.out;have h3:=HX.out;have h4:=HY.out;omega
    ·show Calls _ _ _ _ (dZ (if 56320<=v/\v<=57343 then _ else _) w)
     rw [if_neg hv];have HD:=aW hd;have HLT:=aW hlt;have HV:=aW hv;have hal:a+6<=l.length:=hlt.2;clear hc hd hlt hv hvl
     skip
     ·skip
      go_enter Tryz.func208,Tryz.ntmps208;go_wp2_with (first | (go_at_call 222;refine (H2.out _ (hr.below hbw)).mono ?_;rintro e w3 ⟨rfl,hb3⟩) | (go_at_call 222;refine (H1.out _ (hr.alloc _)).mono ?_;rintro e w1 ⟨rfl,hb⟩;have hbw:=((Below.refl w.heap.size w).alloc (Nat.le_refl _) (.cells #[Zs A l.length cap] 240)).trans (hb.mono (by simp));have hblk:=(Blk.new w 240 #[Zs A l.length cap]).keep hb;obtain ⟨hq,_,_⟩:=hblk.rules) | (go_at_call 223;refine (HZ.out _).mono ?_;rintro e w2 ⟨rfl,rfl⟩))
      all_goals
       first
       | (exfalso;have h1:=HD.out;have h2:=HV.out;have h3:=HX.out;have h4:=HY.out;omega)
       | (go_returns;exact ⟨rfl,hbw.trans (hb3.mono hbw.size)⟩)
  ·rw [if_neg hd];have HD:=aW hd;have HLT:=aW hlt;have hal:a+6<=l.length:=hlt.2;clear hc hd hlt hx;go_enter Tryz.func208,Tryz.ntmps208;go_wp2_with (first | (go_at_call 222;exfalso;have h1:=HD.out;have h3:=HX.out;omega) | (go_at_call 222;refine (H1.out _ (hr.alloc _)).mono ?_;rintro e w1 ⟨rfl,hb⟩;have hbw:=((Below.refl w.heap.size w).alloc (Nat.le_refl _) (.cells #[Zs A l.length cap] 240)).trans (hb.mono (by simp));have hblk:=(Blk.new w 240 #[Zs A l.length cap]).keep hb;obtain ⟨hq,_,_⟩:=hblk.rules) | (go_at_call 223;refine (HZ.out _).mono ?_;rintro e w2 ⟨rfl,rfl⟩));go_returns;exact ⟨rfl,hbw⟩
def bC (c k:Nat):Prop:=(1<=k->c≠34)/\(2<=k->c≠92)/\(3<=k->c≠47)/\(4<=k->c≠98)/\(5<=k->c≠102)/\(6<=k->c≠110)/\(7<=k->c≠114)/\(8<=k->c≠116)
theorem rn {c:Nat} (h:bC c 8):aD c=none:=by
 simp only [bC] at h;unfold aD;rw [if_neg (by omega)];rw [if_neg (by omega)];rw [if_neg (by omega)];rw [if_neg (by omega)];rw [if_neg (by omega)];rw [if_neg (by omega)];rw [if_neg (by omega)];rw [if_neg (by omega)]
theorem pI (A:Option Addr) (cap:Nat) (l:List UInt8) (a:Nat) (w:World) (hr:Rd w A (aq l)) (hcap:l.length<=cap) (hlen:l.length<=4194304) (ha:a<=l.length) (hu:bq l a=none) :
  Calls Tryz.prog 208 #[.agg #[Zs A l.length cap],Zi Zq a] w (dZ (j5 l a) w):=by
 have h1:=λ (w1:World) hr=>mM A cap l a w1 hr hcap hlen ha
 rw [show cd l a = -1 from by unfold cd;rw [hu];rfl] at h1;have H1:=aW h1;clear h1;unfold j5;rw [hu];clear hu;show Calls _ _ _ _ (dZ (match l[a+1]? with | some c=>(match aD c.toNat with | some x=>((x:Int),(a:Int)+2,0) | none=>(0,0,7)) | none=>(0,0,7)) w)
 have hwa:IntKind.i64.wrap ((a:Int)+1)=((a+1:Nat):Int):=by rw [IntKind.wrap_i64];omega
 cases hc:l[a+1]? with
 |none =>
  have hle:l.length<=a+1:=List.getElem?_eq_none_iff.1 hc;clear hc;go_enter Tryz.func208,Tryz.ntmps208;go_wp2_with (go_at_call 222;refine (H1.out _ (hr.alloc _)).mono ?_;rintro e w1 ⟨rfl,hb⟩;have hbw:=((Below.refl w.heap.size w).alloc (Nat.le_refl _) (.cells #[Zs A l.length cap] 240)).trans (hb.mono (by simp));have hblk:=(Blk.new w 240 #[Zs A l.length cap]).keep hb;obtain ⟨hq,_,_⟩:=hblk.rules);go_returns;exact ⟨rfl,hbw⟩
 |some c =>
  obtain ⟨hlt,hce⟩:=List.getElem?_eq_some_iff.1 hc;obtain ⟨b,o,rfl,hb,hx⟩:=hr (by intro e;have h3:=av l;rw [e,List.length_nil] at h3;omega);have hcell:w.cell? ⟨b,o+(a+1),none⟩=some (Zi .u8 c.toNat):=by
   rw [hx (a+1) (by rw [av];exact hlt)];simp [aq,hce]
  clear hx hc hce;show Calls _ _ _ _ (dZ (match aD c.toNat with | some x=>((x:Int),(a:Int)+2,0) | none=>(0,0,7)) w)
  obtain ⟨r,hr2⟩:∃ r:Int × Int × Int,(match aD c.toNat with | some x=>((x:Int),(a:Int)+2,0) | none=>(0,0,7))=r:=⟨_,rfl⟩
  rw [hr2];have hc256:=c.toNat_lt;obtain ⟨q,hq⟩:∃ q,c.toNat=q:=⟨_,rfl⟩
  rw [hq] at hcell hc256 hr2;have HR:=aW hr2;clear hq hr2;go_enter Tryz.func208,Tryz.ntmps208;go_wp2_with (first | (go_at_call 222;refine (H1.out _ (hr.alloc _)).mono ?_;rintro e w1 ⟨rfl,hb1⟩;have hbw:=((Below.refl w.heap.size w).alloc (Nat.le_refl _) (.cells #[Zs (some ⟨b,o,none⟩) l.length cap] 240)).trans (hb1.mono (by simp));have hblk:=(Blk.new w 240 #[Zs (some ⟨b,o,none⟩) l.length cap]).keep hb1;obtain ⟨hq,_,_⟩:=hblk.rules) | (go_at_call 187;refine (kM _).mono ?_;rintro e w2 ⟨rfl,hb2⟩));go_loopw [10,53] (λ _ i wr => ∃ k:Nat,k<=8/\i=Zi Zq k/\Blk wr w.heap.size 240 #[Zs (some ⟨b,o,none⟩) l.length cap]/\Below w.heap.size w wr/\bC q k) (λ _ i _=>8-(intOf i).toNat)
  case atStart =>
   exact ⟨0,by omega,rfl,hblk.keep hb2,hbw.trans (hb2.mono hbw.size),by simp [bC]⟩
  case round =>
   obtain ⟨k,hk,rfl,b1,hbr,hno⟩:=hrel;have hbw2:=Nat.lt_of_lt_of_le hb hbr.size;have hcw:=(hbr.cell (p:=⟨b,o+(a+1),none⟩) hb).trans hcell;obtain ⟨hq2,_,_⟩:=b1.rules;have HN:=aW hno;have HOLD:=aW hcell;have HQ:=aW hq;clear hno hcell hq hbw hblk;unfold lV;rcases (by omega:k=0∨k=1∨k=2∨k=3∨k=4∨k=5∨k=6∨k=7∨k=8) with rfl | rfl | rfl | rfl | rfl | rfl | rfl | rfl | rfl
   ·go_wp2;go_quiet (fail);go_wp2
    ·have hh:q=34:=by
      have h:=‹((34:Int) == (q:Int))=true›;simp at h;omega
     go_returns;have hs:aD q=some 34:=by
      have hno:=HN.out;simp only [bC] at hno;unfold aD;rw [if_pos hh]
     have h:=HR.out;rw [hs] at h;rw [← h];exact ⟨rfl,(by repeat (first | exact hbr | apply aj | (refine Below.setCell ?_ (by first | (simp;done) | (simp;omega) | omega) _) | (refine Below.alloc ?_ (by first | (simp;done) | (simp;omega) | omega) _)))⟩
    ·have hh:q≠34:=by
      have h:=‹((34:Int) == (q:Int))=false›;simp at h;omega
     go_roundw
     case rel=>exact ⟨1,by omega,rfl,(b1.alloc _).drewN _,(by repeat (first | exact hbr | apply aj | (refine Below.setCell ?_ (by first | (simp;done) | (simp;omega) | omega) _) | (refine Below.alloc ?_ (by first | (simp;done) | (simp;omega) | omega) _))),by have hno:=HN.out;simp only [bC] at hno ⊢;omega⟩
     case measure=>simp [intOf]
   ·go_wp2;go_quiet (fail);go_wp2
    ·have hh:q=92:=by
      have h:=‹((92:Int) == (q:Int))=true›;simp at h;omega
     go_returns;have hs:aD q=some 92:=by
      have hno:=HN.out;simp only [bC] at hno;unfold aD;rw [if_neg (by omega)];rw [if_pos hh]
     have h:=HR.out;rw [hs] at h;rw [← h];exact ⟨rfl,(by repeat (first | exact hbr | apply aj | (refine Below.setCell ?_ (by first | (simp;done) | (simp;omega) | omega) _) | (refine Below.alloc ?_ (by first | (simp;done) | (simp;omega) | omega) _)))⟩
    ·have hh:q≠92:=by
      have h:=‹((92:Int) == (q:Int))=false›;simp at h;omega
     go_roundw
     case rel=>exact ⟨2,by omega,rfl,(b1.alloc _).drewN _,(by repeat (first | exact hbr | apply aj | (refine Below.setCell ?_ (by first | (simp;done) | (simp;omega) | omega) _) | (refine Below.alloc ?_ (by first | (simp;done) | (simp;omega) | omega) _))),by have hno:=HN.out;simp only [bC] at hno ⊢;omega⟩
     case measure=>simp [intOf]
   ·go_wp2;go_quiet (fail);go_wp2
    ·have hh:q=47:=by
      have h:=‹((47:Int) == (q:Int))=true›;simp at h;omega
     go_returns;have hs:aD q=some 47:=by
      have hno:=HN.out;simp only [bC] at hno;unfold aD;rw [if_neg (by omega)];rw [if_neg (by omega)];rw [if_pos hh]
     have h:=HR.out;rw [hs] at h;rw [← h];exact ⟨rfl,(by repeat (first | exact hbr | apply aj | (refine Below.setCell ?_ (by first | (simp;done) | (simp;omega) | omega) _) | (refine Below.alloc ?_ (by first | (simp;done) | (simp;omega) | omega) _)))⟩
    ·have hh:q≠47:=by
      have h:=‹((47:Int) == (q:Int))=false›;simp at h;omega
     go_roundw
     case rel=>exact ⟨3,by omega,rfl,(b1.alloc _).drewN _,(by repeat (first | exact hbr | apply aj | (refine Below.setCell ?_ (by first | (simp;done) | (simp;omega) | omega) _) | (refine Below.alloc ?_ (by first | (simp;done) | (simp;omega) | omega) _))),by have hno:=HN.out;simp only [bC] at hno ⊢;omega⟩
     case measure=>simp [intOf]
   ·go_wp2;go_quiet (fail);go_wp2
    ·have hh:q=98:=by
      have h:=‹((98:Int) == (q:Int))=true›;simp at h;omega
     go_returns;have hs:aD q=some 8:=by
      have hno:=HN.out;simp only [bC] at hno;unfold aD;rw [if_neg (by omega)];rw [if_neg (by omega)];rw [if_neg (by omega)];rw [if_pos hh]
     have h:=HR.out;rw [hs] at h;rw [← h];exact ⟨rfl,(by repeat (first | exact hbr | apply aj | (refine Below.setCell ?_ (by first | (simp;done) | (simp;omega) | omega) _) | (refine Below.alloc ?_ (by first | (simp;done) | (simp;omega) | omega) _)))⟩
    ·have hh:q≠98:=by
      have h:=‹((98:Int) == (q:Int))=false›;simp at h;omega
     go_roundw
     case rel=>exact ⟨4,by omega,rfl,(b1.alloc _).drewN _,(by repeat (first | exact hbr | apply aj | (refine Below.setCell ?_ (by first | (simp;done) | (simp;omega) | omega) _) | (refine Below.alloc ?_ (by first | (simp;done) | (simp;omega) | omega) _))),by have hno:=HN.out;simp only [bC] at hno ⊢;omega⟩
     case measure=>simp [intOf]
   ·go_wp2;go_quiet (fail);go_wp2
    ·have hh:q=102:=by
      have h:=‹((102:Int) == (q:Int))=true›;simp at h;omega
     go_returns;have hs:aD q=some 12:=by
      have hno:=HN.out;simp only [bC] at hno;unfold aD;rw [if_neg (by omega)];rw [if_neg (by omega)];rw [if_neg (by omega)];rw [if_neg (by omega)];rw [if_pos hh]
     have h:=HR.out;rw [hs] at h;rw [← h];exact ⟨rfl,(by repeat (first | exact hbr | apply aj | (refine Below.setCell ?_ (by first | (simp;done) | (simp;omega) | omega) _) | (refine Below.alloc ?_ (by first | (simp;done) | (simp;omega) | omega) _)))⟩
    ·have hh:q≠102:=by
      have h:=‹((102:Int) == (q:Int))=false›;simp at h;omega
     go_roundw
     case rel=>exact ⟨5,by omega,rfl,(b1.alloc _).drewN _,(by repeat (first | exact hbr | apply aj | (refine Below.setCell ?_ (by first | (simp;done) | (simp;omega) | omega) _) | (refine Below.alloc ?_ (by first | (simp;done) | (simp;omega) | omega) _))),by have hno:=HN.out;simp only [bC] at hno ⊢;omega⟩
     case measure=>simp [intOf]
   ·go_wp2;go_quiet (fail);go_wp2
    ·have hh:q=110:=by
      have h:=‹((110:Int) == (q:Int))=true›;simp at h;omega
     go_returns;have hs:aD q=some 10:=by
      have hno:=HN.out;simp only [bC] at hno;unfold aD;rw [if_neg (by omega)];rw [if_neg (by omega)];rw [if_neg (by omega)];rw [if_neg (by omega)];rw [if_neg (by omega)];rw [if_pos hh]
     have h:=HR.out;rw [hs] at h;rw [← h];exact ⟨rfl,(by repeat (first | exact hbr | apply aj | (refine Below.setCell ?_ (by first | (simp;done) | (simp;omega) | omega) _) | (refine Below.alloc ?_ (by first | (simp;done) | (simp;omega) | omega) _)))⟩
    ·have hh:q≠110:=by
      have h:=‹((110:Int) == (q:Int))=false›;simp at h;omega
     go_roundw
     case rel=>exact ⟨6,by omega,rfl,(b1.alloc _).drewN _,(by repeat (first | exact hbr | apply aj | (refine Below.setCell ?_ (by first | (simp;done) | (simp;omega) | omega) _) | (refine Below.alloc ?_ (by first | (simp;done) | (simp;omega) | omega) _))),by have hno:=HN.out;simp only [bC] at hno ⊢;omega⟩
     case measure=>simp [intOf]
   ·go_wp2;go_quiet (fail);go_wp2
    ·have hh:q=114:=by
      have h:=‹((114:Int) == (q:Int))=true›;simp at h;omega
     go_returns;have hs:aD q=some 13:=by
      have hno:=HN.out;simp only [bC] at hno;unfold aD;rw [if_neg (by omega)];rw [if_neg (by omega)];rw [if_neg (by omega)];rw [if_neg (by omega)];rw [if_neg (by omega)];rw [if_neg (by omega)];rw [if_pos hh]
     have h:=HR.out;rw [hs] at h;rw [← h];exact ⟨rfl,(by repeat (first | exact hbr | apply aj | (refine Below.setCell ?_ (by first | (simp;done) | (simp;omega) | omega) _) | (refine Below.alloc ?_ (by first | (simp;done) | (simp;omega) | omega) _)))⟩
    ·have hh:q≠114:=by
      have h:=‹((114:Int) == (q:Int))=false›;simp at h;omega
     go_roundw
     case rel=>exact ⟨7,by omega,rfl,(b1.alloc _).drewN _,(by repeat (first | exact hbr | apply aj | (refine Below.setCell ?_ (by first | (simp;done) | (simp;omega) | omega) _) | (refine Below.alloc ?_ (by first | (simp;done) | (simp;omega) | omega) _))),by have hno:=HN.out;simp only [bC] at hno ⊢;omega⟩
     case measure=>simp [intOf]
   ·go_wp2;go_quiet (fail);go_wp2
    ·have hh:q=116:=by
      have h:=‹((116:Int) == (q:Int))=true›;simp at h;omega
     go_returns;have hs:aD q=some 9:=by
      have hno:=HN.out;simp only [bC] at hno;unfold aD;rw [if_neg (by omega)];rw [if_neg (by omega)];rw [if_neg (by omega)];rw [if_neg (by omega)];rw [if_neg (by omega)];rw [if_neg (by omega)];rw [if_neg (by omega)];rw [if_pos hh]
     have h:=HR.out;rw [hs] at h;rw [← h];exact ⟨rfl,(by repeat (first | exact hbr | apply aj | (refine Below.setCell ?_ (by first | (simp;done) | (simp;omega) | omega) _) | (refine Below.alloc ?_ (by first | (simp;done) | (simp;omega) | omega) _)))⟩
    ·have hh:q≠116:=by
      have h:=‹((116:Int) == (q:Int))=false›;simp at h;omega
     go_roundw
     case rel=>exact ⟨8,by omega,rfl,(b1.alloc _).drewN _,(by repeat (first | exact hbr | apply aj | (refine Below.setCell ?_ (by first | (simp;done) | (simp;omega) | omega) _) | (refine Below.alloc ?_ (by first | (simp;done) | (simp;omega) | omega) _))),by have hno:=HN.out;simp only [bC] at hno ⊢;omega⟩
     case measure=>simp [intOf]
   ·go_wp2;go_returns;have h:=HR.out;rw [rn HN.out] at h;rw [← h];exact ⟨rfl,hbr⟩
theorem qZ (A:Option Addr) (cap:Nat) (l:List UInt8) (a:Nat) (w:World) (hr:Rd w A (aq l)) (hcap:l.length<=cap) (hlen:l.length<=4194304) (ha:a<=l.length) :
  Calls Tryz.prog 208 #[.agg #[Zs A l.length cap],Zi Zq a] w (dZ (j5 l a) w):=by
 cases hu:bq l a with
 | none=>exact pI A cap l a w hr hcap hlen ha hu
 | some u=>exact pJ A cap l a u w hr hcap hlen ha hu
def qsS (l:List UInt8) (a:Nat):Int × Int × Int :=
 match l[a]? with
 | some c=>if c.toNat=92 then j5 l a else if c.toNat<32∨c.toNat=34 then (0,0,7) else ef l a
 | none=>(0,0,0)
theorem nS (A:Option Addr) (cap:Nat) (l:List UInt8) (a:Nat) (w:World) (hG:GOK w) (hr:Rd w A (aq l)) (hcap:l.length<=cap) (hlen:l.length<=4194304) (ha:a<l.length) :
  Calls Tryz.prog 194 #[.agg #[Zs A l.length cap],Zi Zq a] w (dZ (qsS l a) w):=by
 have h1:=λ (w1:World) hr=>qZ A cap l a w1 hr hcap hlen (Nat.le_of_lt ha)
 have h2:=λ (w1:World) hg hr=>t0 A cap l a w1 hg hr hcap hlen
 obtain ⟨c,hc⟩:∃ c,l[a]? = some c:=⟨_,List.getElem?_eq_getElem ha⟩
 have hq:qsS l a=if c.toNat=92 then j5 l a else if c.toNat<32∨c.toNat=34 then (0,0,7) else ef l a:=by rw [qsS,hc]
 obtain ⟨b,o,rfl,hb,hx⟩:=hr (by intro e;have h3:=av l;rw [e,List.length_nil] at h3;omega);obtain ⟨hlt,hce⟩:=List.getElem?_eq_some_iff.1 hc;have hcell:w.cell? ⟨b,o+a,none⟩=some (Zi .u8 c.toNat):=by
  rw [hx a (by rw [av];exact hlt)];simp [aq,hce]
 obtain ⟨q,hqc⟩:∃ q,c.toNat=q:=⟨_,rfl⟩
 rw [hqc] at hcell hq;rw [hq];clear hx hce hc hqc hq;obtain ⟨r1,hr1⟩:∃ r,j5 l a=r:=⟨_,rfl⟩
 obtain ⟨r2,hr2⟩:∃ r,ef l a=r:=⟨_,rfl⟩
 rw [hr1] at h1 ⊢;rw [hr2] at h2 ⊢;have H1:=aW h1;have H2:=aW h2;have HG:=aW hG;clear h1 h2 hr1 hr2 hG;by_cases h92:q=92
 ·rw [if_pos h92];subst h92;go_enter Tryz.func194,Tryz.ntmps194;go_wp2_with (go_at_call 208;refine (H1.out _ (hr.alloc _)).mono ?_;rintro e w1 ⟨rfl,hb1⟩);go_returns;exact ⟨rfl,((Below.refl w.heap.size w).alloc (Nat.le_refl _) _).trans (hb1.mono (by simp))⟩
 ·rw [if_neg h92];have n92:((q:Int) == 92)=false:=by simp;omega
  by_cases h34:q=34
  ·rw [if_pos (.inr h34)];subst h34;go_enter Tryz.func194,Tryz.ntmps194;go_wp2;go_returns;exact ⟨rfl,by go_grown⟩
  ·by_cases h32:q<32
   ·rw [if_pos (.inl h32)];go_enter Tryz.func194,Tryz.ntmps194;go_wp2;go_returns;exact ⟨rfl,by go_grown⟩
   ·rw [if_neg (by omega)];have n34:((q:Int) == 34)=false:=by simp;omega
    go_enter Tryz.func194,Tryz.ntmps194;go_wp2_with (go_at_call 209;refine (H2.out _ (HG.out.alloc _) (hr.alloc _)).mono ?_;rintro e w1 ⟨rfl,hb1⟩);go_returns;exact ⟨rfl,((Below.refl w.heap.size w).alloc (Nat.le_refl _) _).trans (hb1.mono (by simp))⟩
def fM (l:List UInt8) (a:Int):Int × Int × Int :=
 if a<0∨(l.length:Int)<a then (0,0,2) else if a=l.length then (0,0,6) else qsS l a.toNat
theorem ua (A:Option Addr) (cap:Nat) (l:List UInt8) (a:Int) (w:World) (hG:GOK w) (hr:Rd w A (aq l)) (hcap:l.length<=cap) (hlen:l.length<=4194304) :
  Calls Tryz.prog 196 #[Zs A l.length cap,Zi Zq a] w (dZ (fM l a) w):=by
 by_cases h0:a<0
 ·rw [fM,if_pos (.inl h0)];go_enter Tryz.func196,Tryz.ntmps196;go_wp2;go_returns;exact ⟨rfl,by go_grown⟩
 ·obtain ⟨n,rfl⟩:∃ n:Nat,a=n:=⟨a.toNat,by omega⟩
  by_cases h1:(l.length:Int)<(n:Int)
  ·rw [fM,if_pos (.inr h1)];clear h0;go_enter Tryz.func196,Tryz.ntmps196;go_wp2;go_returns;exact ⟨rfl,by go_grown⟩
  ·rw [fM,if_neg (by omega)];clear h0;by_cases h2:n=l.length
   ·rw [if_pos (by omega)];subst h2;go_enter Tryz.func196,Tryz.ntmps196;go_wp2;go_returns;exact ⟨rfl,by go_grown⟩
   ·rw [if_neg (by omega),Int.toNat_natCast];have hlt:n<l.length:=by omega
    have h3:=nS A cap l n w hG hr hcap hlen hlt;obtain ⟨r1,hr1⟩:∃ r,qsS l n=r:=⟨_,rfl⟩
    rw [hr1] at h3 ⊢;have H3:=aW h3;clear h3 hr1 h1;go_enter Tryz.func196,Tryz.ntmps196;go_wp2_with (go_at_call 194;refine H3.out.mono ?_;rintro e w1 ⟨rfl,hb1⟩);go_returns;exact ⟨rfl,hb1⟩
end
section
open Go.RowKit Go.Shelf
attribute [local go_sem] aa ac ae ab Oper.semAt_some
theorem qP {l:List UInt8} (h:(ak l).2≠0):bJ (ak l).1≠0:=by
 have key:∀ n,bE l n=true->bJ (a5 l n)≠0:=λ n hn=>by
  have:=((d8 l n).1 hn).2.1;intro e;have:=(bN _ _).1 e;omega
 unfold ak at h ⊢;split
 ·exact key _ ‹_›
 ·split
  ·exact key _ ‹_›
  ·split
   ·exact key _ ‹_›
   ·split
    ·exact key _ ‹_›
    ·simp_all
theorem lU {c x:Nat} (h:aD c=some x):x<128:=by
 unfold aD at h
 repeat' split at h
 all_goals first | (cases h;omega) | cases h
theorem nR {l:List UInt8} {a:Nat} {c n:Int} (h:qsS l a=(c,n,0)) (ha:a<l.length):∃ p m:Nat,c=p/\n=m/\a<m/\m<=l.length/\bJ p≠0:=by
 unfold qsS at h;rw [List.getElem?_eq_getElem ha] at h;simp only at h;split at h
 ·unfold j5 at h;cases hu:bq l a with
  |some u =>
   rw [hu] at h;have hlt:=gH hu;simp only at h;split at h
   ·rename_i hs
    simp only [Prod.mk.injEq] at h;refine ⟨u,a+6,h.1.symm,by omega,by omega,hlt.2,?_⟩;intro e;have:aZ (u:Int)=0:=(br u 0).2 e;omega
   ·rename_i hs
    have h0:bJ u=0:=by
     have:aZ (u:Int)=bJ u:=(br u _).2 rfl;omega
    have h1:=(bN _ _).1 h0;split at h
    ·cases hv:bq l (a+6) with
     | none=>rw [hv] at h;simp at h
     |some v =>
      rw [hv] at h;simp only at h;split at h
      ·simp only [Prod.mk.injEq] at h;refine ⟨65536+(u-55296)*1024+(v-56320),a+12,by omega,by omega,by omega,by have:=(gH hv).2;omega,?_⟩;intro e;have:=(bN _ _).1 e;omega
      ·simp at h
    ·simp at h
  |none =>
   rw [hu] at h;simp only at h;cases hc:l[a+1]? with
   | none=>rw [hc] at h;simp at h
   |some d =>
    rw [hc] at h;simp only at h;cases hx:aD d.toNat with
    | none=>rw [hx] at h;simp at h
    |some x =>
     rw [hx] at h;simp only [Prod.mk.injEq] at h;have:=(List.getElem?_eq_some_iff.1 hc).1;refine ⟨x,a+2,h.1.symm,by omega,by omega,by omega,?_⟩;intro e;have h1:=(bN _ _).1 e;have:=lU hx;omega
 ·split at h
  ·simp at h
  ·unfold ef at h;rw [if_neg (by omega),if_neg (by omega),Int.toNat_natCast] at h;split at h
   ·simp at h
   ·rename_i hne
    simp only [Prod.mk.injEq] at h;have h1:=kG (l.drop a);simp at h1;exact ⟨(ak (l.drop a)).1,a+(ak (l.drop a)).2,h.1.symm,by omega,by omega,by omega,qP hne⟩
def dg (l:List UInt8):Nat->Nat->List (Int × Int)
 | 0,_=>[]
 | k+1,a=>if a<l.length/\(qsS l a).2.2=0 then ((qsS l a).1,(qsS l a).2.1)::dg l k (qsS l a).2.1.toNat else []
def aC (l:List UInt8) (a:Nat):List (Int × Int):=dg l (l.length-a) a
theorem kT (l:List UInt8):∀ (k k' a:Nat),l.length-a<=k->l.length-a<=k'->dg l k a=dg l k' a
 | 0,0,_,_,_=>rfl
 |0,k'+1,a,h,_=>by
  rw [dg,dg,if_neg (by omega)]
 |k+1,0,a,_,h=>by
  rw [dg,dg,if_neg (by omega)]
 |k+1,k'+1,a,h,h'=>by
  rw [dg,dg];by_cases hc:a<l.length/\(qsS l a).2.2=0
  ·rw [if_pos hc,if_pos hc];obtain ⟨p,m,h1,h2,h3,h4,_⟩:=nR (c:=(qsS l a).1) (n:=(qsS l a).2.1) (by rw [← hc.2]) hc.1;rw [h2,Int.toNat_natCast,kT l k k' m (by omega) (by omega)]
  ·rw [if_neg hc,if_neg hc]
theorem fN {l:List UInt8} {a p m:Nat} (h:qsS l a=((p:Int),(m:Int),0)) (ha:a<l.length):aC l a=((p:Int),(m:Int))::aC l m:=by
 obtain ⟨p',m',h1,h2,h3,h4,_⟩:=nR h ha;unfold aC;obtain ⟨k,hk⟩:∃ k,l.length-a=k+1:=⟨l.length-a-1,by omega⟩
 rw [hk,dg,if_pos ⟨ha,by rw [h]⟩,h];simp only [Int.toNat_natCast];rw [kT l k (l.length-m) m (by omega) (Nat.le_refl _)]
theorem ex {l:List UInt8} {a:Nat} (h:a<l.length->(qsS l a).2.2≠0):aC l a=[]:=by
 unfold aC;cases hk:l.length-a with
 | zero=>rfl
 | succ k=>rw [dg,if_neg (λ hc=>h hc.1 hc.2)]
theorem GOK.keepOn {S:Nat->Prop} {w W:World} (h:GOK w) (k:aO S w W) (hS:∀ i,i<w.heap.size->S i):GOK W :=
 ⟨Nat.lt_of_lt_of_le h.lt k.1,by rw [← h.c0];exact World.cell?_of_block (w:=w) (k.2 _ (hS _ h.lt)),by rw [← h.c1];exact World.cell?_of_block (w:=w) (k.2 _ (hS _ h.lt))⟩
theorem Rd.keepOn {S:Nat->Prop} {w W:World} {A:Option Addr} {xs:List Value} (h:Rd w A xs) (k:aO S w W) (hS:∀ i,i<w.heap.size->S i):Rd W A xs:=λ hn=>by
 obtain ⟨b,o,e,hb,hx⟩:=h hn;exact ⟨b,o,e,Nat.lt_of_lt_of_le hb k.1,λ i hi=>by rw [← hx i hi];exact World.cell?_of_block (w:=w) (k.2 _ (hS _ hb))⟩
theorem tI (fn:Fn) (first cap:Array Value) (at_ end_:Int) (w:World) :
  Calls Tryz.prog 193 #[.func fn first cap,Zi Zq at_,Zi Zq end_] w λ e w'=>e=.returned (.func (.func 207) #[] #[Zp (some ⟨w.heap.size+1,0,none⟩),Zp (some ⟨w.heap.size+2,0,none⟩),Zp (some ⟨w.heap.size,0,none⟩)]) /\
   ((w.alloc (.cells #[.func fn first cap] 238)).alloc (.cells #[Zi Zq at_] 3)).alloc (.cells #[Zi Zq end_] 3)=w':=by
 have hmf:∀ (fn:Fn) (first cap:Array Value) (w:World),(Instr.makeFunc fn first cap).run Tryz.prog w=.ok (.func fn first cap) w:=λ _ _ _ _=>rfl
 go_enter Tryz.func193,Tryz.ntmps193;go_wp2;go_ret;exact ⟨rfl,rfl⟩
def wN (A:Option Addr) (n cap:Nat):Value:=.func (.func 194) #[.agg #[Zs A n cap]] #[]
def StS (Ba:Nat) (A B:World):Prop:=World.grownBy A B (some Ba)/\∀ q:Int,Blk A Ba 3 #[Zi Zq q]->∃ q':Int,Blk B Ba 3 #[Zi Zq q']
theorem StS.of_below {Ba:Nat} {A B:World} (h:Below A.heap.size A B):StS Ba A B:=⟨⟨h.os,h.tape,h.output,h.size,λ i hi _=>h.block i hi⟩,λ q hb=>⟨q,hb.keep h⟩⟩
def KpS (B0 Ba Be Bo:Nat):World->World->Prop:=aO λ k=>k<B0∨k=Ba∨k=Be∨k=Bo
theorem rK (w0:World) (Ba Be Bo:Nat) (A:Option Addr) (cap:Nat) (l:List UInt8) (a:Nat) (k:Nat) (J Jx:List (Int × Int)->World->Prop) (W:World) (hG:GOK w0) (hr:Rd w0 A (aq l)) (hcap:l.length<=cap) (hlen:l.length<=4194304)
  (ha0:a<=l.length) (hae:Ba≠Be) (hao:Ba≠Bo) (hB:w0.heap.size<=Ba) (hW:aO (· < w0.heap.size) w0 W)
  (hJ:∀ s A B,StS Ba A B->J s A->J s B)
  (hY:∀ pre x W1,J pre W1->pre++[x] <+: aC l a->YieldAt Fence.wide 1 Tryz.prog k #[Zi Zq x.1,Zi Zq x.2] W1 λ e W' =>
   (e=.returned (.bool true)/\J (pre++[x]) W'/\KpS w0.heap.size Ba Be Bo W1 W')∨(e=.returned (.bool false)/\Jx (pre++[x]) W'/\KpS w0.heap.size Ba Be Bo W1 W'))
  (hba:Blk W Ba 3 #[Zi Zq a]) (hbe:Blk W Be 3 #[Zi Zq l.length]) (hbo:Blk W Bo 238 #[wN A l.length cap]) (h0:J [] W) :
  CallsIn Fence.wide 2 Tryz.prog 207 #[.func (.yield k) #[] #[],Zp (some ⟨Ba,0,none⟩),Zp (some ⟨Be,0,none⟩),Zp (some ⟨Bo,0,none⟩)] W λ e W'=>(∃ v,e=.returned v) /\
   ((∃ xs,xs=aC l a/\J xs W')∨(∃ pre,pre <+: aC l a/\Jx pre W')):=by
 have HY:=aW hY;have HJ:=aW hJ;clear hY hJ;refine callsIn_of_wp Tryz.func207 rfl trivial ?_ rfl;simp only [Tryz.ntmps207,List.size_toArray,List.length_cons,List.length_nil,Nat.reduceAdd,Nat.reduceSub,Array.replicate_succ,Array.replicate_zero,List.push_toArray,List.append_toArray,List.nil_append,List.cons_append];gi_wp2
 gi_loopg [5] (l.length-a) (λ gk _ wr => ∃ (p:Nat) (pre:List (Int × Int)),p<=l.length/\gk=l.length-p/\aC l a=pre++aC l p/\J pre wr/\Blk wr Ba 3 #[Zi Zq p]/\Blk wr Be 3 #[Zi Zq l.length]/\Blk wr Bo 238 #[wN A l.length cap] /\
  aO (· < w0.heap.size) w0 wr)
 case atStart=>exact ⟨a,[],ha0,rfl,rfl,h0,hba,hbe,hbo,hW⟩
 case round =>
  obtain ⟨p,pre,hp,hgk,hpre,hJs,ba,be,bo,hK⟩:=hrel;clear hba hbe hbo h0 hW;obtain ⟨c1,f1,l1⟩:=ba.rules;obtain ⟨c2,f2,l2⟩:=be.rules;obtain ⟨c3,f3,l3⟩:=bo.rules;by_cases hlt:p<l.length
  ·have hs:=nS A cap l p wr (hG.keepOn hK (λ i h=>h)) (hr.keepOn hK (λ i h=>h)) hcap hlen hlt;obtain ⟨⟨c,n,er⟩,hr⟩:∃ r,qsS l p=r:=⟨_,rfl⟩
   rw [hr] at hs;have HS:=aW hs;have HR:=aW hr;have HP:=aW hpre;have HGK:=aW hgk;unfold wN at c3;clear hs hr hpre hgk;by_cases he:er=0
   ·subst he;obtain ⟨c',m,rfl,rfl,hpm,hml,hcl⟩:=nR HR.out hlt;have HC:=aW (fN HR.out hlt);gi_wp2;refine ⟨trivial,CallsIn.mono (callsIn_wide.2 HS.out) ?_⟩;rintro e w1 ⟨rfl,hb1⟩;have hgb:StS Ba wr w1:=StS.of_below hb1;have ba1:=ba.keep hb1;have be1:=be.keep hb1;have bo1:=bo.keep hb1;have hK1:=hK.trans (aO.of_below (S:=(· < w0.heap.size)) hb1 (λ k hk=>Nat.lt_of_lt_of_le hk hK.1));obtain ⟨fn,tmps,assign,body,hy,hR⟩:=HY.out pre ((c':Int),(m:Int)) w1 (HJ.out _ _ _ hgb hJs) (by rw [HP.out,HC.out];exact ⟨aC l m,by simp⟩);clear hgb hb1 c1 f1 l1 c2 f2 l2 c3 f3 l3;gi_wp2;refine hR.mono ?_;rintro e W3 (⟨rfl,hJ3,hk3⟩ | ⟨rfl,hJx3,hk3⟩)
    ·have ba3:=hk3.blk ba1 (.inr (.inl rfl));have be3:=hk3.blk be1 (.inr (.inr (.inl rfl)));have bo3:=hk3.blk bo1 (.inr (.inr (.inr rfl)));have hK3:aO (· < w0.heap.size) w0 W3:=hK1.trans ⟨hk3.1,λ i hi=>hk3.2 i (.inl hi)⟩;obtain ⟨c4,f4,l4⟩:=ba3.rules;gi_wp2
     gi_roundg (l.length-m)
     case measure=>rw [HGK.out];omega
     case rel=>exact ⟨m,pre++[((c':Int),(m:Int))],hml,rfl,by rw [HP.out,HC.out];simp,HJ.out _ _ _ ⟨aH (dw _ _) _ _,λ q h=>⟨m,h.set_ 0 _⟩⟩ hJ3,ba3.set_ 0 _,be3.far (by simpa using hae.symm) _,bo3.far (by simpa using hao.symm) _,
      hK3.trans (aO.of_below (B:=w0.heap.size) (((Below.refl w0.heap.size W3).setCell (p:=⟨Ba,0,none⟩) (by simpa using hB) _)) (λ k h=>h))⟩
    ·gi_wp2;refine bodyPost_ret (results_none rfl _ _ _) rfl ?_;exact ⟨⟨_,rfl⟩,.inr ⟨_,by rw [HP.out,HC.out];exact ⟨aC l m,by simp⟩,hJx3⟩⟩
   ·have HN:=aW (ex (l:=l) (a:=p) (λ _=>by rw [HR.out];exact he));gi_wp2;refine ⟨trivial,CallsIn.mono (callsIn_wide.2 HS.out) ?_⟩;rintro e w1 ⟨rfl,hb1⟩;have he':(er != 0)=true:=by simp;omega
    gi_wp2
    all_goals
     refine ⟨λ _ _=>trivial,?_⟩;gi_wp2;refine bodyPost_ret (results_none rfl _ _ _) rfl ?_;exact ⟨⟨_,rfl⟩,.inl ⟨_,rfl,by rw [HP.out,HN.out,List.append_nil];exact HJ.out _ _ _ (StS.of_below hb1) hJs⟩⟩
  ·have HN:=aW (ex (l:=l) (a:=p) (λ h=>absurd h hlt));have HP:=aW hpre;clear hpre hgk;obtain rfl:p=l.length:=by omega
   clear hlt;gi_wp2;go_end0;exact ⟨⟨_,rfl⟩,.inl ⟨_,rfl,by rw [HP.out,HN.out,List.append_nil];exact hJs⟩⟩
theorem tK (w0:World) (Ba Be Bo:Nat) (A:Option Addr) (cap:Nat) (l:List UInt8) (a:Nat) (w:World) (hG:GOK w0) (hr:Rd w0 A (aq l)) (hcap:l.length<=cap) (hlen:l.length<=4194304)
  (ha0:a<=l.length) (hae:Ba≠Be) (hao:Ba≠Bo) (hB:w0.heap.size<=Ba) (hW:aO (· < w0.heap.size) w0 w)
  (hba:Blk w Ba 3 #[Zi Zq a]) (hbe:Blk w Be 3 #[Zi Zq l.length]) (hbo:Blk w Bo 238 #[wN A l.length cap]) :
  ng Fence.wide 2 Tryz.prog 207 #[Zp (some ⟨Ba,0,none⟩),Zp (some ⟨Be,0,none⟩),Zp (some ⟨Bo,0,none⟩)] (λ x:Int × Int=>#[Value.int .i64 x.1,Zi Zq x.2])
   (StS Ba) (KpS w0.heap.size Ba Be Bo) (λ pre x=>pre++[x] <+: aC l a) (λ xs _=>xs=aC l a) (λ pre _=>pre <+: aC l a) w:=by
 intro k J Jx W hW2 hJ _ hY h0;exact rK w0 Ba Be Bo A cap l a k J Jx W hG hr hcap hlen ha0 hae hao hB (hW.trans (aO.of_below hW2 (λ i hi=>Nat.lt_of_lt_of_le hi hW.1))) hJ hY (hba.keep hW2) (hbe.keep hW2) (hbo.keep hW2) h0
theorem BS.conv {w:World} {v:Value} {l:List UInt8} (h:BS w v l):(convert 67 9 v).run Tryz.prog w=.ok (Zt ⟨l.toArray⟩) w:=by
 obtain ⟨A,cap,rfl,hc,hr⟩:=h;cases A with
 |none =>
  have hl:l=[]:=by
   cases l with
   | nil=>rfl
   | cons c r=>obtain ⟨b,o,e,_⟩:=hr (by simp [aq]);cases e
  subst hl;exact Lib.run_convert_nil_bytes w _ _ 5 cap (by simp [go_sem]) (by simp [go_sem]) (by simp [go_sem])
 |some a =>
  refine Go.run_convert_bytes_back w _ _ 5 a cap l (by simp [go_sem]) (by simp [go_sem]) (by simp [go_sem]) ?_;intro j hj;obtain ⟨b,o,e,_,hx⟩:=hr (by intro e;have:=av l;rw [e] at this;simp at this;omega);cases e
  have:=hx j (by rw [av];exact hj);have e2:(⟨b,o,none⟩:Addr).add j=⟨b,o+j,none⟩:=by simp [Addr.add]
  rw [e2];simpa [aq] using this
def bv (xs:List (Int × Int)):List UInt8:=xs.flatMap λ x=>ah x.1.toNat
def eW (a:Nat) (xs:List (Int × Int)):Nat:=match xs.getLast? with | some x=>x.2.toNat | none=>a
theorem jP (a:Nat) (xs:List (Int × Int)) (x:Int × Int):eW a (xs++[x])=x.2.toNat:=by simp [eW]
theorem ml (xs:List (Int × Int)) (x:Int × Int):bv (xs++[x])=bv xs++ah x.1.toNat:=by simp [bv]
theorem yC {l:List UInt8} {a:Nat} {c n:Int} (h:qsS l a=(c,n,0)) (ha:a<l.length):a+(ah c.toNat).length<=n.toNat:=by
 unfold qsS at h;rw [List.getElem?_eq_getElem ha] at h;simp only at h;split at h
 ·unfold j5 at h;cases hu:bq l a with
  |some u =>
   rw [hu] at h;simp only at h;split at h
   ·simp only [Prod.mk.injEq] at h;have:=eF c.toNat;omega
   ·split at h
    ·cases hv:bq l (a+6) with
     | none=>rw [hv] at h;simp at h
     |some v =>
      rw [hv] at h;simp only at h;split at h
      ·simp only [Prod.mk.injEq] at h;have:=eF c.toNat;omega
      ·simp at h
    ·simp at h
  |none =>
   rw [hu] at h;simp only at h;cases hc:l[a+1]? with
   | none=>rw [hc] at h;simp at h
   |some d =>
    rw [hc] at h;simp only at h;cases hx:aD d.toNat with
    | none=>rw [hx] at h;simp at h
    |some x =>
     rw [hx] at h;simp only [Prod.mk.injEq] at h;have h1:=lU hx;have h2:c.toNat=x:=by omega
     rw [h2];unfold ah;rw [if_pos h1];simp;omega
 ·split at h
  ·simp at h
  ·unfold ef at h;rw [if_neg (by omega),if_neg (by omega),Int.toNat_natCast] at h;split at h
   ·simp at h
   ·rename_i hne
    simp only [Prod.mk.injEq] at h;have h2:c.toNat=(ak (l.drop a)).1:=by omega
    rw [h2];have key:∀ n,bE (l.drop a) n=true->(ah (a5 (l.drop a) n)).length<=n:=λ n hn=>by
     rw [((d8 _ n).1 hn).2.2];simp;omega
    have:(ah (ak (l.drop a)).1).length<=(ak (l.drop a)).2:=by
     unfold ak at hne ⊢;split
     ·exact key _ ‹_›
     ·split
      ·exact key _ ‹_›
      ·split
       ·exact key _ ‹_›
       ·split
        ·exact key _ ‹_›
        ·simp_all
    omega
theorem iO {l:List UInt8}:∀ (k a:Nat) (pre:List (Int × Int)),l.length-a<=k->pre <+: aC l a->a<=l.length ->
  (∀ x ∈ pre,∃ p m:Nat,x=((p:Int),(m:Int))/\bJ p≠0)/\a+(bv pre).length<=eW a pre/\eW a pre<=l.length/\aC l a=pre++aC l (eW a pre)
 | k,a,[],_,_,ha=>⟨by simp,by simp [bv,eW],by simpa [eW] using ha,by simp [eW]⟩
 |k,a,x::pre,hk,hp,ha=>by
  by_cases hc:a<l.length/\(qsS l a).2.2=0
  ·obtain ⟨p,m,h1,h2,h3,h4,h5⟩:=nR (c:=(qsS l a).1) (n:=(qsS l a).2.1) (by rw [← hc.2]) hc.1;have hq:qsS l a=((p:Int),(m:Int),0):=by rw [← h1,← h2,← hc.2]
   have hlen:=yC hq hc.1;rw [fN hq hc.1] at hp ⊢;obtain ⟨rfl,hp'⟩:=List.cons_prefix_cons.1 hp
   match k,hk with
   | 0,hk=>omega
   |k+1,hk =>
    obtain ⟨g1,g2,g3,g4⟩:=iO k m pre (by omega) hp' h4;have he:eW a (((p:Int),(m:Int))::pre)=eW m pre:=by
     unfold eW;cases pre with
     | nil=>simp
     |cons y r =>
      rw [List.getLast?_cons_cons];cases h:(y::r).getLast? with
      | none=>simp at h
      | some z=>rfl
    rw [he];refine ⟨?_,?_,g3,congrArg (_ :: ·) g4⟩
    ·intro y hy;rcases List.mem_cons.1 hy with rfl | hy
     ·exact ⟨p,m,rfl,h5⟩
     ·exact g1 y hy
    ·simp only [bv,List.flatMap_cons,List.length_append,Int.toNat_natCast] at g2 hlen ⊢;omega
  ·rw [ex (λ h e=>hc ⟨h,e⟩)] at hp;simp at hp
def bZ (l:List UInt8) (a:Int):List UInt8 × Int × Int :=
 if a<0∨(l.length:Int)<a then ([],0,2) else if a=l.length then ([],a,6) else if l[a.toNat]? ≠ some 34 then ([],a,7)
 else if l[eW (a.toNat+1) (aC l (a.toNat+1))]? = some 34 then (bv (aC l (a.toNat+1)),eW (a.toNat+1) (aC l (a.toNat+1))+1,0)
 else ([],eW (a.toNat+1) (aC l (a.toNat+1)),(fM l (eW (a.toNat+1) (aC l (a.toNat+1)):Nat)).2.2)
def xw (r:List UInt8 × Int × Int) (w:World) (e:Ending) (w':World):Prop :=
 e=.returned (.tuple #[Zt ⟨r.1.toArray⟩,Zi Zq r.2.1,Zi Zq r.2.2])/\Below w.heap.size w w'
theorem ra (w Wr:World) (t1 t2 t3 t4 t5:TypeId) (v1 v2 v3 v4 v5:Value)
  (h:((((w.alloc (.cells #[v1] t1)).alloc (.cells #[v2] t2)).alloc (.cells #[v3] t3)).alloc (.cells #[v4] t4)).alloc (.cells #[v5] t5)=Wr) :
  Wr.heap.size=w.heap.size+5/\Below w.heap.size w Wr/\Blk Wr w.heap.size t1 #[v1]/\Blk Wr (w.heap.size+1) t2 #[v2]/\Blk Wr (w.heap.size+2) t3 #[v3]/\Blk Wr (w.heap.size+3) t4 #[v4]/\Blk Wr (w.heap.size+4) t5 #[v5]:=by
 subst h;have b2:=Blk.new (w.alloc (.cells #[v1] t1)) t2 #[v2];have b3:=Blk.new ((w.alloc (.cells #[v1] t1)).alloc (.cells #[v2] t2)) t3 #[v3];have b4:=Blk.new (((w.alloc (.cells #[v1] t1)).alloc (.cells #[v2] t2)).alloc (.cells #[v3] t3)) t4 #[v4];have b5:=Blk.new ((((w.alloc (.cells #[v1] t1)).alloc (.cells #[v2] t2)).alloc (.cells #[v3] t3)).alloc (.cells #[v4] t4)) t5 #[v5];simp only [World.size_alloc] at b2 b3 b4 b5;refine ⟨by simp [World.size_alloc],?_,((((Blk.new w t1 #[v1]).alloc _).alloc _).alloc _).alloc _,((b2.alloc _).alloc _).alloc _,(b3.alloc _).alloc _,b4.alloc _,b5⟩;exact (((((Below.refl _ w).alloc (Nat.le_refl _) _).alloc (by simp) _).alloc (by simp;omega) _).alloc (by simp;omega) _).alloc (by simp;omega) _
theorem ud {x:Int}:∀ (i:Nat) (c:Int),(#[Value.int .i64 x]:Array Value)[i]? = some (Value.int .u8 c)->False:=by
 intro i c h
 match i with
 | 0=>simp at h
 | i+1=>simp at h
theorem BS.grown1 {W W':World} {v:Value} {l:List UInt8} {g:Nat} {t:TypeId} {cs:Array Value} (h:BS W v l) (hb:Blk W g t cs) (hcs:∀ (i:Nat) (c:Int),cs[i]? = some (Value.int .u8 c)->False) (hg:World.grownBy W W' (some g)):BS W' v l:=by
 obtain ⟨A,cap,rfl,hc,hr⟩:=h;refine ⟨A,cap,rfl,hc,λ hn=>?_⟩;have hne:=hr.ne_blk hb hcs;obtain ⟨b,o,rfl,hlt,hx⟩:=hr hn;refine ⟨b,o,rfl,Nat.lt_of_lt_of_le hlt hg.size,λ i hi=>?_⟩;rw [← hx i hi];exact World.cell?_of_block (w:=W) (hg.block b hlt (by simpa using hne b o rfl hn))
theorem BS.putObj {W:World} {v:Value} {l:List UInt8} {k:Nat} {o:Obj} (o':Obj) (h:BS W v l) (ho:W.heap[k]? = some o) (hc:o.isCells=false):BS (W.putObj k o') v l:=by
 obtain ⟨A,cap,rfl,hcap,hr⟩:=h;exact ⟨A,cap,rfl,hcap,hr.putObj o' ho hc⟩
theorem zz {A:Option Addr} {n k:Nat}:∀ (i:Nat) (c:Int),(#[Value.slice A n k]:Array Value)[i]? = some (Value.int .u8 c)->False:=by
 intro i c h
 match i with
 | 0=>simp at h
 | i+1=>simp at h
theorem BS.setBlk {W:World} {v:Value} {l:List UInt8} {g:Nat} {t:TypeId} {cs:Array Value} (h:BS W v l) (hb:Blk W g t cs) (hcs:∀ (i:Nat) (c:Int),cs[i]? = some (Value.int .u8 c)->False) (i:Nat) (u:Value):BS (W.setCell ⟨g,i,none⟩ u) v l:=by
 obtain ⟨A,cap,rfl,hc,hr⟩:=h;exact ⟨A,cap,rfl,hc,hr.setCell (hr.ne_blk hb hcs) i u⟩
theorem KeepsFrom.below_ {B:Nat} {W W':World} (h:Below W.heap.size W W'):KeepsFrom B W W':=⟨h.size,λ k o _ ho _=>(h.block k (Array.getElem?_eq_some_iff.1 ho).1).trans ho⟩
theorem bO {B:Nat} {W W':World} {g:Nat} {t:TypeId} {cs:Array Value} (h:KeepsFrom B W W') (hb:Blk W' g t cs) (i:Nat) (u:Value):KeepsFrom B W (W'.setCell ⟨g,i,none⟩ u) :=
 ⟨by simpa [World.setCell] using h.1,λ k o hk ho hc=>by
  have h1:=h.2 k o hk ho hc;rw [← h1];refine Below.heap_setCell W' ⟨g,i,none⟩ u k ?_;rintro rfl;unfold Blk at hb;rw [hb] at h1;cases h1
  cases hc⟩
theorem xR (A:Option Addr) (cap:Nat) (l:List UInt8) (p:Nat) (w:World) (hr:Rd w A (aq l)) (hlen:l.length<=4194304) (hp:bJ p≠0) :
  Calls Tryz.prog 195 #[Zs A l.length cap,Zi Zq p] w λ e w' => ∃ v,e=.returned (.tuple #[v,Zi Zq 0])/\BS w' v (l++ah p)/\Below w.heap.size w w' :=
 (we A cap l p w hr hlen).mono λ e w' h=>by
  unfold oH at h;rwa [if_neg (show ¬ aZ (p:Int)=0 from λ e=>hp ((br p 0).1 e)),Int.toNat_natCast] at h
theorem vk (b o cap:Nat) (l:List UInt8) (n:Nat) (w:World) (hG:GOK w) (hr:Rd w (some ⟨b,o,none⟩) (aq l)) (hcap:l.length<=cap) (hlen:l.length<=4194304) (hn:l[n]? = some 34)
  (hb:b<w.heap.size) (hx:∀ i c,l[i]? = some c->w.cell? ⟨b,o+i,none⟩=some (Zi .u8 c.toNat)) :
  Calls Tryz.prog 169 #[Zs (some ⟨b,o,none⟩) l.length cap,Zi Zq n] w (xw (bZ l n) w):=by
 have hcell:w.cell? ⟨b,o+n,none⟩=some (Zi .u8 34):=hx n 34 hn;have hlt:n<l.length:=(List.getElem?_eq_some_iff.1 hn).1;have hmf:∀ (fn:Fn) (first cap:Array Value) (w:World),(Instr.makeFunc fn first cap).run Tryz.prog w=.ok (.func fn first cap) w:=λ _ _ _ _=>rfl
 have HX:=aW hx;have HN:=aW hn;have HG:=aW hG;clear hx hn hG;refine (callsIn_wide (n:=3)).1 ?_;refine callsIn_of_wp_marks Tryz.func169 rfl trivial ?_ rfl;simp only [Tryz.ntmps169,List.size_toArray,List.length_cons,List.length_nil,Nat.reduceAdd,Nat.reduceSub,Array.replicate_succ,Array.replicate_zero,List.push_toArray,List.append_toArray,List.nil_append,List.cons_append];refine wpIn_wide.2 ?_;go_wp2;go_step3;go_wp2;go_step3;go_wp2_with (go_at_call 193;refine (tI _ _ _ _ _ _).mono ?_;rintro e w' ⟨rfl,rfl⟩);rw [show w.heap.size+1+1+1=w.heap.size+3 from rfl,show w.heap.size+1+1+2=w.heap.size+4 from rfl,show w.heap.size+1+1=w.heap.size+2 from rfl];obtain ⟨Wr,hWr⟩:∃ Wr,((((w.alloc (.cells #[Zs none 0 0] 67)).alloc (.cells #[Zi Zq ((n:Int)+1)] 3)).alloc (.cells #[.func (.func 194) #[.agg #[Zs (some ⟨b,o,none⟩) l.length cap]] #[]] 238)).alloc (.cells #[Zi Zq ((n:Int)+1)] 3)).alloc (.cells #[Zi Zq l.length] 3)=Wr:=⟨_,rfl⟩
 have hwr:=ra w Wr _ _ _ _ _ _ _ _ _ _ hWr;rw [hWr];clear hWr;obtain ⟨hsr,hbelr,h37,hat,hbo,hba,hbe⟩:=hwr;have hspre:=λ pre hp=>iO (l:=l) (l.length-(n+1)) (n+1) pre (Nat.le_refl _) hp hlt
 refine (wpIn_wide (n:=3)).1 ?_;refine sQ rfl (by omega) (gf:=207) (lb:=#[Zp (some ⟨w.heap.size+3,0,none⟩),Zp (some ⟨w.heap.size+4,0,none⟩),Zp (some ⟨w.heap.size+2,0,none⟩)]) rfl trivial (enters_of Tryz.func207 (by kernel_rfl) rfl)
  (tK w (w.heap.size+3) (w.heap.size+4) (w.heap.size+2) (some ⟨b,o,none⟩) cap l (n+1) Wr HG.out hr hcap hlen hlt (by omega) (by omega) (by omega) (aO.of_below hbelr (λ _ h=>h)) hba hbe hbo) (Below.refl _ _) (λ _=>rfl)
  (λ A B k o hs hk ho _=>(hs.1.block k (Array.getElem?_eq_some_iff.1 ho).1 (by simp;omega)).trans ho)
  (λ h k=>h.trans k) (λ W k o o' hk _ _=>aO.putObj (N:=Wr.heap.size) (by intro j hj;omega) W k o' hk)
  (λ _ _ _ _ _ _ _ _ h=>h) (λ _ _ _ _ _ _ _ _ h=>h)
  (λ pre W => ∃ (v:Value) (q:Int),Blk W w.heap.size 67 #[v]/\BS W v (bv pre)/\Blk W (w.heap.size+1) 3 #[Zi Zq (eW (n+1) pre)]/\Blk W (w.heap.size+3) 3 #[Zi Zq q]/\Below w.heap.size w W/\w.heap.size+5<=W.heap.size)
  (λ _ _ _=>False) ?hIS (λ _ _ _ _ _ h=>h) ?hIp (λ _ _ _ _ _ _ _ _ _ h=>h) ?h0
  (λ x=>{ tmps:=#[Zs (some ⟨b,o,none⟩) l.length cap,Zi Zq n,undef,undef,Zt ⟨#[]⟩,Zi Zq 0,Zi Zq 0,Zp (some ⟨w.heap.size,0,none⟩),Zp (some ⟨w.heap.size+1,0,none⟩),Zi Zq x.1,Zi Zq x.2,undef,undef,undef,undef,undef,.bool (decide ((n:Int)<0)),Zi Zq n,.bool (decide ((n:Int)<0)),.bool (decide ((n:Int)<0)),Zi Zq n,Zs (some ⟨b,o,none⟩) l.length cap,Zi Zq l.length,.bool false,.bool (decide ((n:Int)<0)),.bool false,Zi Zq n,Zs (some ⟨b,o,none⟩) l.length cap,Zi Zq l.length,.bool false,undef,.bool false,Zs (some ⟨b,o,none⟩) l.length cap,Zi Zq n,Zp (some ⟨b,o+n,none⟩),Zi .u8 34,.bool false,undef,Zi Zq n,Zi Zq ((n:Int)+1),Zs (some ⟨b,o,none⟩) l.length cap,.agg #[Zs (some ⟨b,o,none⟩) l.length cap],.func (.func 194) #[.agg #[Zs (some ⟨b,o,none⟩) l.length cap]] #[],Zi Zq ((n:Int)+1),Zs (some ⟨b,o,none⟩) l.length cap,Zi Zq l.length,.func (.func 207) #[] #[Zp (some ⟨w.heap.size+3,0,none⟩),Zp (some ⟨w.heap.size+4,0,none⟩),Zp (some ⟨w.heap.size+2,0,none⟩)],Zi Zq x.1,Zi Zq x.2,undef,undef,undef,undef,undef,undef,undef,undef,undef,undef,undef,undef,undef,undef,undef,undef,undef,undef,undef,undef,undef,undef,undef,undef,undef,undef,undef,undef,undef,undef,undef,undef,undef,undef],defers:=[] }) ?assign ?body ?done ?stop
 case hIS =>
  rintro s A B hs ⟨v,q,h1,h2,h3,h4,h5,h6⟩;obtain ⟨q',h4'⟩:=hs.2 q h4;refine ⟨v,q',h1.grown hs.1 (by simp),?_,h3.grown hs.1 (by simp),h4',h5.trans ⟨hs.1.os,hs.1.tape,hs.1.output,hs.1.size,λ k hk=>hs.1.block k (by have:=h5.size;omega) (by simp;omega)⟩,Nat.le_trans h6 hs.1.size⟩;exact BS.grown1 h2 h4 ud hs.1
 case hIp =>
  rintro s W k o o' hk ho hc ⟨v,q,h1,h2,h3,h4,h5,h6⟩;exact ⟨v,q,h1.putObj o' ho hc,h2.putObj o' ho hc,h3.putObj o' ho hc,h4.putObj o' ho hc,bj h5 k o' (by omega),by simpa [World.putObj] using h6⟩
 case h0 =>
  intro o o';exact ⟨_,_,(h37.alloc o).alloc o',by simpa [bv] using BS.nil,by simpa [eW] using (hat.alloc o).alloc o',(hba.alloc o).alloc o',(hbelr.alloc hbelr.size o).alloc (by have:=hbelr.size;simp;omega) o',by simp;omega⟩
 case assign =>
  intro k x W K hK;gi_wp2;exact hK
 case body =>
  rintro k pre x W ⟨v,q,h1,h2,h3,h4,h5,h6⟩ hadm;obtain ⟨g1,g2,g3,_⟩:=hspre _ hadm;obtain ⟨p,m,rfl,hp⟩:=g1 _ (List.mem_append_right _ (List.mem_singleton.2 rfl));rw [jP,ml] at g2;rw [jP] at g3;simp only [Int.toNat_natCast,List.length_append] at g2 g3;obtain ⟨A',cap',rfl,hc',hr'⟩:=h2;have HP:=aW (xR A' cap' (bv pre) p W hr' (by omega) hp);have c1:=h1.cell 0;gi_wp2;refine ⟨trivial,CallsIn.mono (CallsIn.inRound k (callsIn_wide.2 HP.out)) ?_⟩;rintro e w1 ⟨v',rfl,hbs,hb1⟩;have k1:=h1.keep hb1;have k3:=h3.keep hb1;have k4:=h4.keep hb1;have f1:=k1.frozen 0;have f3:=k3.frozen 0;have e1:=k1.cell 0;have e3:=k3.cell 0;obtain ⟨A2,cap2,rfl,hc2,hr2⟩:=hbs;have hbs:BS w1 (.slice A2 (bv pre++ah p).length cap2) (bv pre++ah p):=⟨A2,cap2,rfl,hc2,hr2⟩
  have hbs2:=(hbs.setBlk k1 zz 0 (.slice A2 (bv pre++ah p).length cap2))
  have k1':=k1.set_ 0 (.slice A2 (bv pre++ah p).length cap2);have k3':=k3.far (p:=⟨w.heap.size,0,none⟩) (by simp) (.slice A2 (bv pre++ah p).length cap2);have k4':=k4.far (p:=⟨w.heap.size,0,none⟩) (by simp) (.slice A2 (bv pre++ah p).length cap2);have hbs3:=hbs2.setBlk k3' ud 0 (Zi Zq m);have k1'':=k1'.far (p:=⟨w.heap.size+1,0,none⟩) (by simp) (Zi Zq m);have k3'':=k3'.set_ 0 (Zi Zq m);have k4'':=k4'.far (p:=⟨w.heap.size+1,0,none⟩) (by simp) (Zi Zq m);have hkf:=bO (bO (KeepsFrom.below_ (B:=Wr.heap.size) hb1) k1 0 (.slice A2 (bv pre++ah p).length cap2)) k3' 0 (Zi Zq m);have hsz:=hb1.size;have hB3:Below w.heap.size w ((w1.setCell ⟨w.heap.size,0,none⟩ (.slice A2 (bv pre++ah p).length cap2)).setCell ⟨w.heap.size+1,0,none⟩ (Zi Zq m)) :=
   ((h5.trans (hb1.mono h5.size)).setCell (p:=⟨w.heap.size,0,none⟩) (by simp) _).setCell (p:=⟨w.heap.size+1,0,none⟩) (by simp) _
  have hkp:KpS w.heap.size (w.heap.size+3) (w.heap.size+4) (w.heap.size+2) W ((w1.setCell ⟨w.heap.size,0,none⟩ (.slice A2 (bv pre++ah p).length cap2)).setCell ⟨w.heap.size+1,0,none⟩ (Zi Zq m)) :=
   ⟨by simpa [World.setCell] using hsz,λ j hj=>by
    have hj2:j<W.heap.size:=by have:=h5.size;omega
    rw [Below.heap_setCell _ ⟨w.heap.size+1,0,none⟩ _ j (by simp;omega),Below.heap_setCell _ ⟨w.heap.size,0,none⟩ _ j (by simp;omega)];exact hb1.block j hj2⟩
  have hlen2:(bv pre++ah p).length=(bv pre).length+(ah p).length:=List.length_append;rw [hlen2] at hkf hkp hbs3 k1'' k3'' k4'' hB3;have HF:=aW (And.intro hkf (And.intro hkp (And.intro hbs3 (And.intro k1'' (And.intro k3'' (And.intro k4'' hB3))))));clear hkf hkp hbs3 k1'' k3'' k4'' hB3 hbs2 k1' k3' k4' hbs hr2 hr';gi_wp2;obtain ⟨hkf,hkp,hbs3,k1'',k3'',k4'',hB3⟩:=HF.out;exact ⟨hkf,hkp,_,q,k1'',by rw [ml,Int.toNat_natCast];exact hbs3,by rw [jP,Int.toNat_natCast];exact k3'',k4'',hB3,by simpa [World.setCell] using Nat.le_trans h6 hsz⟩
 case done =>
  rintro D xs W hD rfl ⟨v,q,h1,h2,h3,h4,h5,h6⟩ hK;obtain ⟨_,g2,g3,_⟩:=hspre _ (List.prefix_refl _);obtain ⟨m,hm⟩:∃ m,eW (n+1) (aC l (n+1))=m:=⟨_,rfl⟩
  obtain ⟨xs,hxs⟩:∃ xs,aC l (n+1)=xs:=⟨_,rfl⟩
  have hspec:bZ l n=if l[m]? = some 34 then (bv xs,(m:Int)+1,0) else ([],(m:Int),(fM l (m:Nat)).2.2):=by
   unfold bZ;rw [if_neg (by omega),if_neg (by omega),Int.toNat_natCast,if_neg (by rw [HN.out];simp),hm,hxs]
  rw [hm] at g2 g3 h3;rw [hxs] at h2;have HS:=aW hspec;clear hspec;have hconv:=λ j=>(h2.drewN j).conv
  obtain ⟨A2,cap2,rfl,hc2,hr2⟩:=h2;have c1:=h1.cell 0;have c3:=h3.cell 0;have hWb:∀ i c,l[i]? = some c->W.cell? ⟨b,o+i,none⟩=some (Zi .u8 c.toNat):=λ i c hi=>(h5.cell (p:=⟨b,o+i,none⟩) hb).trans (HX.out i c hi)
  by_cases h34:l[m]? = some 34
  ·have HS2:=aW (HS.out.trans (if_pos h34));have hcm:W.cell? ⟨b,o+m,none⟩=some (Zi .u8 34):=hWb m 34 h34;have hml:m<l.length:=(List.getElem?_eq_some_iff.1 h34).1;clear hWb hm hxs h34;go_wp2;go_quiet (fail);go_wp2;rw [Exit.noGoto_ret];refine ⟨by simp,.inl ⟨_,_,rfl,run_takeDeferred hK,?_⟩⟩;refine ⟨.tuple #[Zt ⟨(bv xs).toArray⟩,Zi Zq ((m:Int)+1),Zi Zq 0],by simp only [results,Tryz.results169];go_simp,?_⟩;rw [HS2.out];exact ⟨rfl,bj (aj h5 _) D _ (by have:=hbelr.size;omega)⟩
  ·have HS2:=aW (HS.out.trans (if_neg h34));have hsig:=ua (some ⟨b,o,none⟩) cap l (m:Nat) W (HG.out.below h5 HG.out.lt) (hr.below h5) hcap hlen;obtain ⟨⟨z1,z2,z3⟩,hz⟩:∃ z,fM l (m:Nat)=z:=⟨_,rfl⟩
   rw [hz] at hsig;have HZ:=aW hz;have HSG:=aW hsig;clear hsig hz;by_cases hml:m<l.length
   ·obtain ⟨c,hc⟩:∃ c,l[m]? = some c:=⟨_,List.getElem?_eq_getElem hml⟩
    have hcm:=hWb m c hc;have hne:((c.toNat:Int) == 34)=false:=by
     have:c.toNat≠34:=λ e=>h34 (by rw [hc];exact congrArg some (UInt8.toNat_inj.1 (by simpa using e)))
     simp;omega
    clear hWb hm hxs h34 hc;go_wp2_with (go_at_call 196;refine HSG.out.mono ?_;rintro e w1 ⟨rfl,hb1⟩;have c1':=(h1.keep hb1).cell 0;have c3':=(h3.keep hb1).cell 0);go_quiet (fail);go_wp2;rw [Exit.noGoto_ret];have hK1:w1.heap[D]? = some (.deferred (some [])):=(hb1.block D (Array.getElem?_eq_some_iff.1 hK).1).trans hK;refine ⟨by simp,.inl ⟨_,_,rfl,run_takeDeferred hK1,?_⟩⟩;refine ⟨.tuple #[Zt ⟨#[]⟩,Zi Zq (m:Int),Zi Zq z3],by simp only [results,Tryz.results169];go_simp,?_⟩;rw [HS2.out,HZ.out];exact ⟨rfl,bj (aj (h5.trans (hb1.mono h5.size)) _) D _ (by have:=hbelr.size;omega)⟩
   ·obtain rfl:m=l.length:=by omega
    clear hWb hm hxs h34 hml;go_wp2_with (go_at_call 196;refine HSG.out.mono ?_;rintro e w1 ⟨rfl,hb1⟩;have c1':=(h1.keep hb1).cell 0;have c3':=(h3.keep hb1).cell 0);go_quiet (fail);go_wp2;rw [Exit.noGoto_ret];have hK1:w1.heap[D]? = some (.deferred (some [])):=(hb1.block D (Array.getElem?_eq_some_iff.1 hK).1).trans hK;refine ⟨by simp,.inl ⟨_,_,rfl,run_takeDeferred hK1,?_⟩⟩;refine ⟨.tuple #[Zt ⟨#[]⟩,Zi Zq (l.length:Int),Zi Zq z3],by simp only [results,Tryz.results169];go_simp,?_⟩;rw [HS2.out,HZ.out];exact ⟨rfl,bj (aj (h5.trans (hb1.mono h5.size)) _) D _ (by have:=hbelr.size;omega)⟩
 case stop =>
  rintro D c pre W _ _ h _;exact h.elim
/-- THE CONTRACT OF quote.Read -/
theorem tB (v:Value) (l:List UInt8) (a:Int) (w:World) (hG:GOK w) (hv:BS w v l) (hlen:l.length<=4194304) :
  Calls Tryz.prog 169 #[v,Zi Zq a] w (xw (bZ l a) w):=by
 obtain ⟨A,cap,rfl,hcap,hr⟩:=hv;by_cases h0:a<0
 ·have HS:=aW (show bZ l a=([],0,2) by rw [bZ,if_pos (.inl h0)]);go_enter Tryz.func169,Tryz.ntmps169;go_wp2;go_step3;go_wp2;rw [Exit.noGoto_ret];go_returns;rw [HS.out];exact ⟨rfl,by go_grown⟩
 ·obtain ⟨n,rfl⟩:∃ n:Nat,a=n:=⟨a.toNat,by omega⟩
  clear h0;by_cases h1:(l.length:Int)<(n:Int)
  ·have HS:=aW (show bZ l n=([],0,2) by rw [bZ,if_pos (.inr h1)]);go_enter Tryz.func169,Tryz.ntmps169;go_wp2;go_step3;go_wp2;rw [Exit.noGoto_ret];go_returns;rw [HS.out];exact ⟨rfl,by go_grown⟩
  ·by_cases h2:n=l.length
   ·have HS:=aW (show bZ l n=([],(n:Int),6) by rw [bZ,if_neg (by omega),if_pos (by omega)]);subst h2;go_enter Tryz.func169,Tryz.ntmps169;go_wp2;go_step3;go_wp2;rw [Exit.noGoto_ret];go_returns;rw [HS.out];exact ⟨rfl,by go_grown⟩
   ·have hlt:n<l.length:=by omega
    obtain ⟨b,o,rfl,hb,hx⟩:=hr (by intro e;have h3:=av l;rw [e,List.length_nil] at h3;omega);have hby:∀ i c,l[i]? = some c->w.cell? ⟨b,o+i,none⟩=some (Zi .u8 c.toNat):=λ i c hi=>by
     obtain ⟨hlt,e⟩:=List.getElem?_eq_some_iff.1 hi;rw [hx i (by rw [av];exact hlt)];simp [aq,e]
    obtain ⟨c,hc⟩:∃ c,l[n]? = some c:=⟨_,List.getElem?_eq_getElem hlt⟩
    by_cases h34:c=34
    ·subst h34;exact vk b o cap l n w hG hr hcap hlen hc hb hby
    ·have hne:((c.toNat:Int) != 34)=true:=by
      have:c.toNat≠34:=λ e=>h34 (UInt8.toNat_inj.1 (by simpa using e))
      simp;omega
     have HS:=aW (show bZ l n=([],(n:Int),7) by rw [bZ,if_neg (by omega),if_neg (by omega),Int.toNat_natCast,if_pos (by rw [hc];simpa using h34)]);have hcm:=hby n c hc;clear hby hx hc h34;go_enter Tryz.func169,Tryz.ntmps169;go_wp2;go_step3;go_wp2;rw [Exit.noGoto_ret];go_returns;rw [HS.out];exact ⟨rfl,by go_grown⟩
end
end Go.Proofs.YtgmnmnnoahdjnaaGreatDoor
