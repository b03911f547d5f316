import Derived.Test.YtgmnmnnoahdjnaaGreatDoorH06
import Derived.Laws.EntriesVeiled
import Derived.StillTailTactics
open Go.Value renaming int → Zi, slice → Zs, string → Zt, pointer → Zp
open Go.IntKind renaming i64 → Zq
set_option maxRecDepth 100000
set_option maxHeartbeats 16000000
set_option linter.unusedVariables false
set_option linter.unusedSimpArgs false
namespace Go.Proofs.YtgmnmnnoahdjnaaGreatDoor
section
open Go.RowKit
attribute [local go_sem] ab ae af ac
def nZ:Value:=.agg #[Zi .u8 34,Zi .u8 34,Zi .u8 92,Zi .u8 92,Zi .u8 47,Zi .u8 47,Zi .u8 98,Zi .u8 8,Zi .u8 102,Zi .u8 12,Zi .u8 110,Zi .u8 10,Zi .u8 114,Zi .u8 13,Zi .u8 116,Zi .u8 9]
theorem n8 (w:World):Calls Tryz.prog 187 #[] w λ e w'=>e=.returned nZ/\Below w.heap.size w w':=by
 go_enter Tryz.func187,Tryz.ntmps187;go_wp2;go_returns;exact ⟨rfl,by go_grown⟩
theorem kZ (A:Option Addr) (cap:Nat) (l:List UInt8) (a:Nat) (w:World) (hr:Rd w A (aq l)) (hcap:l.length<=cap) (hlen:l.length<=4194304) (ha:a<=l.length) :
  Calls Tryz.prog 222 #[.agg #[Zs A l.length cap],Zi Zq a] w λ e w'=>e=.returned (Zi Zq (d9 l a))/\Below w.heap.size w w':=by
 by_cases h6:l.length<a+6
 ·have HU:=aW (show d9 l a = -1 by rw [d9,dY,if_pos (.inl h6)];rfl);go_enter Tryz.func222,Tryz.ntmps222;go_wp2;go_returns;exact ⟨gH HU.out.symm,by go_grown⟩
 ·obtain ⟨b,o,rfl,hb,hx⟩:=hr (by intro e;have h3:=aA l;rw [e,List.length_nil] at h3;omega);have hby:∀ i c,l[i]? = some c->w.cell? ⟨b,o+i,none⟩=some (Zi .u8 c.toNat):=λ i c hi=>by
   obtain ⟨hlt,e⟩:=List.getElem?_eq_some_iff.1 hi;rw [hx i (by rw [aA];exact hlt)];simp [aq,e]
  clear hx;obtain ⟨c0,hc0⟩:∃ c,l[a]? = some c:=⟨_,List.getElem?_eq_getElem (by omega)⟩
  obtain ⟨c1,hc1⟩:∃ c,l[a+1]? = some c:=⟨_,List.getElem?_eq_getElem (by omega)⟩
  have hm0:=hby a c0 hc0;have hm1:=hby (a+1) c1 hc1;have hwa:IntKind.i64.wrap ((a:Int)+1)=((a+1:Nat):Int):=by rw [IntKind.wrap_i64];omega
  by_cases h0:c0=92
  ·subst h0;by_cases h1:c1=117
   ·subst h1;have hmem:∃ m:List UInt8,(l.drop (a+2)).take 4=m:=⟨_,rfl⟩
    obtain ⟨m,hm⟩:=hmem;have hml:m.length=4:=by rw [← hm];simp;omega
    have HU:=aW (show d9 l a=xK (iC m 0) by
     rw [d9,dY,if_neg (λ h=>h.elim (λ h=>h6 h) (λ h=>h.elim (λ h=>h hc0) (λ h=>h hc1))),hm])
    have hmc:∀ k c,m[k]? = some c->w.cell? ⟨b,o+(a+2)+k,none⟩=some (Zi .u8 c.toNat):=λ k c hk=>by
     have:l[a+2+k]? = some c:=by
      rw [← hm,List.getElem?_take,List.getElem?_drop] at hk;split at hk
      ·exact hk
      ·cases hk
     rw [← hby _ _ this];simp [Nat.add_assoc]
    have HB:=aW hby;have HM:=aW hmc;clear hby hmc hm;have hm0':w.cell? ⟨b,o+a,none⟩=some (Zi .u8 92):=hm0;have hm1':w.cell? ⟨b,o+(a+1),none⟩=some (Zi .u8 117):=hm1;clear hm0 hm1;go_enter Tryz.func222,Tryz.ntmps222;go_wp2;rw [show a+6-(a+2)=4 from by omega];go_loopw [5,7,39] (λ s _ i wr => ∃ k n:Nat,k<=4/\i=Zi Zq k/\s=Zi Zq n/\n<16 ^ k/\iC (m.drop k) n=iC m 0/\∃ j,wr=(w.alloc (.cells #[Zs (some ⟨b,o,none⟩) l.length cap] 240)).drewN j) (λ _ _ i _=>4-(intOf i).toNat)
    case atStart=>exact ⟨0,0,by omega,rfl,rfl,by omega,rfl,0,rfl⟩
    case round =>
     obtain ⟨k,n,hk,rfl,rfl,hn,hh,j,rfl⟩:=hrel;have HH:=aW hh;clear hh;by_cases hk4:k<4
     ·obtain ⟨c,hc⟩:∃ c,m[k]? = some c:=⟨_,List.getElem?_eq_getElem (by omega)⟩
      have hcell:=HM.out k c hc;have hd:m.drop k=c::m.drop (k+1):=by
       obtain ⟨hlt,e⟩:=List.getElem?_eq_some_iff.1 hc;rw [List.drop_eq_getElem_cons hlt,e]
      have HH2:=aW (show iC (c::m.drop (k+1)) n=iC m 0 by rw [← hd];exact HH.out);clear hd hc;have hn4:n<4096:=Nat.lt_of_lt_of_le hn (Nat.pow_le_pow_right (by omega) (show k<=3 by omega));have h16:(16:Nat) ^ (k+1)=16 ^ k*16:=Nat.pow_succ _ _;have HN:=aW hn;have H16:=aW h16;clear hn h16;rcases (by omega:(48<=c.toNat/\c.toNat<=57)∨(97<=c.toNat/\c.toNat<=102)∨(65<=c.toNat/\c.toNat<=70)∨(¬ (48<=c.toNat/\c.toNat<=57)/\¬ (97<=c.toNat/\c.toNat<=102)/\¬ (65<=c.toNat/\c.toNat<=70))) with hc | hc | hc | hc
      ·have hv:jL c=some (c.toNat-48):=by unfold jL;rw [if_pos hc]
       have HV:=aW hv;clear hv;go_wp2;go_roundw
       case rel =>
        refine ⟨k+1,n*16+(c.toNat-48),by omega,by go_num,congrArg _ (by omega),?_,?_,j,rfl⟩
        ·have h1:=HN.out;have h2:=H16.out;omega
        ·rw [← HH2.out,iC,HV.out]
       case measure=>simp [intOf];omega
      ·have hv:jL c=some (c.toNat-97+10):=by unfold jL;rw [if_neg (by omega),if_pos hc]
       have HV:=aW hv;clear hv;go_wp2;go_roundw
       case rel =>
        refine ⟨k+1,n*16+(c.toNat-97+10),by omega,by go_num,congrArg _ (by omega),?_,?_,j,rfl⟩
        ·have h1:=HN.out;have h2:=H16.out;omega
        ·rw [← HH2.out,iC,HV.out]
       case measure=>simp [intOf];omega
      ·have hv:jL c=some (c.toNat-65+10):=by unfold jL;rw [if_neg (by omega),if_neg (by omega),if_pos hc]
       have HV:=aW hv;clear hv;go_wp2;go_roundw
       case rel =>
        refine ⟨k+1,n*16+(c.toNat-65+10),by omega,by go_num,congrArg _ (by omega),?_,?_,j,rfl⟩
        ·have h1:=HN.out;have h2:=H16.out;omega
        ·rw [← HH2.out,iC,HV.out]
       case measure=>simp [intOf];omega
      ·have hv:jL c=none:=by unfold jL;rw [if_neg hc.1,if_neg hc.2.1,if_neg hc.2.2]
       have HV:=aW hv;clear hv;have hU:d9 l a = -1:=by rw [HU.out,← HH2.out,iC,HV.out];rfl
       have HUU:=aW hU;clear hU;rcases (by omega:c.toNat<48∨(57<c.toNat/\c.toNat<65)∨(70<c.toNat/\c.toNat<97)∨102<c.toNat) with hd | hd | hd | hd
       all_goals
        clear hc;go_wp2;go_ret;exact ⟨gH HUU.out.symm,ah (by go_grown) _⟩
     ·obtain rfl:k=4:=by omega
      have hU:d9 l a=n:=by
       rw [HU.out,← HH.out,List.drop_eq_nil_of_le (by omega)];rfl
      have HUU:=aW hU;clear hU;go_wp2;go_returns;exact ⟨gH HUU.out.symm,ah (by go_grown) _⟩
   ·have HU:=aW (show d9 l a = -1 by rw [d9,dY,if_pos (.inr (.inr (by rw [hc1];simpa using h1)))];rfl);have hne:((c1.toNat:Int) != 117)=true:=by
     have:c1.toNat≠117:=λ e=>h1 (UInt8.toNat_inj.1 (by simpa using e))
     simp;omega
    have hm0':w.cell? ⟨b,o+a,none⟩=some (Zi .u8 92):=hm0;clear hm0 hby h1;go_enter Tryz.func222,Tryz.ntmps222;go_wp2;go_returns;exact ⟨gH HU.out.symm,by go_grown⟩
  ·have HU:=aW (show d9 l a = -1 by rw [d9,dY,if_pos (.inr (.inl (by rw [hc0];simpa using h0)))];rfl);have hne:((c0.toNat:Int) != 92)=true:=by
    have:c0.toNat≠92:=λ e=>h0 (UInt8.toNat_inj.1 (by simpa using e))
    simp;omega
   clear hby h0;go_enter Tryz.func222,Tryz.ntmps222;go_wp2;go_returns;exact ⟨gH HU.out.symm,by go_grown⟩
def dh (r:Int × Int × Int) (w:World) (e:Ending) (w':World):Prop :=
 e=.returned (.tuple #[Zi Zq r.1,Zi Zq r.2.1,Zi Zq r.2.2])/\Below w.heap.size w w'
theorem nE (A:Option Addr) (cap:Nat) (l:List UInt8) (a u:Nat) (w:World) (hr:Rd w A (aq l)) (hcap:l.length<=cap) (hlen:l.length<=4194304) (ha:a<=l.length) (hu:dY l a=some u) :
  Calls Tryz.prog 208 #[.agg #[Zs A l.length cap],Zi Zq a] w (dh (ll l a) w):=by
 have h1:=λ (w1:World) hr=>kZ A cap l a w1 hr hcap hlen ha
 have hlt:=iS hu;obtain ⟨x,hx⟩:∃ x:Int,(u:Int)=x:=⟨_,rfl⟩
 rw [show d9 l a=x from by unfold d9;rw [hu];exact hx] at h1;have H1:=aW h1;clear h1;have hx0:0<=x:=by omega
 unfold ll;rw [hu];have HU:=aW hu;clear hu;by_cases hc:u<55296∨57343<u
 ·have hs:0<aL u:=by
   unfold aL;rw [if_neg (by omega),Int.toNat_natCast];unfold br
   repeat' split
   all_goals omega
  show Calls _ _ _ _ (dh (if 0<aL (u:Int) then ((u:Int),(a:Int)+6,0) else _) w)
  rw [if_pos hs];rw [hx] at hs ⊢;have HC:=aW hc;have HX:=aW hx;clear hc hx;go_enter Tryz.func208,Tryz.ntmps208;go_wp2_with (first | (go_at_call 222;refine (H1.out _ (hr.alloc _)).mono ?_;rintro e w1 ⟨rfl,hb⟩;have hbw:=((Below.refl w.heap.size w).alloc (Nat.le_refl _) (.cells #[Zs A l.length cap] 240)).trans (hb.mono (by simp));have hblk:=(Blk.new w 240 #[Zs A l.length cap]).keep hb;obtain ⟨hq,_,_⟩:=hblk.rules) | (go_at_call 223;refine (nh _ _).mono ?_;rintro e w2 ⟨rfl,rfl⟩));go_returns;exact ⟨rfl,hbw⟩
 ·have hs:aL u=0:=by
   unfold aL;rw [if_neg (by omega),Int.toNat_natCast];unfold br;rw [if_pos (by omega)];rfl
  show Calls _ _ _ _ (dh (if 0<aL (u:Int) then ((u:Int),(a:Int)+6,0) else _) w)
  rw [if_neg (by omega)];have HC:=aW hc;have HX:=aW hx;rw [hx] at hs;have hz:=λ w:World=>nh x w
  rw [hs] at hz;have HZ:=aW hz;clear hz hs;by_cases hd:u<56320
  ·rw [if_pos hd];have h2:=λ (w1:World) hr=>kZ A cap l (a+6) w1 hr hcap hlen hlt.2
   unfold d9 at h2;clear hx;cases hv:dY l (a+6) with
   |none =>
    rw [hv] at h2;have H2:=aW (show ∀ w1,Rd w1 A (aq l)->Calls Tryz.prog 222 #[.agg #[Zs A l.length cap],Zi Zq ((a:Int)+6)] w1 λ e w'=>e=.returned (Zi Zq (-1))/\Below w1.heap.size w1 w' from h2);have HD:=aW hd;have HLT:=aW hlt;have hal:a+6<=l.length:=hlt.2;clear h2 hv hc hd hlt;go_enter Tryz.func208,Tryz.ntmps208;go_wp2_with (first | (go_at_call 222;refine (H2.out _ (hr.below hbw)).mono ?_;rintro e w3 ⟨rfl,hb3⟩) | (go_at_call 222;refine (H1.out _ (hr.alloc _)).mono ?_;rintro e w1 ⟨rfl,hb⟩;have hbw:=((Below.refl w.heap.size w).alloc (Nat.le_refl _) (.cells #[Zs A l.length cap] 240)).trans (hb.mono (by simp));have hblk:=(Blk.new w 240 #[Zs A l.length cap]).keep hb;obtain ⟨hq,_,_⟩:=hblk.rules) | (go_at_call 223;refine (HZ.out _).mono ?_;rintro e w2 ⟨rfl,rfl⟩))
    ·go_returns;exact ⟨rfl,hbw.trans (hb3.mono hbw.size)⟩
    ·exfalso;have h1:=HD.out;have h3:=HX.out;omega
   |some v =>
    rw [hv] at h2;have hvl:=(iS hv).1;obtain ⟨y,hy⟩:∃ y:Int,(v:Int)=y:=⟨_,rfl⟩
    have hy0:0<=y:=by omega
    have H2:=aW (show ∀ w1,Rd w1 A (aq l)->Calls Tryz.prog 222 #[.agg #[Zs A l.length cap],Zi Zq ((a:Int)+6)] w1 λ e w'=>e=.returned (Zi Zq y)/\Below w1.heap.size w1 w' from hy ▸ h2);have HY:=aW hy;clear h2 hv hy;by_cases hv:56320<=v/\v<=57343
    ·show Calls _ _ _ _ (dh (if 56320<=v/\v<=57343 then _ else _) w)
     rw [if_pos hv];have HD:=aW hd;have HLT:=aW hlt;have HV:=aW hv;have hal:a+6<=l.length:=hlt.2;have HL:=aW (show 55296<=u by omega);have HVL:=aW hvl;clear hc hd hlt hv hvl;go_enter Tryz.func208,Tryz.ntmps208;go_wp2_with (first | (go_at_call 222;refine (H2.out _ (hr.below hbw)).mono ?_;rintro e w3 ⟨rfl,hb3⟩) | (go_at_call 222;refine (H1.out _ (hr.alloc _)).mono ?_;rintro e w1 ⟨rfl,hb⟩;have hbw:=((Below.refl w.heap.size w).alloc (Nat.le_refl _) (.cells #[Zs A l.length cap] 240)).trans (hb.mono (by simp));have hblk:=(Blk.new w 240 #[Zs A l.length cap]).keep hb;obtain ⟨hq,_,_⟩:=hblk.rules) | (go_at_call 223;refine (HZ.out _).mono ?_;rintro e w2 ⟨rfl,rfl⟩))
     ·go_returns;refine ⟨?_,hbw.trans (hb3.mono hbw.size)⟩;rw [HX.out,HY.out];rfl
     all_goals
      exfalso;have h1:=HD.out;have h2:=HV.out;have h3:=HX.out;have h4:=HY.out;omega
    ·show Calls _ _ _ _ (dh (if 56320<=v/\v<=57343 then _ else _) w)
     rw [if_neg hv];have HD:=aW hd;have HLT:=aW hlt;have HV:=aW hv;have hal:a+6<=l.length:=hlt.2;clear hc hd hlt hv hvl
     skip
     ·skip
      go_enter Tryz.func208,Tryz.ntmps208;go_wp2_with (first | (go_at_call 222;refine (H2.out _ (hr.below hbw)).mono ?_;rintro e w3 ⟨rfl,hb3⟩) | (go_at_call 222;refine (H1.out _ (hr.alloc _)).mono ?_;rintro e w1 ⟨rfl,hb⟩;have hbw:=((Below.refl w.heap.size w).alloc (Nat.le_refl _) (.cells #[Zs A l.length cap] 240)).trans (hb.mono (by simp));have hblk:=(Blk.new w 240 #[Zs A l.length cap]).keep hb;obtain ⟨hq,_,_⟩:=hblk.rules) | (go_at_call 223;refine (HZ.out _).mono ?_;rintro e w2 ⟨rfl,rfl⟩))
      all_goals
       first
       | (exfalso;have h1:=HD.out;have h2:=HV.out;have h3:=HX.out;have h4:=HY.out;omega)
       | (go_returns;exact ⟨rfl,hbw.trans (hb3.mono hbw.size)⟩)
  ·rw [if_neg hd];have HD:=aW hd;have HLT:=aW hlt;have hal:a+6<=l.length:=hlt.2;clear hc hd hlt hx;go_enter Tryz.func208,Tryz.ntmps208;go_wp2_with (first | (go_at_call 222;exfalso;have h1:=HD.out;have h3:=HX.out;omega) | (go_at_call 222;refine (H1.out _ (hr.alloc _)).mono ?_;rintro e w1 ⟨rfl,hb⟩;have hbw:=((Below.refl w.heap.size w).alloc (Nat.le_refl _) (.cells #[Zs A l.length cap] 240)).trans (hb.mono (by simp));have hblk:=(Blk.new w 240 #[Zs A l.length cap]).keep hb;obtain ⟨hq,_,_⟩:=hblk.rules) | (go_at_call 223;refine (HZ.out _).mono ?_;rintro e w2 ⟨rfl,rfl⟩));go_returns;exact ⟨rfl,hbw⟩
def bg (c k:Nat):Prop:=(1<=k->c≠34)/\(2<=k->c≠92)/\(3<=k->c≠47)/\(4<=k->c≠98)/\(5<=k->c≠102)/\(6<=k->c≠110)/\(7<=k->c≠114)/\(8<=k->c≠116)
theorem pm {c:Nat} (h:bg c 8):aQ c=none:=by
 simp only [bg] at h;unfold aQ;rw [if_neg (by omega)];rw [if_neg (by omega)];rw [if_neg (by omega)];rw [if_neg (by omega)];rw [if_neg (by omega)];rw [if_neg (by omega)];rw [if_neg (by omega)];rw [if_neg (by omega)]
theorem nD (A:Option Addr) (cap:Nat) (l:List UInt8) (a:Nat) (w:World) (hr:Rd w A (aq l)) (hcap:l.length<=cap) (hlen:l.length<=4194304) (ha:a<=l.length) (hu:dY l a=none) :
  Calls Tryz.prog 208 #[.agg #[Zs A l.length cap],Zi Zq a] w (dh (ll l a) w):=by
 have h1:=λ (w1:World) hr=>kZ A cap l a w1 hr hcap hlen ha
 rw [show d9 l a = -1 from by unfold d9;rw [hu];rfl] at h1;have H1:=aW h1;clear h1;unfold ll;rw [hu];clear hu;show Calls _ _ _ _ (dh (match l[a+1]? with | some c=>(match aQ c.toNat with | some x=>((x:Int),(a:Int)+2,0) | none=>(0,0,7)) | none=>(0,0,7)) w)
 have hwa:IntKind.i64.wrap ((a:Int)+1)=((a+1:Nat):Int):=by rw [IntKind.wrap_i64];omega
 cases hc:l[a+1]? with
 |none =>
  have hle:l.length<=a+1:=List.getElem?_eq_none_iff.1 hc;clear hc;go_enter Tryz.func208,Tryz.ntmps208;go_wp2_with (go_at_call 222;refine (H1.out _ (hr.alloc _)).mono ?_;rintro e w1 ⟨rfl,hb⟩;have hbw:=((Below.refl w.heap.size w).alloc (Nat.le_refl _) (.cells #[Zs A l.length cap] 240)).trans (hb.mono (by simp));have hblk:=(Blk.new w 240 #[Zs A l.length cap]).keep hb;obtain ⟨hq,_,_⟩:=hblk.rules);go_returns;exact ⟨rfl,hbw⟩
 |some c =>
  obtain ⟨hlt,hce⟩:=List.getElem?_eq_some_iff.1 hc;obtain ⟨b,o,rfl,hb,hx⟩:=hr (by intro e;have h3:=aA l;rw [e,List.length_nil] at h3;omega);have hcell:w.cell? ⟨b,o+(a+1),none⟩=some (Zi .u8 c.toNat):=by
   rw [hx (a+1) (by rw [aA];exact hlt)];simp [aq,hce]
  clear hx hc hce;show Calls _ _ _ _ (dh (match aQ c.toNat with | some x=>((x:Int),(a:Int)+2,0) | none=>(0,0,7)) w)
  obtain ⟨r,hr2⟩:∃ r:Int × Int × Int,(match aQ c.toNat with | some x=>((x:Int),(a:Int)+2,0) | none=>(0,0,7))=r:=⟨_,rfl⟩
  rw [hr2];have hc256:=c.toNat_lt;obtain ⟨q,hq⟩:∃ q,c.toNat=q:=⟨_,rfl⟩
  rw [hq] at hcell hc256 hr2;have HR:=aW hr2;clear hq hr2;go_enter Tryz.func208,Tryz.ntmps208;go_wp2_with (first | (go_at_call 222;refine (H1.out _ (hr.alloc _)).mono ?_;rintro e w1 ⟨rfl,hb1⟩;have hbw:=((Below.refl w.heap.size w).alloc (Nat.le_refl _) (.cells #[Zs (some ⟨b,o,none⟩) l.length cap] 240)).trans (hb1.mono (by simp));have hblk:=(Blk.new w 240 #[Zs (some ⟨b,o,none⟩) l.length cap]).keep hb1;obtain ⟨hq,_,_⟩:=hblk.rules) | (go_at_call 187;refine (n8 _).mono ?_;rintro e w2 ⟨rfl,hb2⟩));go_loopw [10,53] (λ _ i wr => ∃ k:Nat,k<=8/\i=Zi Zq k/\Blk wr w.heap.size 240 #[Zs (some ⟨b,o,none⟩) l.length cap]/\Below w.heap.size w wr/\bg q k) (λ _ i _=>8-(intOf i).toNat)
  case atStart =>
   exact ⟨0,by omega,rfl,hblk.keep hb2,hbw.trans (hb2.mono hbw.size),by simp [bg]⟩
  case round =>
   obtain ⟨k,hk,rfl,b1,hbr,hno⟩:=hrel;have hbw2:=Nat.lt_of_lt_of_le hb hbr.size;have hcw:=(hbr.cell (p:=⟨b,o+(a+1),none⟩) hb).trans hcell;obtain ⟨hq2,_,_⟩:=b1.rules;have HN:=aW hno;have HOLD:=aW hcell;have HQ:=aW hq;clear hno hcell hq hbw hblk;unfold nZ;rcases (by omega:k=0∨k=1∨k=2∨k=3∨k=4∨k=5∨k=6∨k=7∨k=8) with rfl | rfl | rfl | rfl | rfl | rfl | rfl | rfl | rfl
   ·go_wp2;go_quiet (fail);go_wp2
    ·have hh:q=34:=by
      have h:=‹((34:Int) == (q:Int))=true›;simp at h;omega
     go_returns;have hs:aQ q=some 34:=by
      have hno:=HN.out;simp only [bg] at hno;unfold aQ;rw [if_pos hh]
     have h:=HR.out;rw [hs] at h;rw [← h];exact ⟨rfl,(by repeat (first | exact hbr | apply ah | (refine Below.setCell ?_ (by first | (simp;done) | (simp;omega) | omega) _) | (refine Below.alloc ?_ (by first | (simp;done) | (simp;omega) | omega) _)))⟩
    ·have hh:q≠34:=by
      have h:=‹((34:Int) == (q:Int))=false›;simp at h;omega
     go_roundw
     case rel=>exact ⟨1,by omega,rfl,(b1.alloc _).drewN _,(by repeat (first | exact hbr | apply ah | (refine Below.setCell ?_ (by first | (simp;done) | (simp;omega) | omega) _) | (refine Below.alloc ?_ (by first | (simp;done) | (simp;omega) | omega) _))),by have hno:=HN.out;simp only [bg] at hno ⊢;omega⟩
     case measure=>simp [intOf]
   ·go_wp2;go_quiet (fail);go_wp2
    ·have hh:q=92:=by
      have h:=‹((92:Int) == (q:Int))=true›;simp at h;omega
     go_returns;have hs:aQ q=some 92:=by
      have hno:=HN.out;simp only [bg] at hno;unfold aQ;rw [if_neg (by omega)];rw [if_pos hh]
     have h:=HR.out;rw [hs] at h;rw [← h];exact ⟨rfl,(by repeat (first | exact hbr | apply ah | (refine Below.setCell ?_ (by first | (simp;done) | (simp;omega) | omega) _) | (refine Below.alloc ?_ (by first | (simp;done) | (simp;omega) | omega) _)))⟩
    ·have hh:q≠92:=by
      have h:=‹((92:Int) == (q:Int))=false›;simp at h;omega
     go_roundw
     case rel=>exact ⟨2,by omega,rfl,(b1.alloc _).drewN _,(by repeat (first | exact hbr | apply ah | (refine Below.setCell ?_ (by first | (simp;done) | (simp;omega) | omega) _) | (refine Below.alloc ?_ (by first | (simp;done) | (simp;omega) | omega) _))),by have hno:=HN.out;simp only [bg] at hno ⊢;omega⟩
     case measure=>simp [intOf]
   ·go_wp2;go_quiet (fail);go_wp2
    ·have hh:q=47:=by
      have h:=‹((47:Int) == (q:Int))=true›;simp at h;omega
     go_returns;have hs:aQ q=some 47:=by
      have hno:=HN.out;simp only [bg] at hno;unfold aQ;rw [if_neg (by omega)];rw [if_neg (by omega)];rw [if_pos hh]
     have h:=HR.out;rw [hs] at h;rw [← h];exact ⟨rfl,(by repeat (first | exact hbr | apply ah | (refine Below.setCell ?_ (by first | (simp;done) | (simp;omega) | omega) _) | (refine Below.alloc ?_ (by first | (simp;done) | (simp;omega) | omega) _)))⟩
    ·have hh:q≠47:=by
      have h:=‹((47:Int) == (q:Int))=false›;simp at h;omega
     go_roundw
     case rel=>exact ⟨3,by omega,rfl,(b1.alloc _).drewN _,(by repeat (first | exact hbr | apply ah | (refine Below.setCell ?_ (by first | (simp;done) | (simp;omega) | omega) _) | (refine Below.alloc ?_ (by first | (simp;done) | (simp;omega) | omega) _))),by have hno:=HN.out;simp only [bg] at hno ⊢;omega⟩
     case measure=>simp [intOf]
   ·go_wp2;go_quiet (fail);go_wp2
    ·have hh:q=98:=by
      have h:=‹((98:Int) == (q:Int))=true›;simp at h;omega
     go_returns;have hs:aQ q=some 8:=by
      have hno:=HN.out;simp only [bg] at hno;unfold aQ;rw [if_neg (by omega)];rw [if_neg (by omega)];rw [if_neg (by omega)];rw [if_pos hh]
     have h:=HR.out;rw [hs] at h;rw [← h];exact ⟨rfl,(by repeat (first | exact hbr | apply ah | (refine Below.setCell ?_ (by first | (simp;done) | (simp;omega) | omega) _) | (refine Below.alloc ?_ (by first | (simp;done) | (simp;omega) | omega) _)))⟩
    ·have hh:q≠98:=by
      have h:=‹((98:Int) == (q:Int))=false›;simp at h;omega
     go_roundw
     case rel=>exact ⟨4,by omega,rfl,(b1.alloc _).drewN _,(by repeat (first | exact hbr | apply ah | (refine Below.setCell ?_ (by first | (simp;done) | (simp;omega) | omega) _) | (refine Below.alloc ?_ (by first | (simp;done) | (simp;omega) | omega) _))),by have hno:=HN.out;simp only [bg] at hno ⊢;omega⟩
     case measure=>simp [intOf]
   ·go_wp2;go_quiet (fail);go_wp2
    ·have hh:q=102:=by
      have h:=‹((102:Int) == (q:Int))=true›;simp at h;omega
     go_returns;have hs:aQ q=some 12:=by
      have hno:=HN.out;simp only [bg] at hno;unfold aQ;rw [if_neg (by omega)];rw [if_neg (by omega)];rw [if_neg (by omega)];rw [if_neg (by omega)];rw [if_pos hh]
     have h:=HR.out;rw [hs] at h;rw [← h];exact ⟨rfl,(by repeat (first | exact hbr | apply ah | (refine Below.setCell ?_ (by first | (simp;done) | (simp;omega) | omega) _) | (refine Below.alloc ?_ (by first | (simp;done) | (simp;omega) | omega) _)))⟩
    ·have hh:q≠102:=by
      have h:=‹((102:Int) == (q:Int))=false›;simp at h;omega
     go_roundw
     case rel=>exact ⟨5,by omega,rfl,(b1.alloc _).drewN _,(by repeat (first | exact hbr | apply ah | (refine Below.setCell ?_ (by first | (simp;done) | (simp;omega) | omega) _) | (refine Below.alloc ?_ (by first | (simp;done) | (simp;omega) | omega) _))),by have hno:=HN.out;simp only [bg] at hno ⊢;omega⟩
     case measure=>simp [intOf]
   ·go_wp2;go_quiet (fail);go_wp2
    ·have hh:q=110:=by
      have h:=‹((110:Int) == (q:Int))=true›;simp at h;omega
     go_returns;have hs:aQ q=some 10:=by
      have hno:=HN.out;simp only [bg] at hno;unfold aQ;rw [if_neg (by omega)];rw [if_neg (by omega)];rw [if_neg (by omega)];rw [if_neg (by omega)];rw [if_neg (by omega)];rw [if_pos hh]
     have h:=HR.out;rw [hs] at h;rw [← h];exact ⟨rfl,(by repeat (first | exact hbr | apply ah | (refine Below.setCell ?_ (by first | (simp;done) | (simp;omega) | omega) _) | (refine Below.alloc ?_ (by first | (simp;done) | (simp;omega) | omega) _)))⟩
    ·have hh:q≠110:=by
      have h:=‹((110:Int) == (q:Int))=false›;simp at h;omega
     go_roundw
     case rel=>exact ⟨6,by omega,rfl,(b1.alloc _).drewN _,(by repeat (first | exact hbr | apply ah | (refine Below.setCell ?_ (by first | (simp;done) | (simp;omega) | omega) _) | (refine Below.alloc ?_ (by first | (simp;done) | (simp;omega) | omega) _))),by have hno:=HN.out;simp only [bg] at hno ⊢;omega⟩
     case measure=>simp [intOf]
   ·go_wp2;go_quiet (fail);go_wp2
    ·have hh:q=114:=by
      have h:=‹((114:Int) == (q:Int))=true›;simp at h;omega
     go_returns;have hs:aQ q=some 13:=by
      have hno:=HN.out;simp only [bg] at hno;unfold aQ;rw [if_neg (by omega)];rw [if_neg (by omega)];rw [if_neg (by omega)];rw [if_neg (by omega)];rw [if_neg (by omega)];rw [if_neg (by omega)];rw [if_pos hh]
     have h:=HR.out;rw [hs] at h;rw [← h];exact ⟨rfl,(by repeat (first | exact hbr | apply ah | (refine Below.setCell ?_ (by first | (simp;done) | (simp;omega) | omega) _) | (refine Below.alloc ?_ (by first | (simp;done) | (simp;omega) | omega) _)))⟩
    ·have hh:q≠114:=by
      have h:=‹((114:Int) == (q:Int))=false›;simp at h;omega
     go_roundw
     case rel=>exact ⟨7,by omega,rfl,(b1.alloc _).drewN _,(by repeat (first | exact hbr | apply ah | (refine Below.setCell ?_ (by first | (simp;done) | (simp;omega) | omega) _) | (refine Below.alloc ?_ (by first | (simp;done) | (simp;omega) | omega) _))),by have hno:=HN.out;simp only [bg] at hno ⊢;omega⟩
     case measure=>simp [intOf]
   ·go_wp2;go_quiet (fail);go_wp2
    ·have hh:q=116:=by
      have h:=‹((116:Int) == (q:Int))=true›;simp at h;omega
     go_returns;have hs:aQ q=some 9:=by
      have hno:=HN.out;simp only [bg] at hno;unfold aQ;rw [if_neg (by omega)];rw [if_neg (by omega)];rw [if_neg (by omega)];rw [if_neg (by omega)];rw [if_neg (by omega)];rw [if_neg (by omega)];rw [if_neg (by omega)];rw [if_pos hh]
     have h:=HR.out;rw [hs] at h;rw [← h];exact ⟨rfl,(by repeat (first | exact hbr | apply ah | (refine Below.setCell ?_ (by first | (simp;done) | (simp;omega) | omega) _) | (refine Below.alloc ?_ (by first | (simp;done) | (simp;omega) | omega) _)))⟩
    ·have hh:q≠116:=by
      have h:=‹((116:Int) == (q:Int))=false›;simp at h;omega
     go_roundw
     case rel=>exact ⟨8,by omega,rfl,(b1.alloc _).drewN _,(by repeat (first | exact hbr | apply ah | (refine Below.setCell ?_ (by first | (simp;done) | (simp;omega) | omega) _) | (refine Below.alloc ?_ (by first | (simp;done) | (simp;omega) | omega) _))),by have hno:=HN.out;simp only [bg] at hno ⊢;omega⟩
     case measure=>simp [intOf]
   ·go_wp2;go_returns;have h:=HR.out;rw [pm HN.out] at h;rw [← h];exact ⟨rfl,hbr⟩
theorem pc (A:Option Addr) (cap:Nat) (l:List UInt8) (a:Nat) (w:World) (hr:Rd w A (aq l)) (hcap:l.length<=cap) (hlen:l.length<=4194304) (ha:a<=l.length) :
  Calls Tryz.prog 208 #[.agg #[Zs A l.length cap],Zi Zq a] w (dh (ll l a) w):=by
 cases hu:dY l a with
 | none=>exact nD A cap l a w hr hcap hlen ha hu
 | some u=>exact nE A cap l a u w hr hcap hlen ha hu
def qsS (l:List UInt8) (a:Nat):Int × Int × Int :=
 match l[a]? with
 | some c=>if c.toNat=92 then ll l a else if c.toNat<32∨c.toNat=34 then (0,0,7) else d5 l a
 | none=>(0,0,0)
theorem lT (A:Option Addr) (cap:Nat) (l:List UInt8) (a:Nat) (w:World) (hG:GOK w) (hr:Rd w A (aq l)) (hcap:l.length<=cap) (hlen:l.length<=4194304) (ha:a<l.length) :
  Calls Tryz.prog 194 #[.agg #[Zs A l.length cap],Zi Zq a] w (dh (qsS l a) w):=by
 have h1:=λ (w1:World) hr=>pc A cap l a w1 hr hcap hlen (Nat.le_of_lt ha)
 have h2:=λ (w1:World) hg hr=>rV A cap l a w1 hg hr hcap hlen
 obtain ⟨c,hc⟩:∃ c,l[a]? = some c:=⟨_,List.getElem?_eq_getElem ha⟩
 have hq:qsS l a=if c.toNat=92 then ll l a else if c.toNat<32∨c.toNat=34 then (0,0,7) else d5 l a:=by rw [qsS,hc]
 obtain ⟨b,o,rfl,hb,hx⟩:=hr (by intro e;have h3:=aA l;rw [e,List.length_nil] at h3;omega);obtain ⟨hlt,hce⟩:=List.getElem?_eq_some_iff.1 hc;have hcell:w.cell? ⟨b,o+a,none⟩=some (Zi .u8 c.toNat):=by
  rw [hx a (by rw [aA];exact hlt)];simp [aq,hce]
 obtain ⟨q,hqc⟩:∃ q,c.toNat=q:=⟨_,rfl⟩
 rw [hqc] at hcell hq;rw [hq];clear hx hce hc hqc hq;obtain ⟨r1,hr1⟩:∃ r,ll l a=r:=⟨_,rfl⟩
 obtain ⟨r2,hr2⟩:∃ r,d5 l a=r:=⟨_,rfl⟩
 rw [hr1] at h1 ⊢;rw [hr2] at h2 ⊢;have H1:=aW h1;have H2:=aW h2;have HG:=aW hG;clear h1 h2 hr1 hr2 hG;by_cases h92:q=92
 ·rw [if_pos h92];subst h92;go_enter Tryz.func194,Tryz.ntmps194;go_wp2_with (go_at_call 208;refine (H1.out _ (hr.alloc _)).mono ?_;rintro e w1 ⟨rfl,hb1⟩);go_returns;exact ⟨rfl,((Below.refl w.heap.size w).alloc (Nat.le_refl _) _).trans (hb1.mono (by simp))⟩
 ·rw [if_neg h92];have n92:((q:Int) == 92)=false:=by simp;omega
  by_cases h34:q=34
  ·rw [if_pos (.inr h34)];subst h34;go_enter Tryz.func194,Tryz.ntmps194;go_wp2;go_returns;exact ⟨rfl,by go_grown⟩
  ·by_cases h32:q<32
   ·rw [if_pos (.inl h32)];go_enter Tryz.func194,Tryz.ntmps194;go_wp2;go_returns;exact ⟨rfl,by go_grown⟩
   ·rw [if_neg (by omega)];have n34:((q:Int) == 34)=false:=by simp;omega
    go_enter Tryz.func194,Tryz.ntmps194;go_wp2_with (go_at_call 209;refine (H2.out _ (HG.out.alloc _) (hr.alloc _)).mono ?_;rintro e w1 ⟨rfl,hb1⟩);go_returns;exact ⟨rfl,((Below.refl w.heap.size w).alloc (Nat.le_refl _) _).trans (hb1.mono (by simp))⟩
def jD (l:List UInt8) (a:Int):Int × Int × Int :=
 if a<0∨(l.length:Int)<a then (0,0,2) else if a=l.length then (0,0,6) else qsS l a.toNat
theorem rZ (A:Option Addr) (cap:Nat) (l:List UInt8) (a:Int) (w:World) (hG:GOK w) (hr:Rd w A (aq l)) (hcap:l.length<=cap) (hlen:l.length<=4194304) :
  Calls Tryz.prog 196 #[Zs A l.length cap,Zi Zq a] w (dh (jD l a) w):=by
 by_cases h0:a<0
 ·rw [jD,if_pos (.inl h0)];go_enter Tryz.func196,Tryz.ntmps196;go_wp2;go_returns;exact ⟨rfl,by go_grown⟩
 ·obtain ⟨n,rfl⟩:∃ n:Nat,a=n:=⟨a.toNat,by omega⟩
  by_cases h1:(l.length:Int)<(n:Int)
  ·rw [jD,if_pos (.inr h1)];clear h0;go_enter Tryz.func196,Tryz.ntmps196;go_wp2;go_returns;exact ⟨rfl,by go_grown⟩
  ·rw [jD,if_neg (by omega)];clear h0;by_cases h2:n=l.length
   ·rw [if_pos (by omega)];subst h2;go_enter Tryz.func196,Tryz.ntmps196;go_wp2;go_returns;exact ⟨rfl,by go_grown⟩
   ·rw [if_neg (by omega),Int.toNat_natCast];have hlt:n<l.length:=by omega
    have h3:=lT A cap l n w hG hr hcap hlen hlt;obtain ⟨r1,hr1⟩:∃ r,qsS l n=r:=⟨_,rfl⟩
    rw [hr1] at h3 ⊢;have H3:=aW h3;clear h3 hr1 h1;go_enter Tryz.func196,Tryz.ntmps196;go_wp2_with (go_at_call 194;refine H3.out.mono ?_;rintro e w1 ⟨rfl,hb1⟩);go_returns;exact ⟨rfl,hb1⟩
end
section
open Go.RowKit Go.Shelf
attribute [local go_sem] ab ae af ac Oper.semAt_some
theorem oY {l:List UInt8} (h:(au l).2≠0):br (au l).1≠0:=by
 have key:∀ n,bQ l n=true->br (bw l n)≠0:=λ n hn=>by
  have:=((em l n).1 hn).2.1;intro e;have:=(bC _ _).1 e;omega
 unfold au at h ⊢;split
 ·exact key _ ‹_›
 ·split
  ·exact key _ ‹_›
  ·split
   ·exact key _ ‹_›
   ·split
    ·exact key _ ‹_›
    ·simp_all
theorem kw {c x:Nat} (h:aQ c=some x):x<128:=by
 unfold aQ at h
 repeat' split at h
 all_goals first | (cases h;omega) | cases h
theorem ox {l:List UInt8} {a:Nat} {c n:Int} (h:qsS l a=(c,n,0)) (ha:a<l.length):∃ p m:Nat,c=p/\n=m/\a<m/\m<=l.length/\br p≠0:=by
 unfold qsS at h;rw [List.getElem?_eq_getElem ha] at h;simp only at h;split at h
 ·unfold ll at h;cases hu:dY l a with
  |some u =>
   rw [hu] at h;have hlt:=iS hu;simp only at h;split at h
   ·rename_i hs
    simp only [Prod.mk.injEq] at h;refine ⟨u,a+6,h.1.symm,by omega,by omega,hlt.2,?_⟩;intro e;have:aL (u:Int)=0:=(a9 u 0).2 e;omega
   ·rename_i hs
    have h0:br u=0:=by
     have:aL (u:Int)=br u:=(a9 u _).2 rfl;omega
    have h1:=(bC _ _).1 h0;split at h
    ·cases hv:dY l (a+6) with
     | none=>rw [hv] at h;simp at h
     |some v =>
      rw [hv] at h;simp only at h;split at h
      ·simp only [Prod.mk.injEq] at h;refine ⟨65536+(u-55296)*1024+(v-56320),a+12,by omega,by omega,by omega,by have:=(iS hv).2;omega,?_⟩;intro e;have:=(bC _ _).1 e;omega
      ·simp at h
    ·simp at h
  |none =>
   rw [hu] at h;simp only at h;cases hc:l[a+1]? with
   | none=>rw [hc] at h;simp at h
   |some d =>
    rw [hc] at h;simp only at h;cases hx:aQ d.toNat with
    | none=>rw [hx] at h;simp at h
    |some x =>
     rw [hx] at h;simp only [Prod.mk.injEq] at h;have:=(List.getElem?_eq_some_iff.1 hc).1;refine ⟨x,a+2,h.1.symm,by omega,by omega,by omega,?_⟩;intro e;have h1:=(bC _ _).1 e;have:=kw hx;omega
 ·split at h
  ·simp at h
  ·unfold d5 at h;rw [if_neg (by omega),if_neg (by omega),Int.toNat_natCast] at h;split at h
   ·simp at h
   ·rename_i hne
    simp only [Prod.mk.injEq] at h;have h1:=ju (l.drop a);simp at h1;exact ⟨(au (l.drop a)).1,a+(au (l.drop a)).2,h.1.symm,by omega,by omega,by omega,oY hne⟩
def cY (l:List UInt8):Nat->Nat->List (Int × Int)
 | 0,_=>[]
 | k+1,a=>if a<l.length/\(qsS l a).2.2=0 then ((qsS l a).1,(qsS l a).2.1)::cY l k (qsS l a).2.1.toNat else []
def aR (l:List UInt8) (a:Nat):List (Int × Int):=cY l (l.length-a) a
theorem jF (l:List UInt8):∀ (k k' a:Nat),l.length-a<=k->l.length-a<=k'->cY l k a=cY l k' a
 | 0,0,_,_,_=>rfl
 |0,k'+1,a,h,_=>by
  rw [cY,cY,if_neg (by omega)]
 |k+1,0,a,_,h=>by
  rw [cY,cY,if_neg (by omega)]
 |k+1,k'+1,a,h,h'=>by
  rw [cY,cY];by_cases hc:a<l.length/\(qsS l a).2.2=0
  ·rw [if_pos hc,if_pos hc];obtain ⟨p,m,h1,h2,h3,h4,_⟩:=ox (c:=(qsS l a).1) (n:=(qsS l a).2.1) (by rw [← hc.2]) hc.1;rw [h2,Int.toNat_natCast,jF l k k' m (by omega) (by omega)]
  ·rw [if_neg hc,if_neg hc]
theorem ge {l:List UInt8} {a p m:Nat} (h:qsS l a=((p:Int),(m:Int),0)) (ha:a<l.length):aR l a=((p:Int),(m:Int))::aR l m:=by
 obtain ⟨p',m',h1,h2,h3,h4,_⟩:=ox h ha;unfold aR;obtain ⟨k,hk⟩:∃ k,l.length-a=k+1:=⟨l.length-a-1,by omega⟩
 rw [hk,cY,if_pos ⟨ha,by rw [h]⟩,h];simp only [Int.toNat_natCast];rw [jF l k (l.length-m) m (by omega) (Nat.le_refl _)]
theorem ic {l:List UInt8} {a:Nat} (h:a<l.length->(qsS l a).2.2≠0):aR l a=[]:=by
 unfold aR;cases hk:l.length-a with
 | zero=>rfl
 | succ k=>rw [cY,if_neg (λ hc=>h hc.1 hc.2)]
end
end Go.Proofs.YtgmnmnnoahdjnaaGreatDoor
