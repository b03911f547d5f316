import Derived.Test.YtgmnmnnoahdjnaaGreatDoorY04
import Derived.Deep.DeepCutAuto
import Derived.Deep.CutBlock
open Go.Value renaming int → Zi, slice → Zs, string → Zt, pointer → Zp
open Go.IntKind renaming i64 → Zq
set_option maxRecDepth 100000
set_option maxHeartbeats 16000000
set_option linter.unusedVariables false
set_option linter.unusedSimpArgs false
namespace Go.Proofs.YtgmnmnnoahdjnaaGreatDoor
section
open Go.RowKit
attribute [local go_sem] aa ac ae ab
theorem lp (p:Int) (w:World):Calls Tryz.prog 180 #[.int .i64 p] w λ e w'=>e=.returned (.bool (eV p))/\w=w':=by
 obtain ⟨b,hb⟩:∃ b,eV p=b:=⟨_,rfl⟩
 rw [hb];have HB:=aW hb;clear hb;go_enter Tryz.func180,Tryz.ntmps180;go_wp2
 all_goals
  go_ret;refine ⟨am ?_,rfl⟩;rw [← HB.out,eV,Bool.eq_iff_iff];simp only [decide_eq_true_eq,Bool.true_eq,Bool.false_eq_true,false_iff,true_iff,iff_true,iff_false,Bool.not_eq_true',decide_eq_false_iff_not,Bool.not_true,Bool.not_false]
  try omega
def zF (l:List UInt8) (w:World) (e:Ending) (w':World):Prop:=∃ v,e=.returned v/\BS w' v l/\Below w.heap.size w w'
theorem BS.lit (w:World) (l:List UInt8) (cs:Array Value) (h:cs=(aq l).toArray) (n:Nat) (hn:n=l.length):BS (w.alloc (.cells cs 5)) (.slice (some ⟨w.heap.size,0,none⟩) n n) l:=by
 subst h hn;refine ⟨_,_,rfl,Nat.le_refl _,?_⟩;have:=Rd.of_blk (Blk.new w 5 (aq l).toArray);simpa using this
theorem mq (p:Int) (w:World) (h0:0<=p) (h1:p<=1114111):Calls Tryz.prog 181 #[.int .i64 p] w (zF (ah p.toNat) w):=by
 obtain ⟨l,hl⟩:∃ l,ah p.toNat=l:=⟨_,rfl⟩
 rw [hl];have HL:=aW hl;clear hl;go_enter Tryz.func181,Tryz.ntmps181;go_wp2
 ·go_ret;have e:ah p.toNat=[UInt8.ofNat p.toNat]:=by unfold ah;rw [if_pos (by omega)]
  rw [HL.out] at e;subst e;refine ⟨_,rfl,BS.lit w _ _ (by simp [aq];omega) _ rfl,(Below.refl _ w).alloc (Nat.le_refl _) _⟩
 ·go_ret;have e:ah p.toNat=[UInt8.ofNat (192+p.toNat / 64),UInt8.ofNat (128+p.toNat % 64)]:=by unfold ah;rw [if_neg (by omega),if_pos (by omega)]
  rw [HL.out] at e;subst e;refine ⟨_,rfl,BS.lit w _ _ (by simp [aq];omega) _ rfl,(Below.refl _ w).alloc (Nat.le_refl _) _⟩
 ·go_ret;have e:ah p.toNat=[UInt8.ofNat (224+p.toNat / 4096),UInt8.ofNat (128+p.toNat / 64 % 64),UInt8.ofNat (128+p.toNat % 64)]:=by unfold ah;rw [if_neg (by omega),if_neg (by omega),if_pos (by omega)]
  rw [HL.out] at e;subst e;refine ⟨_,rfl,BS.lit w _ _ (by simp [aq];omega) _ rfl,(Below.refl _ w).alloc (Nat.le_refl _) _⟩
 ·go_ret;have e:ah p.toNat=[UInt8.ofNat (240+p.toNat / 262144),UInt8.ofNat (128+p.toNat / 4096 % 64),UInt8.ofNat (128+p.toNat / 64 % 64),UInt8.ofNat (128+p.toNat % 64)]:=by unfold ah;rw [if_neg (by omega),if_neg (by omega),if_neg (by omega)]
  rw [HL.out] at e;subst e;refine ⟨_,rfl,BS.lit w _ _ (by simp [aq];omega) _ rfl,(Below.refl _ w).alloc (Nat.le_refl _) _⟩
theorem BS.at_ {w:World} {b o n cap:Nat} {l:List UInt8} (h:Rd w (some ⟨b,o,none⟩) (aq l)) {k:Nat} {c:UInt8} (hc:l[k]? = some c):w.cell? ⟨b,o+k,none⟩=some (.int .u8 c.toNat):=by
 obtain ⟨hlt,e⟩:=List.getElem?_eq_some_iff.1 hc;obtain ⟨b',o',e2,_,hx⟩:=h (by intro e;have h3:=av l;rw [e,List.length_nil] at h3;omega);obtain ⟨rfl,rfl⟩:b=b'/\o=o':=by simpa using e2
 rw [hx k (by rw [av];exact hlt)];simp [aq,e]
theorem Rd.some_ {w:World} {A:Option Addr} {l:List UInt8} (h:Rd w A (aq l)) (hl:0<l.length):∃ b o,A=some ⟨b,o,none⟩/\b<w.heap.size:=by
 obtain ⟨b,o,e,hb,_⟩:=h (by intro e;have h3:=av l;rw [e,List.length_nil] at h3;omega);exact ⟨b,o,e,hb⟩
theorem kR (v1 v2:Value) (l1 l2:List UInt8) (w:World) (h1:BS w v1 l1) (h2:BS w v2 l2) (hl1:l1.length<=4194304) (hl2:l2.length<=4194304) :
  Calls Tryz.prog 204 #[v1,v2] w λ e w'=>e=.returned (.bool (decide (l1.take l2.length=l2)))/\∃ q,w.drewN q=w':=by
 obtain ⟨A1,c1,rfl,hc1,hr1⟩:=h1;obtain ⟨A2,c2,rfl,hc2,hr2⟩:=h2;obtain ⟨bb,hbb⟩:∃ b,decide (l1.take l2.length=l2)=b:=⟨_,rfl⟩
 rw [hbb];have HB:=aW hbb;by_cases hlen:l1.length<l2.length
 ·have HF:=aW (show bb=false by rw [← hbb,decide_eq_false_iff_not];intro e;have:=congrArg List.length e;simp at this;omega);clear hbb;go_enter Tryz.func204,Tryz.ntmps204;go_wp2;go_ret;exact ⟨am HF.out.symm,0,rfl⟩
 ·obtain ⟨n1,hn1⟩:∃ n,l1.length=n:=⟨_,rfl⟩
  obtain ⟨n2,hn2⟩:∃ n,l2.length=n:=⟨_,rfl⟩
  rw [hn1] at hl1 hlen ⊢;rw [hn2] at hl2 hlen ⊢;have H1:=aW hn1;have H2:=aW hn2;clear hbb hn1 hn2 hc1 hc2;go_enter Tryz.func204,Tryz.ntmps204;go_wp2;go_loopg [5] n2 (λ gk i wr => ∃ k q:Nat,k<=n2/\gk=n2-k/\i=.int .i64 k/\wr=w.drewN q/\l1.take k=l2.take k)
  case atStart=>exact ⟨0,0,Nat.zero_le _,rfl,rfl,rfl,rfl⟩
  case round =>
   obtain ⟨k,q,hk,hgk,rfl,rfl,heq⟩:=hrel;have HG:=aW hgk;have HE:=aW heq;clear hgk heq;by_cases hlt:k<n2
   ·obtain ⟨x,hx⟩:∃ x,l1[k]? = some x:=⟨_,List.getElem?_eq_getElem (by rw [H1.out];omega)⟩
    obtain ⟨y,hy⟩:∃ x,l2[k]? = some x:=⟨_,List.getElem?_eq_getElem (by rw [H2.out];exact hlt)⟩
    obtain ⟨b1,o1,rfl,hb1⟩:=hr1.some_ (by rw [H1.out];omega);obtain ⟨b2,o2,rfl,hb2⟩:=hr2.some_ (by rw [H2.out];omega);have p1:=BS.at_ (n:=0) (cap:=0) hr1 hx;have p2:=BS.at_ (n:=0) (cap:=0) hr2 hy;have HX:=aW hx;have HY:=aW hy;clear hx hy;by_cases hxy:x=y
    ·subst hxy;go_wp2;go_quiet (fail);go_wp2;go_roundg (n2-(k+1))
     case measure=>rw [HG.out];omega
     case rel=>exact ⟨k+1,q+nq,hlt,rfl,by go_num,rfl,by rw [List.take_add_one,List.take_add_one,HE.out,HX.out,HY.out]⟩
    ·have hne:((x.toNat:Int) != (y.toNat:Int))=true:=by
      have:x.toNat≠y.toNat:=λ e=>hxy (UInt8.toNat_inj.1 e)
      simp;omega
     have HF:=aW (show bb=false by
      rw [← HB.out,decide_eq_false_iff_not];intro e;have h1:=HY.out;rw [← e,List.getElem?_take,if_pos (by rw [H2.out];exact hlt),HX.out] at h1;exact hxy (Option.some.inj h1))
     go_wp2;go_quiet (fail);go_wp2;go_ret;exact ⟨am HF.out.symm,q+nq,(World.drewN_drewN _ _ _).symm⟩
   ·obtain rfl:k=n2:=by omega
    have HF:=aW (show bb=true by
     rw [← HB.out,decide_eq_true_eq,H2.out,HE.out,List.take_of_length_le (by rw [H2.out];exact Nat.le_refl _)])
    go_wp2;go_ret;exact ⟨am HF.out.symm,q,rfl⟩
def r3 (n:Nat):Nat:=if n=1 then 256 else if n=2 then 32 else if n=3 then 16 else 8
def dh (l:List UInt8) (n:Nat):Nat:=(l.headD 0).toNat % r3 n
theorem qQ (l:List UInt8) (n:Nat) (h1:1<=n) (h4:n<=4):a5 l n=dk l (dh l n) (n-1):=by
 rcases (by omega:n=1∨n=2∨n=3∨n=4) with rfl | rfl | rfl | rfl<;>rfl
theorem mS {l:List UInt8} (h:∀ m,1<=m->m<5->bE l m=false):ak l=(0,0) :=
 dK (h 1 (by omega) (by omega)) (h 2 (by omega) (by omega)) (h 3 (by omega) (by omega)) (h 4 (by omega) (by omega))
theorem oJ {l:List UInt8} {n:Nat} (h1:1<=n) (h4:n<=4) (h:∀ m,1<=m->m<n->bE l m=false) (hn:bE l n=true):ak l=(a5 l n,n):=by
 rcases (by omega:n=1∨n=2∨n=3∨n=4) with rfl | rfl | rfl | rfl
 ·exact iD hn
 ·exact ld (h 1 (by omega) (by omega)) hn
 ·exact le (h 1 (by omega) (by omega)) (h 2 (by omega) (by omega)) hn
 ·exact lf (h 1 (by omega) (by omega)) (h 2 (by omega) (by omega)) (h 3 (by omega) (by omega)) hn
def nd (r:Nat × Nat) (w:World) (e:Ending) (w':World):Prop:=e=.returned (.tuple #[.int .i64 r.1,.int .i64 r.2])/\Below w.heap.size w w'
theorem mp (v:Value) (l:List UInt8) (w:World) (hv:BS w v l) (hl:l.length<=4194304):Calls Tryz.prog 190 #[v] w (nd (ak l) w):=by
 obtain ⟨A,cap,rfl,hcap,hr⟩:=hv;obtain ⟨r,hr0⟩:∃ r,ak l=r:=⟨_,rfl⟩
 rw [hr0];have HR0:=aW hr0;clear hr0;go_enter Tryz.func190,Tryz.ntmps190;go_wp2;go_loopg [4] 5 (λ gk s4 wr => ∃ n:Nat,1<=n/\n<=5/\gk=6-n/\s4=.int .i64 n/\Below w.heap.size w wr/\Hid (∀ m,1<=m->m<n->bE l m=false))
 case atStart=>exact ⟨1,by omega,by omega,rfl,rfl,Below.refl _ _,aW (by intro m h1 h2;omega)⟩
 case round =>
  obtain ⟨n,hn1,hn5,hgk,rfl,hb,HNO⟩:=hrel;have HG:=aW hgk;clear hgk;by_cases hdone:n<=4/\n<=l.length
  ·obtain ⟨hn4,hnl⟩:=hdone;obtain ⟨b,o,rfl,hbb⟩:=hr.some_ (by omega);have hrw:Rd wr (some ⟨b,o,none⟩) (aq l):=hr.below hb;have hbw:b<wr.heap.size:=Nat.lt_of_lt_of_le hbb hb.size;obtain ⟨c0,hc0⟩:∃ c,l[0]? = some c:=⟨_,List.getElem?_eq_getElem (by omega)⟩
   have hx0:=BS.at_ (n:=0) (cap:=0) hrw hc0;rw [Nat.add_zero] at hx0;have hhd:l.headD 0=c0:=by cases l with | nil=>simp at hc0 | cons x y=>simpa using hc0
   have HRW:=aW hrw;have hfb:dh l n=c0.toNat % r3 n:=by unfold dh;rw [hhd]
   have HF:=aW hfb;have hb0:=c0.toNat_lt;clear hrw hc0 hhd hfb;go_upto_if 23 with fail;go_cut [5] (λ s5 wx=>s5=.int .i64 (dh l n)/\Below wr.heap.size wr wx)
   case first =>
    rcases (by omega:n=1∨n=2∨n=3∨n=4) with rfl | rfl | rfl | rfl
    ·go_wp2;go_meet
     case rel=>exact ⟨by rw [HF.out];simp [r3];try omega,Below.refl _ _⟩
    all_goals
     go_wp2
     go_region
     all_goals
      go_wp2;go_meet
      case rel=>exact ⟨by rw [HF.out];simp [r3],by go_grown⟩
   case rest =>
    obtain ⟨rfl,hbx⟩:=hcut;obtain ⟨wo,rfl⟩:∃ wo:World,wo=wr:=⟨_,rfl⟩
    have hbc:Below w.heap.size w wc:=hb.trans (hbx.mono hb.size);have hbwc:b<wc.heap.size:=Nat.lt_of_lt_of_le hbb hbc.size;have HRC:=aW (hr.below hbc);have hbig:∀ k,k<=3->dk l (dh l n) k<67108864:=λ k hk=>by
     have h1:=lh l (dh l n) k;have h2:dh l n<256:=by rw [HF.out];exact Nat.lt_of_le_of_lt (Nat.mod_le _ _) hb0
     have h3:(64:Nat) ^ k<=64 ^ 3:=Nat.pow_le_pow_right (by omega) hk;have h4:(dh l n+1)*64 ^ k<=256*64 ^ 3:=Nat.mul_le_mul (by omega) h3;omega
    have HBIG:=aW hbig;clear hbig hx0 HRW;have hf0:dk l (dh l n) 0=dh l n:=by simp [dk]
    have HF0:=aW hf0;clear hf0;go_wp2;go_loopg [5,6] n (λ gk s5 s6 wx => ∃ k:Nat,1<=k/\k<=n/\gk=n+1-k/\s6=.int .i64 k/\s5=.int .i64 (dk l (dh l n) (k-1))/\wx=wc)
    case atStart=>exact ⟨1,by omega,hn1,by omega,rfl,by rw [show 1-1=0 from rfl,HF0.out],rfl⟩
    case round =>
     obtain ⟨k,hk1,hkn,hgk2,rfl,rfl,rfl⟩:=hrel;have HG2:=aW hgk2;clear hgk2;have hP:=HBIG.out (k-1) (by omega);by_cases hlt:k<n
     ·obtain ⟨c,hc⟩:∃ c,l[k]? = some c:=⟨_,List.getElem?_eq_getElem (by omega)⟩
      have hx:=BS.at_ (n:=0) (cap:=0) HRC.out hc;have hg:=iH (p:=dh l n) (show l[k-1+1]? = some c by rw [show k-1+1=k from by omega];exact hc);obtain ⟨P,hPe⟩:∃ P,dk l (dh l n) (k-1)=P:=⟨_,rfl⟩
      rw [hPe] at hg hP ⊢;have HGS:=aW hg;have hcb:=c.toNat_lt;clear hc hg hPe;go_wp2;go_roundg (n+1-(k+1))
      case measure=>rw [HG2.out];omega
      case rel=>exact ⟨k+1,by omega,hlt,rfl,by go_num,by rw [show k+1-1=k-1+1 from by omega,HGS.out];go_num,rfl⟩
     ·obtain rfl:k=n:=by omega
      obtain ⟨P,hPe⟩:∃ P,dk l (dh l k) (k-1)=P:=⟨_,rfl⟩
      have hnum:a5 l k=P:=by rw [qQ l k hk1 hn4,hPe]
      rw [hPe] at hP ⊢;have HN:=aW hnum;clear hPe hlt hnum;cases hcp:eV (P:Int) with
      |false =>
       have HI:=aW (show Calls Tryz.prog 180 #[.int .i64 P] wr λ e w'=>e=.returned (.bool false)/\wr=w' by have:=lp P wr;rw [hcp] at this;exact this);have HNO2:=aW (show ∀ m,1<=m->m<k+1->bE l m=false from λ m h1 h2=>by
        rcases Nat.lt_or_ge m k with h | h
        ·exact HNO.out m h1 h
        ·obtain rfl:m=k:=by omega
         unfold bE;rw [HN.out,hcp];simp)
       clear hcp;go_wp2_with (go_at_call 180;refine HI.out.mono ?_;rintro e w1 ⟨rfl,rfl⟩);go_roundg (6-(k+1))
       case measure=>rw [HG.out];omega
       case rel=>exact ⟨k+1,by omega,by omega,rfl,by go_num,hbc,HNO2⟩
      |true =>
       have hrange:(P:Int)<=1114111:=by have:=hcp;unfold eV at this;have:=of_decide_eq_true this;omega
       have HI:=aW (show Calls Tryz.prog 180 #[.int .i64 P] wr λ e w'=>e=.returned (.bool true)/\wr=w' by have:=lp P wr;rw [hcp] at this;exact this);have HB:=aW (mq P wr (by omega) hrange);have hcl:(ah P).length<=4:=by unfold ah;(repeat' split)<;>simp
       rw [Int.toNat_natCast] at HB;obtain ⟨u,hu⟩:∃ u,ah P=u:=⟨_,rfl⟩
       rw [hu] at HB hcl;have hok:bE l k=(decide (k=u.length) && decide (l.take u.length=u)):=by
        unfold bE;rw [HN.out,hcp,hu,decide_eq_true hnl,Bool.eq_iff_iff];simp only [Bool.true_and,beq_iff_eq,Bool.and_eq_true,decide_eq_true_eq];constructor
        ·intro e;have h1:k=u.length:=by rw [e,List.length_take];omega
         exact ⟨h1,by rw [← h1,← e]⟩
        ·rintro ⟨h1,h2⟩;rw [h1];exact h2.symm
       have HOK:=aW hok;clear hcp hu hok;by_cases hlen:k=u.length
       ·have hlb:((u.length:Int) == (k:Int))=true:=by simp;omega
        cases hst:decide (l.take u.length=u) with
        |true =>
         have HRET:=aW (show r=(P,k) by rw [← HR0.out,oJ hk1 hn4 HNO.out (by rw [HOK.out,decide_eq_true hlen,hst];rfl),HN.out]);clear hlen;go_wp2_with fail;refine HI.out.mono ?_;rintro e w1 ⟨rfl,rfl⟩;go_wp2_with fail;refine HB.out.mono ?_;rintro e w2 ⟨v2,rfl,hv2,hb2⟩;have hS:=kR (.slice (some ⟨b,o,none⟩) l.length cap) v2 l u w2 ⟨_,_,rfl,hcap,HRC.out.below hb2⟩ hv2 hl (by omega);rw [hst] at hS;have HS:=aW hS;obtain ⟨A2,c2,rfl,hc2,hr2⟩:=hv2;clear hS hst;go_wp2_with fail;refine HS.out.mono ?_;rintro e w3 ⟨rfl,q,rfl⟩;go_wp2;go_ret2;rw [HRET.out];exact ⟨rfl,aj (hbc.trans (hb2.mono hbc.size)) q⟩
        |false =>
         have HNO2:=aW (show ∀ m,1<=m->m<k+1->bE l m=false from λ m h1 h2=>by
          rcases Nat.lt_or_ge m k with h | h
          ·exact HNO.out m h1 h
          ·obtain rfl:m=k:=by omega
           rw [HOK.out,hst];simp)
         clear hlen;go_wp2_with fail;refine HI.out.mono ?_;rintro e w1 ⟨rfl,rfl⟩;go_wp2_with fail;refine HB.out.mono ?_;rintro e w2 ⟨v2,rfl,hv2,hb2⟩;have hS:=kR (.slice (some ⟨b,o,none⟩) l.length cap) v2 l u w2 ⟨_,_,rfl,hcap,HRC.out.below hb2⟩ hv2 hl (by omega);rw [hst] at hS;have HS:=aW hS;obtain ⟨A2,c2,rfl,hc2,hr2⟩:=hv2;clear hS hst;go_wp2_with fail;refine HS.out.mono ?_;rintro e w3 ⟨rfl,q,rfl⟩;go_wp2_with fail;go_roundg (6-(k+1))
         case measure=>rw [HG.out];omega
         case rel=>exact ⟨k+1,by omega,by omega,rfl,by go_num,aj (hbc.trans (hb2.mono hbc.size)) q,HNO2⟩
       ·have hlb:((u.length:Int) == (k:Int))=false:=by simp;omega
        have HNO2:=aW (show ∀ m,1<=m->m<k+1->bE l m=false from λ m h1 h2=>by
         rcases Nat.lt_or_ge m k with h | h
         ·exact HNO.out m h1 h
         ·obtain rfl:m=k:=by omega
          rw [HOK.out,decide_eq_false hlen];simp)
        go_wp2_with fail;refine HI.out.mono ?_;rintro e w1 ⟨rfl,rfl⟩;go_wp2_with fail;refine HB.out.mono ?_;rintro e w2 ⟨v2,rfl,hv2,hb2⟩;obtain ⟨A2,c2,rfl,hc2,hr2⟩:=hv2;go_wp2_with fail;go_roundg (6-(k+1))
        case measure=>rw [HG.out];omega
        case rel=>exact ⟨k+1,by omega,by omega,rfl,by go_num,hbc.trans (hb2.mono hbc.size),HNO2⟩
  ·have HRET:=aW (show r=(0,0) by
    rw [← HR0.out];refine mS λ m h1 h2=>?_
    rcases Nat.lt_or_ge m n with h | h
    ·exact HNO.out m h1 h
    ·exact dy l m (by omega))
   by_cases h4:n<=4
   ·have h5:l.length<n:=by omega
    go_wp2;go_ret2;rw [HRET.out];exact ⟨rfl,hb⟩
   ·have h5:(4:Int)<(n:Int):=by omega
    go_wp2;go_ret2;rw [HRET.out];exact ⟨rfl,hb⟩
theorem nW (v:Value) (l:List UInt8) (p:Nat) (t:ByteArray) (w:World) (hv:BS w v l) (hl:l.length<=4194304) (hp:p<=8388608) (ht:t.size<=4194304) :
  Calls Tryz.prog 176 #[v,Zi Zq p,Zt t] w λ e w'=>e=.returned (.bool (aB l p (sl t)))/\∃ q,w.drewN q=w':=by
 obtain ⟨A,cap,rfl,hcap,hr⟩:=hv;obtain ⟨bb,hbb⟩:∃ b,aB l p (sl t)=b:=⟨_,rfl⟩
 rw [hbb];by_cases hlt:p<l.length
 ·obtain ⟨c,hc⟩:∃ c,l[p]? = some c:=⟨_,List.getElem?_eq_getElem hlt⟩
  obtain ⟨b,o,rfl,hb⟩:=hr.some_ (by omega);have hx:=BS.at_ (n:=0) (cap:=0) hr hc;unfold aB at hbb;rw [hc] at hbb;simp only at hbb;have HB:=aW hbb;clear hbb hc;go_enter Tryz.func176,Tryz.ntmps176;go_wp2;go_loopg [7] t.size (λ gk i wr => ∃ k q:Nat,k<=t.size/\gk=t.size-k/\i=Zi Zq k/\wr=w.drewN q/\Hid (bb=((sl t).drop k).contains c))
  case atStart=>exact ⟨0,0,Nat.zero_le _,rfl,rfl,rfl,aW (by rw [← HB.out];simp)⟩
  case round =>
   obtain ⟨k,q,hk,hgk,rfl,rfl,HC⟩:=hrel;have HG:=aW hgk;clear hgk;by_cases hkt:k<t.size
   ·have hd:(sl t).drop k=t[k]::(sl t).drop (k+1):=List.drop_eq_getElem_cons (by rw [bL];exact hkt);obtain ⟨x,hx2⟩:∃ x,t[k]=x:=⟨_,rfl⟩
    rw [hx2] at hd;have HD:=aW hd;clear hd;by_cases hxc:x=c
    ·subst hxc;have hbt:((x.toNat:Int) == (x.toNat:Int))=true:=by simp
     go_wp2;go_quiet (fail);go_wp2;go_ret;exact ⟨am (by rw [HC.out,HD.out];simp),q+nq,(World.drewN_drewN _ _ _).symm⟩
    ·have hne:((x.toNat:Int) == (c.toNat:Int))=false:=by
      have:x.toNat≠c.toNat:=λ e=>hxc (UInt8.toNat_inj.1 e)
      simp;omega
     go_wp2;go_quiet (fail);go_wp2;go_roundg (t.size-(k+1))
     case measure=>rw [HG.out];omega
     case rel=>exact ⟨k+1,q+nq,hkt,rfl,by go_num,rfl,aW (by rw [HC.out,HD.out,List.contains_cons];simp;intro h;exact absurd h.symm hxc)⟩
   ·obtain rfl:k=t.size:=by omega
    go_wp2;go_ret;exact ⟨am (by rw [HC.out,List.drop_eq_nil_of_le (by rw [bL];exact Nat.le_refl _)];rfl),q,rfl⟩
 ·have HF:=aW (show bb=false by rw [← hbb];unfold aB;rw [List.getElem?_eq_none (by omega)]);clear hbb;go_enter Tryz.func176,Tryz.ntmps176;go_wp2;go_ret;exact ⟨am HF.out.symm,0,rfl⟩
theorem ii {l:List UInt8} {p:Nat} (h:aB l p [48,49,50,51,52,53,54,55,56,57]=true):a0 l p=a0 l (p+1):=by
 obtain ⟨c,_,_,_,e⟩:=iG h;unfold a0;rw [e];simp;omega
theorem pD {l:List UInt8} {p:Nat} (h:aB l p [48,49,50,51,52,53,54,55,56,57]=false):a0 l p=p:=by
 unfold a0;rw [lE h];rfl
theorem iu {l s:List UInt8} {p:Nat} (h:aB l p s=true):p<l.length:=by
 unfold aB at h;cases hl:l[p]? with
 | none=>rw [hl] at h;cases h
 | some c=>exact (List.getElem?_eq_some_iff.1 hl).1
theorem qm (v:Value) (l:List UInt8) (p:Nat) (w:World) (hv:BS w v l) (hl:l.length<=4194304) (hp:p<=8388608) :
  Calls Tryz.prog 176 #[v,Zi Zq p,Zt ⟨#[48,49,50,51,52,53,54,55,56,57]⟩] w λ e w'=>e=.returned (.bool (aB l p [48,49,50,51,52,53,54,55,56,57]))/\∃ q,w.drewN q=w' :=
 nW v l p ⟨#[48,49,50,51,52,53,54,55,56,57]⟩ w hv hl hp (by decide)
theorem ms (v:Value) (l:List UInt8) (p:Nat) (w:World) (hv:BS w v l) (hl:l.length<=4194304) (hp:p<=4194308) :
  Calls Tryz.prog 177 #[v,Zi Zq p] w λ e w'=>e=.returned (Zi Zq (a0 l p))/\∃ q,w.drewN q=w':=by
 obtain ⟨d,hd⟩:∃ d,a0 l p=d:=⟨_,rfl⟩
 rw [hd];have HD:=aW hd;have HV:=aW hv;obtain ⟨A,cap,rfl,hcap,hr⟩:=hv;clear hd;go_enter Tryz.func177,Tryz.ntmps177;go_wp2;go_loopg [1] (4194308+l.length-p) (λ gk i wr => ∃ k q:Nat,k<=4194308/\gk=4194308+l.length-k/\i=Zi Zq k/\wr=w.drewN q/\Hid (d=a0 l k)/\(k<=l.length∨k=p))
 case atStart=>exact ⟨p,0,hp,rfl,rfl,rfl,aW HD.out.symm,.inr rfl⟩
 case round =>
  obtain ⟨k,q,hk,hgk,rfl,rfl,HK,hkp⟩:=hrel;have HG:=aW hgk;clear hgk;have hS:=qm _ l k (w.drewN q) (HV.out.drewN q) hl (by omega);cases hs:aB l k [48,49,50,51,52,53,54,55,56,57] with
  |true =>
   have hlt:=iu hs;have HM:=aW (ii hs);rw [hs] at hS;have HS:=aW hS;clear hS hs;go_wp2_with fail;refine HS.out.mono ?_;rintro e w1 ⟨rfl,q1,rfl⟩;go_wp2_with fail;go_roundg (4194308+l.length-(k+1))
   case measure=>rw [HG.out];omega
   case rel=>exact ⟨k+1,q+q1,by omega,rfl,by go_num,rfl,aW (by rw [HK.out,HM.out]),.inl hlt⟩
  |false =>
   have HM:=aW (pD hs);rw [hs] at hS;have HS:=aW hS;clear hS hs;go_wp2_with fail;refine HS.out.mono ?_;rintro e w1 ⟨rfl,q1,rfl⟩;go_wp2_with fail;go_ret;exact ⟨cX (by rw [HK.out,HM.out]),q+q1,rfl⟩
def fp (l:List UInt8) (vc:Bool) (e:Nat):Nat × Bool × Bool :=
 if aB l e [101,69] then
  if a0 l (if aB l (e+1) [43,45] then e+1+1 else e+1)=(if aB l (e+1) [43,45] then e+1+1 else e+1) then ((if aB l (e+1) [43,45] then e+1+1 else e+1),false,false)
  else (a0 l (if aB l (e+1) [43,45] then e+1+1 else e+1),false,true)
 else (e,vc,true)
def d9 (l:List UInt8) (e:Nat):Nat × Bool × Bool :=
 if aB l e [46] then if a0 l (e+1)=e+1 then (e+1,false,false) else fp l false (a0 l (e+1)) else fp l true e
def gm (l:List UInt8) (a:Nat):Nat × Bool × Bool :=
 if a0 l a=a then (a,false,false) else d9 l (if aB l a [48] then a+1 else a0 l a)
def jF (l:List UInt8) (p:Nat):Nat × Bool × Bool:=gm l (if aB l p [45] then p+1 else p)
theorem fj (l:List UInt8) (p:Nat):p<=a0 l p/\(p<=l.length->a0 l p<=l.length):=by
 unfold a0;have:=lg l p;exact ⟨Nat.le_add_right _ _,λ h=>by omega⟩
theorem gG {K:List UInt8} (v:Value) (l:List UInt8) (p:Nat) (w:World) (hv:BS w v l) (hl:l.length<=4194304) (hp:p<=8388608) (hK:K.length<=4194304) {bb:Bool} (hbb:aB l p K=bb) :
  Calls Tryz.prog 176 #[v,Zi Zq p,Zt ⟨K.toArray⟩] w λ e w'=>e=.returned (.bool bb)/\∃ q,w.drewN q=w':=by
 have:=nW v l p ⟨K.toArray⟩ w hv hl hp (by simpa [ByteArray.size] using hK);rw [eO,hbb] at this;exact this
def vX (r:Nat × Bool × Bool) (w:World) (e:Ending) (w':World):Prop:=e=.returned (.tuple #[Zi Zq r.1,.bool r.2.1,.bool r.2.2])/\∃ q,w.drewN q=w'
theorem vm (v:Value) (l:List UInt8) (p:Nat) (w:World) (hv:BS w v l) (hl:l.length<=4194304) (hp:p<=l.length) :
  Calls Tryz.prog 140 #[v,Zi Zq p] w (vX (jF l p) w):=by
 obtain ⟨r,hr⟩:∃ r,jF l p=r:=⟨_,rfl⟩
 rw [hr];have HV:=aW hv;clear hv;have HVd:=aW (λ q=>BS.drewN HV.out q);obtain ⟨bm,hbm⟩:∃ b,aB l p [45]=b:=⟨_,rfl⟩
 have H1:=aW (gG v l p w HV.out hl (by omega) (by decide) hbm);obtain ⟨a,ha⟩:∃ a,(if bm=true then p+1 else p)=a:=⟨_,rfl⟩
 have hal:a<=l.length:=by
  rw [← ha];split
  ·rename_i h;rw [h] at hbm;have:=iu hbm;omega
  ·exact hp
 have hra:r=gm l a:=by rw [← hr,jF,hbm,ha]
 have HRA:=aW hra;have HA:=aW ha;clear hr hbm hra ha;go_enter Tryz.func140,Tryz.ntmps140;go_upto_if 11 with fail;refine H1.out.mono ?_;rintro e w1 ⟨rfl,q1,rfl⟩;go_upto_if 11 with fail;go_cut [1] (λ s1 wx=>s1=Zi Zq a/\∃ q,wx=w.drewN q)
 case first =>
  cases bm
  ·go_wp2;go_meet
   case rel=>exact ⟨by have:=HA.out;simp at this;rw [this],q1,rfl⟩
  ·go_wp2;go_meet
   case rel=>exact ⟨by have:=HA.out;simp at this;rw [← this];go_num,q1,rfl⟩
 case rest =>
  obtain ⟨rfl,q2,rfl⟩:=hcut;have hde:=fj l a;have H2:=aW (ms v l a (w.drewN q2) (HVd.out q2) hl (by omega));obtain ⟨d,hd⟩:∃ d,a0 l a=d:=⟨_,rfl⟩
  rw [hd] at H2 hde;have HD:=aW hd;clear hd H1 HA;by_cases hda:d=a
  ·have HR:=aW (show r=(a,false,false) by rw [HRA.out,gm,HD.out,if_pos hda]);have hdb:((d:Int) == (a:Int))=true:=by simp;omega
   clear hda;go_wp2_with fail;refine H2.out.mono ?_;rintro e w2 ⟨rfl,q3,rfl⟩;go_wp2;go_ret3;rw [HR.out];exact ⟨rfl,_,rfl⟩
  ·have hdb:((d:Int) == (a:Int))=false:=by simp;omega
   obtain ⟨bz,hbz⟩:∃ b,aB l a [48]=b:=⟨_,rfl⟩
   obtain ⟨e2,he2⟩:∃ e,(if bz=true then a+1 else d)=e:=⟨_,rfl⟩
   have hel:e2<=l.length:=by
    rw [← he2];split
    ·omega
    ·omega
   have HR:=aW (show r=d9 l e2 by rw [HRA.out,gm,HD.out,if_neg hda,hbz,he2]);have H3:=aW (λ q=>gG v l a (w.drewN q) (HVd.out q) hl (by omega) (by decide) hbz);have HE:=aW he2;clear hbz he2 hda HRA;go_upto_if 23 with fail;refine H2.out.mono ?_;rintro e w2 ⟨rfl,q3,rfl⟩;go_upto_if 23 with fail;refine (H3.out _).mono ?_;rintro e w3 ⟨rfl,q4,rfl⟩;go_upto_if 23 with fail;go_cut [7] (λ s7 wx=>s7=Zi Zq e2/\∃ q,wx=w.drewN q)
   case first =>
    cases bz
    ·go_wp2;go_meet
     case rel=>exact ⟨by have:=HE.out;simp at this;rw [this],_,rfl⟩
    ·go_wp2;go_meet
     case rel=>exact ⟨by have:=HE.out;simp at this;rw [← this];go_num,_,rfl⟩
   case rest =>
    obtain ⟨rfl,q5,rfl⟩:=hcut;obtain ⟨bf,hbf⟩:∃ b,aB l e2 [46]=b:=⟨_,rfl⟩
    have H4:=aW (λ q=>gG v l e2 (w.drewN q) (HVd.out q) hl (by omega) (by decide) hbf);have HBF:=aW hbf;clear hbf H2 H3 HE hde;go_upto_if 28 with fail;refine (H4.out _).mono ?_;rintro e w3 ⟨rfl,q6,rfl⟩;go_upto_if 28 with fail;go_cut [7,8] (λ s7 s8 wx => ∃ (e3:Nat) (pl:Bool),s7=Zi Zq e3/\s8=.bool pl/\e3<=l.length/\Hid (r=fp l pl e3)/\∃ q,wx=w.drewN q)
    case first =>
     cases bf
     ·go_wp2;go_meet
      case rel=>exact ⟨e2,true,rfl,rfl,hel,aW (by rw [HR.out,d9,HBF.out];rfl),_,rfl⟩
     ·have hlt:=iu HBF.out;have hde:=fj l (e2+1);have H5:=aW (λ q=>ms v l (e2+1) (w.drewN q) (HVd.out q) hl (by omega));obtain ⟨d2,hd2⟩:∃ d,a0 l (e2+1)=d:=⟨_,rfl⟩
      rw [hd2] at H5 hde;have HD2:=aW hd2;have e21:((e2+1:Nat):Int)=(e2:Int)+1:=by omega
      rw [e21] at H5;clear hd2 e21;by_cases hda:d2=e2+1
      ·have hdb2:((d2:Int) == (e2:Int)+1)=true:=by simp;omega
       have HR2:=aW (show r=(e2+1,false,false) by rw [HR.out,d9,HBF.out,if_pos rfl,HD2.out,if_pos hda]);clear hda;go_wp2_with fail;refine (H5.out _).mono ?_;rintro e w2 ⟨rfl,q7,rfl⟩;go_wp2;go_ret3;rw [HR2.out];exact ⟨by simp,_,rfl⟩
      ·have hdb2:((d2:Int) == (e2:Int)+1)=false:=by simp;omega
       have HR2:=aW (show r=fp l false d2 by rw [HR.out,d9,HBF.out,if_pos rfl,HD2.out,if_neg hda]);have hd2l:d2<=l.length:=hde.2 hlt;clear hda;go_wp2_with fail;refine (H5.out _).mono ?_;rintro e w2 ⟨rfl,q7,rfl⟩;go_wp2;go_meet
       case rel=>exact ⟨d2,false,rfl,rfl,hd2l,HR2,_,rfl⟩
    case rest =>
     obtain ⟨e3,pl,rfl,rfl,hel3,HRX,q7,rfl⟩:=hcut;obtain ⟨be,hbe⟩:∃ b,aB l e3 [101,69]=b:=⟨_,rfl⟩
     have H6:=aW (λ q=>gG v l e3 (w.drewN q) (HVd.out q) hl (by omega) (by decide) hbe);have HBE:=aW hbe;clear hbe H4 HBF HR;cases be
     ·have HR2:=aW (show r=(e3,pl,true) by rw [HRX.out,fp,HBE.out];rfl);go_wp2_with fail;refine (H6.out _).mono ?_;rintro e w2 ⟨rfl,q8,rfl⟩;go_wp2;go_ret3;rw [HR2.out];exact ⟨rfl,_,rfl⟩
     ·have hlt:=iu HBE.out;obtain ⟨bs,hbs⟩:∃ b,aB l (e3+1) [43,45]=b:=⟨_,rfl⟩
      obtain ⟨a2,ha2⟩:∃ a,(if bs=true then e3+1+1 else e3+1)=a:=⟨_,rfl⟩
      have ha2l:a2<=l.length:=by
       rw [← ha2];split
       ·rename_i h;rw [h] at hbs;have:=iu hbs;omega
       ·omega
      have H7:=aW (λ q=>gG v l (e3+1) (w.drewN q) (HVd.out q) hl (by omega) (by decide) hbs);have e31:((e3+1:Nat):Int)=(e3:Int)+1:=by omega
      rw [e31] at H7;have hde:=fj l a2;have H8:=aW (λ q=>ms v l a2 (w.drewN q) (HVd.out q) hl (by omega));obtain ⟨d3,hd3⟩:∃ d,a0 l a2=d:=⟨_,rfl⟩
      rw [hd3] at H8 hde;have hre:r=if d3=a2 then (a2,false,false) else (d3,false,true):=by rw [HRX.out,fp,HBE.out,if_pos rfl,hbs,ha2,hd3]
      have HRE:=aW hre;have HA2:=aW ha2;clear hbs ha2 hd3 hre e31;go_upto_if 40 with fail;refine (H6.out _).mono ?_;rintro e w2 ⟨rfl,q8,rfl⟩;go_upto_if 45 with fail;refine (H7.out _).mono ?_;rintro e w2 ⟨rfl,q9,rfl⟩;go_upto_if 45 with fail;go_cut [1] (λ s1 wx=>s1=Zi Zq a2/\∃ q,wx=w.drewN q)
      case first =>
       cases bs
       ·go_wp2;go_meet
        case rel=>exact ⟨by have:=HA2.out;simp at this;rw [← this];go_num,_,rfl⟩
       ·go_wp2;go_meet
        case rel=>exact ⟨by have:=HA2.out;simp at this;rw [← this];go_num,_,rfl⟩
      case rest =>
       obtain ⟨rfl,q10,rfl⟩:=hcut;by_cases hda:d3=a2
       ·have hdb3:((d3:Int) == (a2:Int))=true:=by simp;omega
        have HR2:=aW (HRE.out.trans (if_pos hda));clear hda;go_wp2_with fail;refine (H8.out _).mono ?_;rintro e w2 ⟨rfl,q11,rfl⟩;go_wp2;go_ret3;rw [HR2.out];exact ⟨rfl,_,rfl⟩
       ·have hdb3:((d3:Int) == (a2:Int))=false:=by simp;omega
        have HR2:=aW (HRE.out.trans (if_neg hda));clear hda;go_wp2_with fail;refine (H8.out _).mono ?_;rintro e w2 ⟨rfl,q11,rfl⟩;go_wp2;go_ret3;rw [HR2.out];exact ⟨rfl,_,rfl⟩
theorem yN (x:Int) (h:x<=0):x.tdiv 10 = -((-x) / 10):=by
 have h1:x = -(-x):=by omega
 rw [h1,Int.neg_tdiv,Int.tdiv_eq_ediv_of_nonneg (by omega),Int.neg_neg]
theorem kI (ds:List UInt8) (c:UInt8):a8 (ds++[c])=10*a8 ds+fo c:=by simp [a8]
theorem ta (ds r:List UInt8):a8 ds<=a8 (ds++r):=by
 induction r generalizing ds with
 | nil=>simp
 |cons c r ih =>
  have:=ih (ds++[c]);rw [List.append_assoc,List.singleton_append,kI] at this;omega
def dP (m:Bool) (D:Nat):Option Int:=if m then if D<=9223372036854775808 then some (-(D:Int)) else none else if D<=9223372036854775807 then some D else none
def xQ (r:Option Int) (w:World) (e:Ending) (w':World):Prop :=
 (match r with | some n=>e=.returned (.tuple #[Zi Zq n,.bool true]) | none=>e=.returned (.tuple #[Zi Zq 0,.bool false]))/\w=w'
theorem qo (v:Value) (l:List UInt8) (w:World) (hv:BS w v l) (hl:l.length<=4194304) (hd:∀ c ∈ l,aJ c=true) (hn:l≠[]) :
  Calls Tryz.prog 141 #[v] w (xQ (dP false (a8 l)) w):=by
 obtain ⟨A,cap,rfl,hcap,hr⟩:=hv;obtain ⟨r,hr0⟩:∃ r,dP false (a8 l)=r:=⟨_,rfl⟩
 rw [hr0];have HR0:=aW hr0;have hpos:0<l.length:=List.length_pos_iff.2 hn;obtain ⟨b,o,rfl,hb⟩:=hr.some_ hpos;have HD:=aW (λ (k:Nat) (c:UInt8) (h:l[k]? = some c)=>show 48<=c.toNat/\c.toNat<=57 from of_decide_eq_true (hd c (List.mem_of_getElem? h)));obtain ⟨c0,hc0⟩:∃ c,l[0]? = some c:=⟨_,List.getElem?_eq_getElem hpos⟩
 have hx0:=BS.at_ (n:=0) (cap:=0) hr hc0;rw [Nat.add_zero] at hx0;have hne:((c0.toNat:Int) == 45)=false:=by have:=HD.out 0 c0 hc0;simp;omega
 clear hr0 hd hn hc0;go_enter Tryz.func141,Tryz.ntmps141;go_wp2;go_loopg [5,6] l.length (λ gk s5 s6 wx => ∃ (k:Nat) (n:Int),k<=l.length/\gk=l.length-k/\s6=Zi Zq k/\s5=Zi Zq n/\Hid (n = -(a8 (l.take k):Int))/\n<=0 /\ -9223372036854775808<=n/\wx=w)
 case atStart=>exact ⟨0,0,Nat.zero_le _,rfl,rfl,rfl,aW (by simp [a8]),by omega,by omega,rfl⟩
 case round =>
  obtain ⟨k,n,hk,hgk,rfl,rfl,HN,hn0,hn1,rfl⟩:=hrel;have HG:=aW hgk;clear hgk;by_cases hlt:k<l.length
  ·obtain ⟨c,hc⟩:∃ c,l[k]? = some c:=⟨_,List.getElem?_eq_getElem hlt⟩
   have hx:=BS.at_ (n:=0) (cap:=0) hr hc;obtain ⟨d1,d2⟩:=HD.out k c hc;have hsn:a8 (l.take (k+1))=10*a8 (l.take k)+fo c:=by rw [List.take_add_one,hc];exact kI _ _
   have HSN:=aW hsn;obtain ⟨q,hq⟩:∃ q:Int,(c.toNat:Int)=q:=⟨_,rfl⟩
   have hdv:(fo c:Int)=q-48:=by unfold fo;omega
   have HDV:=aW hdv;rw [hq] at hx;have hq1:48<=q:=by omega
   have hq2:q<=57:=by omega
   have htd:(-9223372036854775808+(q-48)).tdiv 10 = -((9223372036854775808-(q-48)) / 10):=by rw [yN _ (by omega)];congr 2;omega
   have HTD:=aW htd;clear hsn hdv hq htd hc d1 d2;by_cases hover:10*n-(q-48) < -9223372036854775808
   ·have HRET:=aW (show r=none by
     rw [← HR0.out];have h1:=ta (l.take (k+1)) (l.drop (k+1));rw [List.take_append_drop] at h1;have h2:=HSN.out;have h3:=HN.out;have h4:=HDV.out;unfold dP;rw [if_neg (by simp),if_neg (by omega)])
    have hdec:decide (n<(-9223372036854775808+(q-48)).tdiv 10)=true:=by rw [HTD.out,decide_eq_true_eq];omega
    clear hover;cases hbk:((k:Int) == 0)
    all_goals
     go_wp2;go_ret2;rw [HRET.out];exact ⟨rfl,rfl⟩
   ·have hover2:-9223372036854775808<=10*n-(q-48):=by omega
    have hdec:decide (n<(-9223372036854775808+(q-48)).tdiv 10)=false:=by rw [HTD.out,decide_eq_false_iff_not];omega
    clear hover;cases hbk:((k:Int) == 0)
    all_goals
     go_wp2;go_roundg (l.length-(k+1))
     case measure=>rw [HG.out];omega
     case rel=>exact ⟨k+1,_,hlt,rfl,by go_num,rfl,aW (by rw [HSN.out];have h3:=HN.out;have h4:=HDV.out;omega),by omega,hover2,rfl⟩
  ·obtain rfl:k=l.length:=by omega
   have hN:=HN.out;rw [List.take_length] at hN;by_cases hmin:n = -9223372036854775808
   ·have HRET:=aW (show r=none by
     rw [← HR0.out];unfold dP;rw [if_neg (by simp),if_neg (by omega)])
    have hb1:(n == -9223372036854775808)=true:=by simp [hmin]
    clear hmin hN;go_wp2;go_ret2;rw [HRET.out];exact ⟨rfl,rfl⟩
   ·have HRET:=aW (show r=some (-n) by
     rw [← HR0.out];unfold dP;rw [if_neg (by simp),if_pos (by omega)];congr 1;omega)
    have hb1:(n == -9223372036854775808)=false:=by simpa using hmin
    have hn2:-9223372036854775807<=n:=by omega
    clear hmin hN;go_wp2;go_ret2;rw [HRET.out];exact ⟨rfl,rfl⟩
end
end Go.Proofs.YtgmnmnnoahdjnaaGreatDoor
