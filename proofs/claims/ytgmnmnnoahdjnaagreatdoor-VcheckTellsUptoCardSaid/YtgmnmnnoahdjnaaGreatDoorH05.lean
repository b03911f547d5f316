import Derived.Test.YtgmnmnnoahdjnaaGreatDoorH03
import Derived.Deep.DeepCutAuto
set_option maxRecDepth 100000
set_option maxHeartbeats 16000000
set_option linter.unusedVariables false
set_option linter.unusedSimpArgs false
namespace Go.Proofs.YtgmnmnnoahdjnaaGreatDoor
section
open Go.RowKit
attribute [local go_sem] ab ae af ac
theorem qt (p:Int) (w:World):Calls Tryz.prog 180 #[.int .i64 p] w λ e w'=>e=.returned (.bool (nR p))/\w=w':=by
 obtain ⟨b,hb⟩:∃ b,nR p=b:=⟨_,rfl⟩
 rw [hb];have HB:=aW hb;clear hb;go_enter Tryz.func180,Tryz.ntmps180;go_wp2
 all_goals
  go_ret;refine ⟨ak ?_,rfl⟩;rw [← HB.out,nR,Bool.eq_iff_iff];simp only [decide_eq_true_eq,Bool.true_eq,Bool.false_eq_true,false_iff,true_iff,iff_true,iff_false,Bool.not_eq_true',decide_eq_false_iff_not,Bool.not_true,Bool.not_false]
  try omega
def yf (l:List UInt8) (w:World) (e:Ending) (w':World):Prop:=∃ v,e=.returned v/\BS w' v l/\Below w.heap.size w w'
theorem BS.lit (w:World) (l:List UInt8) (cs:Array Value) (h:cs=(aq l).toArray) (n:Nat) (hn:n=l.length):BS (w.alloc (.cells cs 5)) (.slice (some ⟨w.heap.size,0,none⟩) n n) l:=by
 subst h hn;refine ⟨_,_,rfl,Nat.le_refl _,?_⟩;have:=Rd.of_blk (Blk.new w 5 (aq l).toArray);simpa using this
theorem pC (p:Int) (w:World) (h0:0<=p) (h1:p<=1114111):Calls Tryz.prog 181 #[.int .i64 p] w (yf (ai p.toNat) w):=by
 obtain ⟨l,hl⟩:∃ l,ai p.toNat=l:=⟨_,rfl⟩
 rw [hl];have HL:=aW hl;clear hl;go_enter Tryz.func181,Tryz.ntmps181;go_wp2
 ·go_ret;have e:ai p.toNat=[UInt8.ofNat p.toNat]:=by unfold ai;rw [if_pos (by omega)]
  rw [HL.out] at e;subst e;refine ⟨_,rfl,BS.lit w _ _ (by simp [aq];omega) _ rfl,(Below.refl _ w).alloc (Nat.le_refl _) _⟩
 ·go_ret;have e:ai p.toNat=[UInt8.ofNat (192+p.toNat / 64),UInt8.ofNat (128+p.toNat % 64)]:=by unfold ai;rw [if_neg (by omega),if_pos (by omega)]
  rw [HL.out] at e;subst e;refine ⟨_,rfl,BS.lit w _ _ (by simp [aq];omega) _ rfl,(Below.refl _ w).alloc (Nat.le_refl _) _⟩
 ·go_ret;have e:ai p.toNat=[UInt8.ofNat (224+p.toNat / 4096),UInt8.ofNat (128+p.toNat / 64 % 64),UInt8.ofNat (128+p.toNat % 64)]:=by unfold ai;rw [if_neg (by omega),if_neg (by omega),if_pos (by omega)]
  rw [HL.out] at e;subst e;refine ⟨_,rfl,BS.lit w _ _ (by simp [aq];omega) _ rfl,(Below.refl _ w).alloc (Nat.le_refl _) _⟩
 ·go_ret;have e:ai p.toNat=[UInt8.ofNat (240+p.toNat / 262144),UInt8.ofNat (128+p.toNat / 4096 % 64),UInt8.ofNat (128+p.toNat / 64 % 64),UInt8.ofNat (128+p.toNat % 64)]:=by unfold ai;rw [if_neg (by omega),if_neg (by omega),if_neg (by omega)]
  rw [HL.out] at e;subst e;refine ⟨_,rfl,BS.lit w _ _ (by simp [aq];omega) _ rfl,(Below.refl _ w).alloc (Nat.le_refl _) _⟩
theorem BS.at_ {w:World} {b o n cap:Nat} {l:List UInt8} (h:Rd w (some ⟨b,o,none⟩) (aq l)) {k:Nat} {c:UInt8} (hc:l[k]? = some c):w.cell? ⟨b,o+k,none⟩=some (.int .u8 c.toNat):=by
 obtain ⟨hlt,e⟩:=List.getElem?_eq_some_iff.1 hc;obtain ⟨b',o',e2,_,hx⟩:=h (by intro e;have h3:=aA l;rw [e,List.length_nil] at h3;omega);obtain ⟨rfl,rfl⟩:b=b'/\o=o':=by simpa using e2
 rw [hx k (by rw [aA];exact hlt)];simp [aq,e]
theorem Rd.some_ {w:World} {A:Option Addr} {l:List UInt8} (h:Rd w A (aq l)) (hl:0<l.length):∃ b o,A=some ⟨b,o,none⟩/\b<w.heap.size:=by
 obtain ⟨b,o,e,hb,_⟩:=h (by intro e;have h3:=aA l;rw [e,List.length_nil] at h3;omega);exact ⟨b,o,e,hb⟩
theorem jE (v1 v2:Value) (l1 l2:List UInt8) (w:World) (h1:BS w v1 l1) (h2:BS w v2 l2) (hl1:l1.length<=4194304) (hl2:l2.length<=4194304) :
  Calls Tryz.prog 204 #[v1,v2] w λ e w'=>e=.returned (.bool (decide (l1.take l2.length=l2)))/\∃ q,w.drewN q=w':=by
 obtain ⟨A1,c1,rfl,hc1,hr1⟩:=h1;obtain ⟨A2,c2,rfl,hc2,hr2⟩:=h2;obtain ⟨bb,hbb⟩:∃ b,decide (l1.take l2.length=l2)=b:=⟨_,rfl⟩
 rw [hbb];have HB:=aW hbb;by_cases hlen:l1.length<l2.length
 ·have HF:=aW (show bb=false by rw [← hbb,decide_eq_false_iff_not];intro e;have:=congrArg List.length e;simp at this;omega);clear hbb;go_enter Tryz.func204,Tryz.ntmps204;go_wp2;go_ret;exact ⟨ak HF.out.symm,0,rfl⟩
 ·obtain ⟨n1,hn1⟩:∃ n,l1.length=n:=⟨_,rfl⟩
  obtain ⟨n2,hn2⟩:∃ n,l2.length=n:=⟨_,rfl⟩
  rw [hn1] at hl1 hlen ⊢;rw [hn2] at hl2 hlen ⊢;have H1:=aW hn1;have H2:=aW hn2;clear hbb hn1 hn2 hc1 hc2;go_enter Tryz.func204,Tryz.ntmps204;go_wp2;go_loopg [5] n2 (λ gk i wr => ∃ k q:Nat,k<=n2/\gk=n2-k/\i=.int .i64 k/\wr=w.drewN q/\l1.take k=l2.take k)
  case atStart=>exact ⟨0,0,Nat.zero_le _,rfl,rfl,rfl,rfl⟩
  case round =>
   obtain ⟨k,q,hk,hgk,rfl,rfl,heq⟩:=hrel;have HG:=aW hgk;have HE:=aW heq;clear hgk heq;by_cases hlt:k<n2
   ·obtain ⟨x,hx⟩:∃ x,l1[k]? = some x:=⟨_,List.getElem?_eq_getElem (by rw [H1.out];omega)⟩
    obtain ⟨y,hy⟩:∃ x,l2[k]? = some x:=⟨_,List.getElem?_eq_getElem (by rw [H2.out];exact hlt)⟩
    obtain ⟨b1,o1,rfl,hb1⟩:=hr1.some_ (by rw [H1.out];omega);obtain ⟨b2,o2,rfl,hb2⟩:=hr2.some_ (by rw [H2.out];omega);have p1:=BS.at_ (n:=0) (cap:=0) hr1 hx;have p2:=BS.at_ (n:=0) (cap:=0) hr2 hy;have HX:=aW hx;have HY:=aW hy;clear hx hy;by_cases hxy:x=y
    ·subst hxy;go_wp2;go_quiet (fail);go_wp2;go_roundg (n2-(k+1))
     case measure=>rw [HG.out];omega
     case rel=>exact ⟨k+1,q+nq,hlt,rfl,by go_num,rfl,by rw [List.take_add_one,List.take_add_one,HE.out,HX.out,HY.out]⟩
    ·have hne:((x.toNat:Int) != (y.toNat:Int))=true:=by
      have:x.toNat≠y.toNat:=λ e=>hxy (UInt8.toNat_inj.1 e)
      simp;omega
     have HF:=aW (show bb=false by
      rw [← HB.out,decide_eq_false_iff_not];intro e;have h1:=HY.out;rw [← e,List.getElem?_take,if_pos (by rw [H2.out];exact hlt),HX.out] at h1;exact hxy (Option.some.inj h1))
     go_wp2;go_quiet (fail);go_wp2;go_ret;exact ⟨ak HF.out.symm,q+nq,(World.drewN_drewN _ _ _).symm⟩
   ·obtain rfl:k=n2:=by omega
    have HF:=aW (show bb=true by
     rw [← HB.out,decide_eq_true_eq,H2.out,HE.out,List.take_of_length_le (by rw [H2.out];exact Nat.le_refl _)])
    go_wp2;go_ret;exact ⟨ak HF.out.symm,q,rfl⟩
def qd (n:Nat):Nat:=if n=1 then 256 else if n=2 then 32 else if n=3 then 16 else 8
def cC (l:List UInt8) (n:Nat):Nat:=(l.headD 0).toNat % qd n
theorem oZ (l:List UInt8) (n:Nat) (h1:1<=n) (h4:n<=4):bw l n=cH l (cC l n) (n-1):=by
 rcases (by omega:n=1∨n=2∨n=3∨n=4) with rfl | rfl | rfl | rfl<;>rfl
theorem lj {l:List UInt8} (h:∀ m,1<=m->m<5->bQ l m=false):au l=(0,0) :=
 dk (h 1 (by omega) (by omega)) (h 2 (by omega) (by omega)) (h 3 (by omega) (by omega)) (h 4 (by omega) (by omega))
theorem mu {l:List UInt8} {n:Nat} (h1:1<=n) (h4:n<=4) (h:∀ m,1<=m->m<n->bQ l m=false) (hn:bQ l n=true):au l=(bw l n,n):=by
 rcases (by omega:n=1∨n=2∨n=3∨n=4) with rfl | rfl | rfl | rfl
 ·exact mp hn
 ·exact p6 (h 1 (by omega) (by omega)) hn
 ·exact p7 (h 1 (by omega) (by omega)) (h 2 (by omega) (by omega)) hn
 ·exact p8 (h 1 (by omega) (by omega)) (h 2 (by omega) (by omega)) (h 3 (by omega) (by omega)) hn
def qJ (r:Nat × Nat) (w:World) (e:Ending) (w':World):Prop:=e=.returned (.tuple #[.int .i64 r.1,.int .i64 r.2])/\Below w.heap.size w w'
theorem pB (v:Value) (l:List UInt8) (w:World) (hv:BS w v l) (hl:l.length<=4194304):Calls Tryz.prog 190 #[v] w (qJ (au l) w):=by
 obtain ⟨A,cap,rfl,hcap,hr⟩:=hv;obtain ⟨r,hr0⟩:∃ r,au l=r:=⟨_,rfl⟩
 rw [hr0];have HR0:=aW hr0;clear hr0;go_enter Tryz.func190,Tryz.ntmps190;go_wp2;go_loopg [4] 5 (λ gk s4 wr => ∃ n:Nat,1<=n/\n<=5/\gk=6-n/\s4=.int .i64 n/\Below w.heap.size w wr/\Hid (∀ m,1<=m->m<n->bQ l m=false))
 case atStart=>exact ⟨1,by omega,by omega,rfl,rfl,Below.refl _ _,aW (by intro m h1 h2;omega)⟩
 case round =>
  obtain ⟨n,hn1,hn5,hgk,rfl,hb,HNO⟩:=hrel;have HG:=aW hgk;clear hgk;by_cases hdone:n<=4/\n<=l.length
  ·obtain ⟨hn4,hnl⟩:=hdone;obtain ⟨b,o,rfl,hbb⟩:=hr.some_ (by omega);have hrw:Rd wr (some ⟨b,o,none⟩) (aq l):=hr.below hb;have hbw:b<wr.heap.size:=Nat.lt_of_lt_of_le hbb hb.size;obtain ⟨c0,hc0⟩:∃ c,l[0]? = some c:=⟨_,List.getElem?_eq_getElem (by omega)⟩
   have hx0:=BS.at_ (n:=0) (cap:=0) hrw hc0;rw [Nat.add_zero] at hx0;have hhd:l.headD 0=c0:=by cases l with | nil=>simp at hc0 | cons x y=>simpa using hc0
   have HRW:=aW hrw;have hfb:cC l n=c0.toNat % qd n:=by unfold cC;rw [hhd]
   have HF:=aW hfb;have hb0:=c0.toNat_lt;clear hrw hc0 hhd hfb;go_upto_if 23 with fail;go_cut [5] (λ s5 wx=>s5=.int .i64 (cC l n)/\Below wr.heap.size wr wx)
   case first =>
    rcases (by omega:n=1∨n=2∨n=3∨n=4) with rfl | rfl | rfl | rfl
    ·go_wp2;go_meet
     case rel=>exact ⟨by rw [HF.out];simp [qd];try omega,Below.refl _ _⟩
    all_goals
     go_wp2
     go_region
     all_goals
      go_wp2;go_meet
      case rel=>exact ⟨by rw [HF.out];simp [qd],by go_grown⟩
   case rest =>
    obtain ⟨rfl,hbx⟩:=hcut;obtain ⟨wo,rfl⟩:∃ wo:World,wo=wr:=⟨_,rfl⟩
    have hbc:Below w.heap.size w wc:=hb.trans (hbx.mono hb.size);have hbwc:b<wc.heap.size:=Nat.lt_of_lt_of_le hbb hbc.size;have HRC:=aW (hr.below hbc);have hbig:∀ k,k<=3->cH l (cC l n) k<67108864:=λ k hk=>by
     have h1:=jS l (cC l n) k;have h2:cC l n<256:=by rw [HF.out];exact Nat.lt_of_le_of_lt (Nat.mod_le _ _) hb0
     have h3:(64:Nat) ^ k<=64 ^ 3:=Nat.pow_le_pow_right (by omega) hk;have h4:(cC l n+1)*64 ^ k<=256*64 ^ 3:=Nat.mul_le_mul (by omega) h3;omega
    have HBIG:=aW hbig;clear hbig hx0 HRW;have hf0:cH l (cC l n) 0=cC l n:=by simp [cH]
    have HF0:=aW hf0;clear hf0;go_wp2;go_loopg [5,6] n (λ gk s5 s6 wx => ∃ k:Nat,1<=k/\k<=n/\gk=n+1-k/\s6=.int .i64 k/\s5=.int .i64 (cH l (cC l n) (k-1))/\wx=wc)
    case atStart=>exact ⟨1,by omega,hn1,by omega,rfl,by rw [show 1-1=0 from rfl,HF0.out],rfl⟩
    case round =>
     obtain ⟨k,hk1,hkn,hgk2,rfl,rfl,rfl⟩:=hrel;have HG2:=aW hgk2;clear hgk2;have hP:=HBIG.out (k-1) (by omega);by_cases hlt:k<n
     ·obtain ⟨c,hc⟩:∃ c,l[k]? = some c:=⟨_,List.getElem?_eq_getElem (by omega)⟩
      have hx:=BS.at_ (n:=0) (cap:=0) HRC.out hc;have hg:=gw (p:=cC l n) (show l[k-1+1]? = some c by rw [show k-1+1=k from by omega];exact hc);obtain ⟨P,hPe⟩:∃ P,cH l (cC l n) (k-1)=P:=⟨_,rfl⟩
      rw [hPe] at hg hP ⊢;have HGS:=aW hg;have hcb:=c.toNat_lt;clear hc hg hPe;go_wp2;go_roundg (n+1-(k+1))
      case measure=>rw [HG2.out];omega
      case rel=>exact ⟨k+1,by omega,hlt,rfl,by go_num,by rw [show k+1-1=k-1+1 from by omega,HGS.out];go_num,rfl⟩
     ·obtain rfl:k=n:=by omega
      obtain ⟨P,hPe⟩:∃ P,cH l (cC l k) (k-1)=P:=⟨_,rfl⟩
      have hnum:bw l k=P:=by rw [oZ l k hk1 hn4,hPe]
      rw [hPe] at hP ⊢;have HN:=aW hnum;clear hPe hlt hnum;cases hcp:nR (P:Int) with
      |false =>
       have HI:=aW (show Calls Tryz.prog 180 #[.int .i64 P] wr λ e w'=>e=.returned (.bool false)/\wr=w' by have:=qt P wr;rw [hcp] at this;exact this);have HNO2:=aW (show ∀ m,1<=m->m<k+1->bQ l m=false from λ m h1 h2=>by
        rcases Nat.lt_or_ge m k with h | h
        ·exact HNO.out m h1 h
        ·obtain rfl:m=k:=by omega
         unfold bQ;rw [HN.out,hcp];simp)
       clear hcp;go_wp2_with (go_at_call 180;refine HI.out.mono ?_;rintro e w1 ⟨rfl,rfl⟩);go_roundg (6-(k+1))
       case measure=>rw [HG.out];omega
       case rel=>exact ⟨k+1,by omega,by omega,rfl,by go_num,hbc,HNO2⟩
      |true =>
       have hrange:(P:Int)<=1114111:=by have:=hcp;unfold nR at this;have:=of_decide_eq_true this;omega
       have HI:=aW (show Calls Tryz.prog 180 #[.int .i64 P] wr λ e w'=>e=.returned (.bool true)/\wr=w' by have:=qt P wr;rw [hcp] at this;exact this);have HB:=aW (pC P wr (by omega) hrange);have hcl:(ai P).length<=4:=by unfold ai;(repeat' split)<;>simp
       rw [Int.toNat_natCast] at HB;obtain ⟨u,hu⟩:∃ u,ai P=u:=⟨_,rfl⟩
       rw [hu] at HB hcl;have hok:bQ l k=(decide (k=u.length) && decide (l.take u.length=u)):=by
        unfold bQ;rw [HN.out,hcp,hu,decide_eq_true hnl,Bool.eq_iff_iff];simp only [Bool.true_and,beq_iff_eq,Bool.and_eq_true,decide_eq_true_eq];constructor
        ·intro e;have h1:k=u.length:=by rw [e,List.length_take];omega
         exact ⟨h1,by rw [← h1,← e]⟩
        ·rintro ⟨h1,h2⟩;rw [h1];exact h2.symm
       have HOK:=aW hok;clear hcp hu hok;by_cases hlen:k=u.length
       ·have hlb:((u.length:Int) == (k:Int))=true:=by simp;omega
        cases hst:decide (l.take u.length=u) with
        |true =>
         have HRET:=aW (show r=(P,k) by rw [← HR0.out,mu hk1 hn4 HNO.out (by rw [HOK.out,decide_eq_true hlen,hst];rfl),HN.out]);clear hlen;go_wp2_with fail;refine HI.out.mono ?_;rintro e w1 ⟨rfl,rfl⟩;go_wp2_with fail;refine HB.out.mono ?_;rintro e w2 ⟨v2,rfl,hv2,hb2⟩;have hS:=jE (.slice (some ⟨b,o,none⟩) l.length cap) v2 l u w2 ⟨_,_,rfl,hcap,HRC.out.below hb2⟩ hv2 hl (by omega);rw [hst] at hS;have HS:=aW hS;obtain ⟨A2,c2,rfl,hc2,hr2⟩:=hv2;clear hS hst;go_wp2_with fail;refine HS.out.mono ?_;rintro e w3 ⟨rfl,q,rfl⟩;go_wp2;go_ret2;rw [HRET.out];exact ⟨rfl,ah (hbc.trans (hb2.mono hbc.size)) q⟩
        |false =>
         have HNO2:=aW (show ∀ m,1<=m->m<k+1->bQ l m=false from λ m h1 h2=>by
          rcases Nat.lt_or_ge m k with h | h
          ·exact HNO.out m h1 h
          ·obtain rfl:m=k:=by omega
           rw [HOK.out,hst];simp)
         clear hlen;go_wp2_with fail;refine HI.out.mono ?_;rintro e w1 ⟨rfl,rfl⟩;go_wp2_with fail;refine HB.out.mono ?_;rintro e w2 ⟨v2,rfl,hv2,hb2⟩;have hS:=jE (.slice (some ⟨b,o,none⟩) l.length cap) v2 l u w2 ⟨_,_,rfl,hcap,HRC.out.below hb2⟩ hv2 hl (by omega);rw [hst] at hS;have HS:=aW hS;obtain ⟨A2,c2,rfl,hc2,hr2⟩:=hv2;clear hS hst;go_wp2_with fail;refine HS.out.mono ?_;rintro e w3 ⟨rfl,q,rfl⟩;go_wp2_with fail;go_roundg (6-(k+1))
         case measure=>rw [HG.out];omega
         case rel=>exact ⟨k+1,by omega,by omega,rfl,by go_num,ah (hbc.trans (hb2.mono hbc.size)) q,HNO2⟩
       ·have hlb:((u.length:Int) == (k:Int))=false:=by simp;omega
        have HNO2:=aW (show ∀ m,1<=m->m<k+1->bQ l m=false from λ m h1 h2=>by
         rcases Nat.lt_or_ge m k with h | h
         ·exact HNO.out m h1 h
         ·obtain rfl:m=k:=by omega
          rw [HOK.out,decide_eq_false hlen];simp)
        go_wp2_with fail;refine HI.out.mono ?_;rintro e w1 ⟨rfl,rfl⟩;go_wp2_with fail;refine HB.out.mono ?_;rintro e w2 ⟨v2,rfl,hv2,hb2⟩;obtain ⟨A2,c2,rfl,hc2,hr2⟩:=hv2;go_wp2_with fail;go_roundg (6-(k+1))
        case measure=>rw [HG.out];omega
        case rel=>exact ⟨k+1,by omega,by omega,rfl,by go_num,hbc.trans (hb2.mono hbc.size),HNO2⟩
  ·have HRET:=aW (show r=(0,0) by
    rw [← HR0.out];refine lj λ m h1 h2=>?_
    rcases Nat.lt_or_ge m n with h | h
    ·exact HNO.out m h1 h
    ·exact cO l m (by omega))
   by_cases h4:n<=4
   ·have h5:l.length<n:=by omega
    go_wp2;go_ret2;rw [HRET.out];exact ⟨rfl,hb⟩
   ·have h5:(4:Int)<(n:Int):=by omega
    go_wp2;go_ret2;rw [HRET.out];exact ⟨rfl,hb⟩
end
end Go.Proofs.YtgmnmnnoahdjnaaGreatDoor
