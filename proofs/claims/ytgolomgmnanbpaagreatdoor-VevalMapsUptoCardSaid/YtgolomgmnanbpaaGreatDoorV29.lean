import Derived.Test.YtgolomgmnanbpaaGreatDoorV26
open Go.Value renaming int → Zi, slice → Zs, string → Zt, pointer → Zp
open Go.IntKind renaming i64 → Zq
set_option maxRecDepth 100000
set_option maxHeartbeats 16000000
set_option linter.unusedVariables false
set_option linter.unusedSimpArgs false
namespace Go.Proofs.YtgolomgmnanbpaaGreatDoor
section
open Go.RowKit
attribute [local go_sem] aa ac ae ab
def bU (x:Nat) (base:List UInt8):Nat->List UInt8
 | 0=>base
 | c+1=>if bt c=some x/\c≠47 then [92,UInt8.ofNat c] else bU x base c
theorem j6 {x:Nat} {base:List UInt8}:∀ {c:Nat},(∀ k,k<c->¬ (bt k=some x/\k≠47))->bU x base c=base
 | 0,_=>rfl
 | c+1,h=>by rw [bU,if_neg (h c (Nat.lt_succ_self c)),j6 (λ k hk=>h k (by omega))]
theorem gp {k x:Nat} (h:bt k=some x) (hk:k≠47):kp x=some k:=by
 unfold bt at h
 repeat' split at h
 all_goals first
  | (simp only [Option.some.injEq] at h;subst h;subst_vars;first | rfl | exact absurd rfl hk)
  | cases h
theorem lx {x s:Nat} {base:List UInt8} (hs:bt s=some x/\s≠47):∀ {c:Nat},s<c->bU x base c=[92,UInt8.ofNat s]
 | 0,h=>by omega
 |c+1,h=>by
  rw [bU];by_cases hc:bt c=some x/\c≠47
  ·rw [if_pos hc];have h1:=gp hc.1 hc.2;have h2:=gp hs.1 hs.2;rw [h1] at h2;rw [Option.some.inj h2]
  ·rw [if_neg hc];refine lx hs ?_;rcases Nat.lt_or_ge s c with h3 | h3
   ·exact h3
   ·exact absurd (by rw [show c=s by omega];exact hs) hc
theorem qk (x:Nat):bU x (if x<32 then [92,117,48,48,UInt8.ofNat (48+x / 16),UInt8.ofNat (jA (x % 16))] else ai x) 128=aB x:=by
 unfold aB;cases he:kp x with
 |some s =>
  have h:=pk he;rw [lx (s:=s) ⟨h.2.1,by omega⟩ (by omega)]
 |none =>
  rw [j6];intro k _ ⟨h1,h2⟩;rw [gp h1 h2] at he;cases he
theorem rg (k:Nat) (h:k<(⟨#[48,49,50,51,52,53,54,55,56,57,97,98,99,100,101,102]⟩:ByteArray).size):(⟨#[48,49,50,51,52,53,54,55,56,57,97,98,99,100,101,102]⟩:ByteArray)[k]=UInt8.ofNat (jA k):=by
 have key:∀ k:Fin 16,(⟨#[48,49,50,51,52,53,54,55,56,57,97,98,99,100,101,102]⟩:ByteArray)[k.1]=UInt8.ofNat (jA k.1):=by decide
 exact key ⟨k,h⟩
theorem sQ {cs:List Nat} (h:0<cs.length):kP cs≠[]:=by
 intro e;have:=congrArg List.length e;simp only [kP,List.length_map,List.length_nil] at this;omega
def lS (w:World) (l:List UInt8) (v:Value) (W:World):Prop:=W.ownsRow w.heap.size 5 1 v l.length (al l)/\Below w.heap.size w W
theorem lS.bel {w W W':World} {l:List UInt8} {v:Value} (h:lS w l v W) (hb:Below W.heap.size W W'):lS w l v W':=⟨il h.1 hb,h.2.trans (hb.mono h.2.size)⟩
theorem sS (A:Option Addr) (n cap:Nat) (cs:List Nat) (w:World) (hn:cs.length=n) (hcap:n<=cap) (hr:Rd w A (kP cs)) (hcp:∀ c ∈ cs,eC (c:Int)=true) (hn8:n<=4194304) :
  Calls Tryz.prog 173 #[.slice A n cap] w (gK (34::cs.flatMap aB++[34]) w):=by
 obtain ⟨i0,hi,hz0,hz1,hz2⟩:=info_parts nS;have HI:=aW hi;have HN:=aW hn;have HR:=aW hr;have HCP:=aW hcp;have HB0:=aW (show lS w [34] (.slice (some ⟨w.heap.size,0,none⟩) 1 1) (w.alloc (.cells #[.int .u8 34] 5)) from
  ⟨⟨rfl,.inr ⟨w.heap.size,1,_,rfl,Nat.le_refl _,Blk.new w 5 #[.int .u8 34],Nat.le_refl _,by decide,rfl,rfl⟩⟩,(Below.refl _ w).alloc (Nat.le_refl _) _⟩)
 clear hi hn hr hcp;go_enter Tryz.func173,Tryz.ntmps173;go_wp2;go_loopg [3,5,6,7] n (λ gk s3 s5 s6 s7 wr => ∃ (i:Nat),gk=n-i/\i<=n/\s5=.int .i64 i/\Hid (lS w (34::(cs.take i).flatMap aB) s3 wr))
 case atStart=>exact ⟨0,rfl,Nat.zero_le _,by go_num,HB0⟩
 case round =>
  obtain ⟨i,hgk,hi,rfl,HX⟩:=hrel;have HG:=aW hgk;clear hgk HB0;by_cases hlt:i<n
  ·obtain ⟨x,hx⟩:∃ x,cs[i]? = some x:=⟨_,List.getElem?_eq_getElem (by rw [HN.out];exact hlt)⟩
   have hcx:=HCP.out x (List.mem_of_getElem? hx);have hle:=(d8 x).1 hcx;obtain ⟨b,oo,rfl,hb,hrc⟩:=HR.out (sQ (by rw [HN.out];omega));have hbr:b<wr.heap.size:=Nat.lt_of_lt_of_le hb HX.out.2.size;have hcell0:w.cell? ⟨b,oo+i,none⟩=some (.int .i64 (x:Int)):=by
    rw [hrc i (by simp [kP,HN.out];exact hlt)];have:=(List.getElem?_eq_some_iff.1 hx).2;simp [kP,this]
   have HCL:=aW (λ (W:World) (h:Below w.heap.size w W)=>(h.cell (p:=⟨b,oo+i,none⟩) hb).trans hcell0);have htk:(cs.take (i+1)).flatMap aB=(cs.take i).flatMap aB++aB x:=by rw [List.take_add_one,hx];simp
   have hbd:(34::(cs.take i).flatMap aB).length+6<=140737488355328:=by
    have h:=gY (cs.take i);have h2:(cs.take i).length<=n:=by rw [List.length_take];omega
    rw [List.length_cons];omega
   obtain ⟨L,hL⟩:∃ L,34::(cs.take i).flatMap aB=L:=⟨_,rfl⟩
   rw [hL] at HX hbd;have HND:=aW (show 34::(cs.take (i+1)).flatMap aB=L++aB x by rw [htk,← hL];rfl);have HBD:=aW hbd;have HOA:=aW (qk x);have HQL:=aW (lD x);obtain ⟨xi,hxi⟩:∃ xi:Int,(x:Int)=xi:=⟨_,rfl⟩
   have HBY:=aW (λ W=>jU (x:Int) W (by omega) (by omega));rw [Int.toNat_natCast] at HBY;rw [hxi] at HCL HBY;have hx0:0<=xi:=by omega
   have hx1:xi<=9223372036854775807:=by omega
   have HXI:=aW hxi;obtain ⟨A3,n3,c3,rfl⟩:∃ A n c,u3=.slice A n c:=by
    obtain ⟨a,c,e,_⟩:=Rd.of_own HX.out.1;exact ⟨_,_,_,e⟩
   have hcell:=HCL.out wr HX.out.2;clear hcx hle hrc hcell0 htk hbd hL hxi hx;go_wp2_with fail;refine (HBY.out _).mono ?_;rintro e w3 ⟨v6,rfl,hv6,hb3⟩;have HX3:=aW (HX.out.bel hb3);have HV6:=aW hv6;obtain ⟨A6,c6,rfl,_⟩:=hv6;have hcell3:=HCL.out w3 HX3.out.2;have hbr3:b<w3.heap.size:=Nat.lt_of_lt_of_le hb HX3.out.2.size;clear hb3 hcell hbr;by_cases h32:xi<32
   ·have hx32:x<32:=by have:=HXI.out;omega
    have HXN:=aW (show xi.toNat=x by have:=HXI.out;omega);obtain ⟨base,hbase⟩:∃ base,base=[92,117,48,48,UInt8.ofNat (48+x / 16),UInt8.ofNat (jA (x % 16))]:=⟨_,rfl⟩
    have HBA0:=aW hbase;have HOAB:=aW (show bU x base 128=aB x by have h:=HOA.out;rw [if_pos hx32,← hbase] at h;exact h);clear hbase;have hq0:0<=xi / 16:=by omega
    have hq1:xi / 16<16:=by omega
    have hm0:0<=xi % 16:=by omega
    have hm1:xi % 16<16:=by omega
    go_wp2
    go_region
    go_wp2;have HLB:=aW (λ (h1:(xi / 16).toNat<(⟨#[48,49,50,51,52,53,54,55,56,57,97,98,99,100,101,102]⟩:ByteArray).size) (h2:(xi % 16).toNat<(⟨#[48,49,50,51,52,53,54,55,56,57,97,98,99,100,101,102]⟩:ByteArray).size) =>
     show (#[.int .u8 92,.int .u8 117,.int .u8 48,.int .u8 48,.int .u8 ((⟨#[48,49,50,51,52,53,54,55,56,57,97,98,99,100,101,102]⟩:ByteArray)[(xi / 16).toNat].toNat),.int .u8 ((⟨#[48,49,50,51,52,53,54,55,56,57,97,98,99,100,101,102]⟩:ByteArray)[(xi % 16).toNat].toNat)]:Array Value)=(al base).toArray by
      have e1:(xi / 16).toNat=x / 16:=by have:=HXI.out;omega
      have e2:(xi % 16).toNat=x % 16:=by have:=HXI.out;omega
      rw [rg,rg,e1,e2,HBA0.out];have e3:jA (x / 16)=48+x / 16:=by unfold jA;rw [if_pos (by omega)]
      rw [e3];rfl)
    clear hcell3 hbr3 hx32;go_loopg [6,7] 128 (λ gk s6 s7 wx => ∃ c:Nat,gk=128-c/\c<=128/\s7=.int .u8 c/\Hid (BS wx s6 (bU x base c))/\Hid (lS w L (.slice A3 n3 c3) wx))
    case atStart=>exact ⟨0,rfl,by omega,rfl,aW (BS.lit w3 base _ (HLB.out _ _) 6 (by rw [HBA0.out];rfl)),aW (HX3.out.bel (((Below.refl _ w3).alloc (Nat.le_refl _) _).drew))⟩
    case round =>
     obtain ⟨c,hgk2,hc128,rfl,HBS,HX7⟩:=hrel;have HG2:=aW hgk2;clear hgk2;by_cases hc:c<128
     ·have hu:(UInt8.ofNat c).toNat=c:=oN8 c (by omega);obtain ⟨r,hr9⟩:∃ r,sT (bt c)=r:=⟨_,rfl⟩
      have HLT:=aW (λ W=>show Calls Tryz.prog 193 #[.int .u8 (c:Int)] W (λ e w'=>e=.returned (.int .i64 r)/\Below W.heap.size W w') by
       have h:=gJ (UInt8.ofNat c) W;rw [hu,hr9] at h;exact h)
      have hcell7:=HCL.out wr HX7.out.2;have hbr7:b<wr.heap.size:=Nat.lt_of_lt_of_le hb HX7.out.2.size;have HCX:=aW (λ (W:World) (h:Below wr.heap.size wr W)=>HCL.out W (HX7.out.bel h).2);have HBX:=aW (λ (W:World) (h:Below wr.heap.size wr W)=>Nat.lt_of_lt_of_le hbr7 h.size);have HRX:=aW hr9;clear hu hr9;by_cases hit:bt c=some x
      ·have hrx:r=xi:=by rw [← HRX.out,hit,← HXI.out];rfl
       subst hrx;by_cases h47:c=47
       ·have HOT:=aW (show bU x base (c+1)=bU x base c by rw [bU,if_neg (λ h=>h.2 h47)]);subst h47;clear hit;go_wp2
        first | (go_region_with (go_at_call 193;refine (HLT.out _).mono ?_;rintro e w5 ⟨rfl,hb5⟩;have hd5:Below wr.heap.size wr w5:=(Below.refl wr.heap.size wr).drew.trans hb5;have hc5:=HCX.out w5 hd5;have hl5:=HBX.out w5 hd5)) | fail "no way"
        all_goals
         have HXA:=aW (HX7.out.bel hd5);have HBA:=aW (HBS.out.below hd5);clear hb5 hd5 hc5 hl5 hcell7 hbr7;go_wp2;go_roundg (128-(47+1))
         case measure=>rw [HG2.out];omega
         case rel=>exact ⟨47+1,rfl,by omega,by go_num,aW (by rw [HOT.out];exact HBA.out),HXA⟩
       ·have HOT:=aW (show bU x base (c+1)=[92,UInt8.ofNat c] by rw [bU,if_pos ⟨hit,h47⟩]);have h47':((c:Int) != 47)=true:=by simp;omega
        have HU8:=aW (oN8 c (by omega));clear hit;go_wp2
        first | (go_region_with (go_at_call 193;refine (HLT.out _).mono ?_;rintro e w5 ⟨rfl,hb5⟩;have hd5:Below wr.heap.size wr w5:=(Below.refl wr.heap.size wr).drew.trans hb5;have hc5:=HCX.out w5 hd5;have hl5:=HBX.out w5 hd5)) | fail "no way"
        all_goals
         have HXA:=aW (HX7.out.bel hd5);clear hb5 hd5 hc5 hl5 hcell7 hbr7;go_wp2;go_roundg (128-(c+1))
         case measure=>rw [HG2.out];omega
         case rel=>exact ⟨c+1,rfl,by omega,by go_num,aW (by rw [HOT.out];exact BS.lit _ _ _ (by simp only [al,List.map_cons,List.map_nil,HU8.out];rfl) 2 rfl),aW (HXA.out.bel ((Below.refl _ _).alloc (Nat.le_refl _) _))⟩
      ·have hrx:r≠xi:=by
        rw [← HRX.out];intro e;cases hl:bt c with
        | none=>rw [hl] at e;have:(-1:Int)=xi:=e;omega
        | some y=>rw [hl] at e;have:(y:Int)=xi:=e;rw [← HXI.out] at this;exact hit (by rw [hl];congr 1;omega)
       have hrb:(r == xi)=false:=by simp [hrx]
       have HOT:=aW (show bU x base (c+1)=bU x base c by rw [bU,if_neg (λ h=>hit h.1)]);clear hit hrx;go_wp2
       first | (go_region_with (go_at_call 193;refine (HLT.out _).mono ?_;rintro e w5 ⟨rfl,hb5⟩;have hd5:Below wr.heap.size wr w5:=(Below.refl wr.heap.size wr).drew.trans hb5;have hc5:=HCX.out w5 hd5;have hl5:=HBX.out w5 hd5)) | fail "no way"
       all_goals
        have HXA:=aW (HX7.out.bel hd5);have HBA:=aW (HBS.out.below hd5);clear hb5 hd5 hc5 hl5 hcell7 hbr7;go_wp2;go_roundg (128-(c+1))
        case measure=>rw [HG2.out];omega
        case rel=>exact ⟨c+1,rfl,by omega,by go_num,aW (by rw [HOT.out];exact HBA.out),HXA⟩
     ·obtain rfl:c=128:=by omega
      rw [HOAB.out] at HBS;obtain ⟨A9,c9,rfl,hc9,hr9⟩:=HBS.out;have HR9:=aW hr9;have HA9:=aW (show A9=none->(aB x).length=0 from λ e=>by
       rcases Nat.eq_zero_or_pos (aB x).length with h | h
       ·exact h
       ·obtain ⟨_,_,e',_⟩:=Rd.some_ hr9 h;rw [e] at e';cases e')
      obtain ⟨q9,hq9⟩:∃ q9,(aB x).length=q9:=⟨_,rfl⟩
      have HQ9:=aW hq9;rw [hq9] at HA9 ⊢;clear hq9 hc9 hr9 hc;have hBw:=HX7.out.2.size;go_wp2_with (at_builtin;refine ag _ rfl _ _ 76 rfl w.heap.size 5 i0 _ 1 1 Tryz.underlying76 HI.out hz0 hz1 hz2 rfl (by decide) _ _ _ rfl HX7.out.1 A9 q9 c9 HA9.out (al (aB x)) rfl (by rw [bJ,Nat.mul_one];exact HQ9.out) HR9.out (aC _) (by have h1:=HBD.out;have h2:=HQL.out;have h3:=HQ9.out;unfold maxLen;omega) (by have h1:=HBD.out;have h2:=HQL.out;have h3:=HQ9.out;omega) hBw ?_;intro v' w8 hown' hgr _);have HY:=aW (show lS w (L++aB x) v' w8 from ⟨by rw [List.length_append,HQ9.out,dW];exact hown',HX7.out.2.grown hgr hBw (λ k e=>(HX7.out.1.lt k e).1)⟩);clear hown' hgr;go_roundg (n-(i+1))
      case measure=>rw [HG.out];omega
      case rel=>exact ⟨i+1,rfl,hlt,by go_num,aW (by rw [HND.out];exact HY.out)⟩
   ·have hx32:¬ x<32:=by have:=HXI.out;omega
    obtain ⟨base,hbase⟩:∃ base,base=ai x:=⟨_,rfl⟩
    have HOAB:=aW (show bU x base 128=aB x by have h:=HOA.out;rw [if_neg hx32,← hbase] at h;exact h);have HVB:=aW (show BS w3 (.slice A6 (ai x).length c6) base by rw [hbase];exact HV6.out);go_wp2;clear hcell3 hbr3 hx32 hbase;go_loopg [6,7] 128 (λ gk s6 s7 wx => ∃ c:Nat,gk=128-c/\c<=128/\s7=.int .u8 c/\Hid (BS wx s6 (bU x base c))/\Hid (lS w L (.slice A3 n3 c3) wx))
    case atStart=>exact ⟨0,rfl,by omega,rfl,aW (HVB.out),aW (HX3.out)⟩
    case round =>
     obtain ⟨c,hgk2,hc128,rfl,HBS,HX7⟩:=hrel;have HG2:=aW hgk2;clear hgk2;by_cases hc:c<128
     ·have hu:(UInt8.ofNat c).toNat=c:=oN8 c (by omega);obtain ⟨r,hr9⟩:∃ r,sT (bt c)=r:=⟨_,rfl⟩
      have HLT:=aW (λ W=>show Calls Tryz.prog 193 #[.int .u8 (c:Int)] W (λ e w'=>e=.returned (.int .i64 r)/\Below W.heap.size W w') by
       have h:=gJ (UInt8.ofNat c) W;rw [hu,hr9] at h;exact h)
      have hcell7:=HCL.out wr HX7.out.2;have hbr7:b<wr.heap.size:=Nat.lt_of_lt_of_le hb HX7.out.2.size;have HCX:=aW (λ (W:World) (h:Below wr.heap.size wr W)=>HCL.out W (HX7.out.bel h).2);have HBX:=aW (λ (W:World) (h:Below wr.heap.size wr W)=>Nat.lt_of_lt_of_le hbr7 h.size);have HRX:=aW hr9;clear hu hr9;by_cases hit:bt c=some x
      ·have hrx:r=xi:=by rw [← HRX.out,hit,← HXI.out];rfl
       subst hrx;by_cases h47:c=47
       ·have HOT:=aW (show bU x base (c+1)=bU x base c by rw [bU,if_neg (λ h=>h.2 h47)]);subst h47;clear hit;go_wp2
        first | (go_region_with (go_at_call 193;refine (HLT.out _).mono ?_;rintro e w5 ⟨rfl,hb5⟩;have hd5:Below wr.heap.size wr w5:=(Below.refl wr.heap.size wr).drew.trans hb5;have hc5:=HCX.out w5 hd5;have hl5:=HBX.out w5 hd5)) | fail "no way"
        all_goals
         have HXA:=aW (HX7.out.bel hd5);have HBA:=aW (HBS.out.below hd5);clear hb5 hd5 hc5 hl5 hcell7 hbr7;go_wp2;go_roundg (128-(47+1))
         case measure=>rw [HG2.out];omega
         case rel=>exact ⟨47+1,rfl,by omega,by go_num,aW (by rw [HOT.out];exact HBA.out),HXA⟩
       ·have HOT:=aW (show bU x base (c+1)=[92,UInt8.ofNat c] by rw [bU,if_pos ⟨hit,h47⟩]);have h47':((c:Int) != 47)=true:=by simp;omega
        have HU8:=aW (oN8 c (by omega));clear hit;go_wp2
        first | (go_region_with (go_at_call 193;refine (HLT.out _).mono ?_;rintro e w5 ⟨rfl,hb5⟩;have hd5:Below wr.heap.size wr w5:=(Below.refl wr.heap.size wr).drew.trans hb5;have hc5:=HCX.out w5 hd5;have hl5:=HBX.out w5 hd5)) | fail "no way"
        all_goals
         have HXA:=aW (HX7.out.bel hd5);clear hb5 hd5 hc5 hl5 hcell7 hbr7;go_wp2;go_roundg (128-(c+1))
         case measure=>rw [HG2.out];omega
         case rel=>exact ⟨c+1,rfl,by omega,by go_num,aW (by rw [HOT.out];exact BS.lit _ _ _ (by simp only [al,List.map_cons,List.map_nil,HU8.out];rfl) 2 rfl),aW (HXA.out.bel ((Below.refl _ _).alloc (Nat.le_refl _) _))⟩
      ·have hrx:r≠xi:=by
        rw [← HRX.out];intro e;cases hl:bt c with
        | none=>rw [hl] at e;have:(-1:Int)=xi:=e;omega
        | some y=>rw [hl] at e;have:(y:Int)=xi:=e;rw [← HXI.out] at this;exact hit (by rw [hl];congr 1;omega)
       have hrb:(r == xi)=false:=by simp [hrx]
       have HOT:=aW (show bU x base (c+1)=bU x base c by rw [bU,if_neg (λ h=>hit h.1)]);clear hit hrx;go_wp2
       first | (go_region_with (go_at_call 193;refine (HLT.out _).mono ?_;rintro e w5 ⟨rfl,hb5⟩;have hd5:Below wr.heap.size wr w5:=(Below.refl wr.heap.size wr).drew.trans hb5;have hc5:=HCX.out w5 hd5;have hl5:=HBX.out w5 hd5)) | fail "no way"
       all_goals
        have HXA:=aW (HX7.out.bel hd5);have HBA:=aW (HBS.out.below hd5);clear hb5 hd5 hc5 hl5 hcell7 hbr7;go_wp2;go_roundg (128-(c+1))
        case measure=>rw [HG2.out];omega
        case rel=>exact ⟨c+1,rfl,by omega,by go_num,aW (by rw [HOT.out];exact HBA.out),HXA⟩
     ·obtain rfl:c=128:=by omega
      rw [HOAB.out] at HBS;obtain ⟨A9,c9,rfl,hc9,hr9⟩:=HBS.out;have HR9:=aW hr9;have HA9:=aW (show A9=none->(aB x).length=0 from λ e=>by
       rcases Nat.eq_zero_or_pos (aB x).length with h | h
       ·exact h
       ·obtain ⟨_,_,e',_⟩:=Rd.some_ hr9 h;rw [e] at e';cases e')
      obtain ⟨q9,hq9⟩:∃ q9,(aB x).length=q9:=⟨_,rfl⟩
      have HQ9:=aW hq9;rw [hq9] at HA9 ⊢;clear hq9 hc9 hr9 hc;have hBw:=HX7.out.2.size;go_wp2_with (at_builtin;refine ag _ rfl _ _ 76 rfl w.heap.size 5 i0 _ 1 1 Tryz.underlying76 HI.out hz0 hz1 hz2 rfl (by decide) _ _ _ rfl HX7.out.1 A9 q9 c9 HA9.out (al (aB x)) rfl (by rw [bJ,Nat.mul_one];exact HQ9.out) HR9.out (aC _) (by have h1:=HBD.out;have h2:=HQL.out;have h3:=HQ9.out;unfold maxLen;omega) (by have h1:=HBD.out;have h2:=HQL.out;have h3:=HQ9.out;omega) hBw ?_;intro v' w8 hown' hgr _);have HY:=aW (show lS w (L++aB x) v' w8 from ⟨by rw [List.length_append,HQ9.out,dW];exact hown',HX7.out.2.grown hgr hBw (λ k e=>(HX7.out.1.lt k e).1)⟩);clear hown' hgr;go_roundg (n-(i+1))
      case measure=>rw [HG.out];omega
      case rel=>exact ⟨i+1,rfl,hlt,by go_num,aW (by rw [HND.out];exact HY.out)⟩
  ·obtain rfl:i=n:=by omega
   have htk:cs.take i=cs:=List.take_of_length_le (by rw [HN.out];exact Nat.le_refl _);rw [htk] at HX;have hbd:(34::cs.flatMap aB).length+1<=140737488355328:=by
    have h:=gY cs;have h2:=HN.out;rw [List.length_cons];omega
   obtain ⟨L,hL⟩:∃ L,34::cs.flatMap aB=L:=⟨_,rfl⟩
   have HL:=aW hL;rw [hL] at HX hbd;have HBD:=aW hbd;clear hbd hL htk hlt;have hB1:=HX.out.2.size;obtain ⟨A3,n3,c3,rfl⟩:∃ A n c,u3=.slice A n c:=by
    obtain ⟨a,c,e,_⟩:=Rd.of_own HX.out.1;exact ⟨_,_,_,e⟩
   have HO1:=aW ((HX.out.bel ((Below.refl _ wr).alloc (Nat.le_refl _) (.cells #[.int .u8 34] 5))).1);have HO2:=aW ((Below.refl wr.heap.size wr).alloc (Nat.le_refl _) (.cells #[.int .u8 34] 5));have HBS:=aW (BS.lit wr [34] #[.int .u8 34] (by rfl) 1 (by rfl));have hB2:w.heap.size<=(wr.alloc (.cells #[.int .u8 34] 5)).heap.size:=Nat.le_trans hB1 HO2.out.size;have HRD:=aW (show Rd (wr.alloc (.cells #[.int .u8 34] 5)) (some ⟨wr.heap.size,0,none⟩) (al [34]) by
    obtain ⟨A,c,e,_,h⟩:=HBS.out;cases e;exact h)
   go_wp2_with (at_builtin;refine ag _ rfl _ _ 76 rfl w.heap.size 5 i0 _ 1 1 Tryz.underlying76 HI.out hz0 hz1 hz2 rfl (by decide) _ _ _ rfl HO1.out (some ⟨wr.heap.size,0,none⟩) 1 1 (λ h=>nomatch h) (al [34]) rfl rfl HRD.out (aC _) (by have h1:=HBD.out;unfold maxLen;omega) (by have h1:=HBD.out;omega) hB2 ?_;intro v' w8 hown' hgr _);have HBL:=aW (HX.out.2.trans (HO2.out.mono hB1));have hbel:=HBL.out.grown hgr hB2 (λ k e=>(HO1.out.lt k e).1);have hown2:w8.ownsRow w.heap.size 5 1 v' (L++[34]).length (al (L++[34])):=by rw [dW,List.length_append];exact hown'
   obtain ⟨a5,c5,rfl,hc5,hr5⟩:=Rd.of_own hown2;have hcv:=BS.conv (show BS w8 (.slice a5 (L++[34]).length c5) (L++[34]) from ⟨_,_,rfl,hc5,hr5⟩);obtain ⟨n5,hn5⟩:∃ n5,(L++[34]).length=n5:=⟨_,rfl⟩
   rw [hn5] at hcv ⊢;clear hn5 hc5 hown' hown2 hr5;go_wp2;rw [hcv];go_wp2
   first | go_ret | (rw [Exit.noGoto_ret];go_ret2) | skip
   exact ⟨by rw [← HL.out];rfl,hbel⟩
theorem ma (a b c:List UInt8):((⟨a.toArray⟩:ByteArray)++⟨b.toArray⟩)++⟨c.toArray⟩=⟨(a++b++c).toArray⟩:=by rw [iH,iH]
theorem oB {a b c d:List UInt8} (h:a++b++c=d):Ending.returned (Zt (((⟨a.toArray⟩:ByteArray)++⟨b.toArray⟩)++⟨c.toArray⟩))=.returned (Zt ⟨d.toArray⟩):=by rw [ma,h]
theorem je {a b c:List UInt8} (h:a++b=c):Value.string ((⟨a.toArray⟩:ByteArray)++⟨b.toArray⟩)=Zt ⟨c.toArray⟩:=by rw [iH,h]
theorem xd (s:List UInt8) (w:World) (ht:aL s=true) (hl:s.length<=4194304):Calls Tryz.prog 144 #[Zt ⟨s.toArray⟩] w (gK (eI s) w):=by
 obtain ⟨hcp,hs⟩:=fu ht;obtain ⟨S,hS⟩:∃ S:ByteArray,(⟨s.toArray⟩:ByteArray)=S:=⟨_,rfl⟩
 obtain ⟨cap,W1,hcv,hcap,hb1,_,hr1⟩:=dI (P:=Tryz.prog) w 9 76 5 S Tryz.underlying9 Tryz.underlying76 Tryz.underlying5;have hSs:sl S=s:=by rw [← hS]
 have hSn:S.size=s.length:=by rw [← hSs,bR]
 rw [hSs] at hr1;rw [hSn] at hcv hcap;have hcn:(dc s).length<=s.length:=hZ _ s (Nat.le_refl _);have HP:=aW (xx (Zs (some ⟨w.heap.size,0,none⟩) s.length cap) (dc s) W1 hcp (by rw [← hs];exact ⟨_,_,rfl,hcap,hr1⟩) (by rw [← hs];exact hl));have HQ:=aW (λ A cap W hcap hr=>sS A (dc s).length cap (dc s) W rfl hcap hr hcp (Nat.le_trans hcn hl));have HB1:=aW hb1;obtain ⟨n,hn⟩:∃ n,s.length=n:=⟨_,rfl⟩
 obtain ⟨m,hm⟩:∃ m,(dc s).length=m:=⟨_,rfl⟩
 rw [hn] at HP hcv;rw [hm] at HQ;have HM:=aW hm;rw [hS];clear hcp hs hS hSs hSn hr1 hcap hcn hb1 hn hm ht hl;go_enter Tryz.func144,Tryz.ntmps144;go_wp2_with fail;refine (HP.out).mono ?_;rintro e w2 ⟨⟨A2,c2,rfl,hc2,hr2⟩,hb2⟩;rw [HM.out] at hc2 ⊢;have HR2:=aW hr2;have HC2:=aW hc2;have HB2:=aW hb2;clear hc2 hr2 hb2 hcv;go_wp2_with fail;refine (HQ.out A2 c2 w2 HC2.out HR2.out).mono ?_;rintro e w3 ⟨rfl,hb3⟩;go_wp2;go_ret;exact ⟨rfl,(HB1.out.trans (HB2.out.mono HB1.out.size)).trans (hb3.mono (HB1.out.trans (HB2.out.mono HB1.out.size)).size)⟩
def qL (w:World) (cs:Array Value) (W:World):Prop:=Blk W w.heap.size 25 cs/\Below w.heap.size w W
theorem qL.bel {w W W':World} {cs:Array Value} (h:qL w cs W) (hb:Below W.heap.size W W'):qL w cs W':=⟨h.1.keep hb,h.2.trans (hb.mono h.2.size)⟩
theorem pr (w:World) (cs:Array Value):qL w cs (w.alloc (.cells cs 25)):=⟨Blk.new w _ _,(Below.refl _ w).alloc (Nat.le_refl _) _⟩
def nc (N:Nat):Prop:=∀ (v:JV) (d:Nat),ar v<=N->aN d v=true->au v->∀ (cs:List Value) (F:Nat->Prop) (w:World),VR w F cs v->Calls Tryz.prog 99 #[.agg cs.toArray] w (gK (bf v) w)
theorem ww (v:JV) (k n:Int) (s:List UInt8) (A:Option Addr) (ca:Nat) (A':Option Addr) (ny cb:Nat) (w:World) (hv:v=.mk k n s [] []) (hg:aI k n s 0 []=true) (hk:k<5) (hin:iw n) (hsl:s.length<=4194304) :
  Calls Tryz.prog 99 #[.agg #[Zi Zq k,Zi Zq n,Zt ⟨s.toArray⟩,Zs A 0 ca,Zs A' ny cb]] w (gK (bf v) w):=by
 subst hv;have hkk:=aH hg;have HS0:=aW (pr w #[Zi Zq k,Zi Zq n,Zt ⟨s.toArray⟩,Zs A 0 ca,Zs A' ny cb]);obtain ⟨W0,hW0⟩:∃ W0,w.alloc (.cells #[Zi Zq k,Zi Zq n,Zt ⟨s.toArray⟩,Zs A 0 ca,Zs A' ny cb] 25)=W0:=⟨_,rfl⟩
 rw [hW0] at HS0;have HW0:=aW hW0;clear hW0;obtain rfl | rfl | rfl | rfl:k=1∨k=2∨k=3∨k=4:=by omega
 ·have hcan:bf (.mk 1 n s [] [])=pF:=by unfold bf;rfl
  rw [hcan];obtain ⟨c1,f1,l1⟩:=HS0.out.1.rules;clear hcan hg hkk hin hsl hk;go_enter Tryz.func99,Tryz.ntmps99;go_upto_region 2 with (fail);rw [HW0.out];clear HW0;go_wp2;go_ret;exact ⟨rfl,HS0.out.2⟩
 ·have h01:n=0∨n=1:=by unfold aI at hg;simp at hg;exact hg.1
  rcases h01 with rfl | rfl
  ·have hcan:bf (.mk 2 0 s [] [])=lN:=by unfold bf;rfl
   rw [hcan];obtain ⟨c1,f1,l1⟩:=HS0.out.1.rules;clear hcan hg hkk hin hsl hk;go_enter Tryz.func99,Tryz.ntmps99;go_upto_region 2 with (fail);rw [HW0.out];clear HW0;go_wp2;go_ret;exact ⟨rfl,HS0.out.2⟩
  ·have hcan:bf (.mk 2 1 s [] [])=pY:=by unfold bf;rfl
   rw [hcan];obtain ⟨c1,f1,l1⟩:=HS0.out.1.rules;clear hcan hg hkk hin hsl hk;go_enter Tryz.func99,Tryz.ntmps99;go_upto_region 2 with (fail);rw [HW0.out];clear HW0;go_wp2;go_ret;exact ⟨rfl,HS0.out.2⟩
 ·have hcan:bf (.mk 3 n s [] [])=cj n:=by unfold bf;rfl
  rw [hcan];obtain ⟨c1,f1,l1⟩:=HS0.out.1.rules;have HNP:=aW (λ W=>yt n hin W);clear hcan hg hkk hin hsl hk;go_enter Tryz.func99,Tryz.ntmps99;go_upto_region 2 with (fail);rw [HW0.out];clear HW0;go_wp2_with fail;refine (HNP.out _).mono ?_;rintro e w2 ⟨rfl,h2⟩;go_wp2;go_ret;exact ⟨rfl,(HS0.out.bel h2).2⟩
 ·have hcan:bf (.mk 4 n s [] [])=eI s:=by unfold bf;rfl
  rw [hcan];obtain ⟨c1,f1,l1⟩:=HS0.out.1.rules;have hto:aL s=true:=by unfold aI at hg;simp at hg;exact hg.2
  have HNP:=aW (λ W=>xd s W hto hsl);clear hcan hg hkk hin hsl hk hto;go_enter Tryz.func99,Tryz.ntmps99;go_upto_region 2 with (fail);rw [HW0.out];clear HW0;go_wp2_with fail;refine (HNP.out _).mono ?_;rintro e w2 ⟨rfl,h2⟩;go_wp2;go_ret;exact ⟨rfl,(HS0.out.bel h2).2⟩
theorem wH (N:Nat) (ih:nc N) (kids:List JV) (d:Nat) (hN:ay kids<=N) (hg:bz d kids=true) (hC:∀ x ∈ kids,au x) (n:Int) (s:ByteArray) (A:Option Addr) (nk ca:Nat) (A':Option Addr) (ny cb:Nat) (css:List (List Value)) (F:Nat->Prop) (w:World)
  (h1:VRs w F css kids) (h6:RdF w F A css.flatten) (hnk:kids.length=nk) (hnk8:nk<=4194304) (hb:(bD false true kids []).length+2<=35184372088832) :
  Calls Tryz.prog 99 #[.agg #[Zi Zq 5,Zi Zq n,Zt s,Zs A nk ca,Zs A' ny cb]] w (gK (91::bD false true kids []++[93]) w):=by
 obtain ⟨T,hT⟩:∃ T,bD false true kids []=T:=⟨_,rfl⟩
 have HLE:=aW (λ i=>pM false kids [] i);rw [hT] at HLE hb ⊢;have HS0:=aW (pr w #[Zi Zq 5,Zi Zq n,Zt s,Zs A nk ca,Zs A' ny cb]);obtain ⟨W0,hW0⟩:∃ W0,w.alloc (.cells #[Zi Zq 5,Zi Zq n,Zt s,Zs A nk ca,Zs A' ny cb] 25)=W0:=⟨_,rfl⟩
 rw [hW0] at HS0;have HW0:=aW hW0;have HV:=aW h1;have HR:=aW h6;have HNK:=aW hnk;have HBD:=aW hb;have HT:=aW hT;have HGD:=aW hg;have HCM:=aW hC;have HIH:=aW (show ∀ x d,ar x<=N->aN d x=true->au x->∀ (cs:List Value) (F:Nat->Prop) (w:World),VR w F cs x->Calls Tryz.prog 99 #[.agg cs.toArray] w (gK (bf x) w) from ih);clear hg hW0 h1 h6 hnk hb hC ih hT;obtain ⟨c1,f1,l1⟩:=HS0.out.1.rules;go_enter Tryz.func99,Tryz.ntmps99;go_upto_region 2 with (fail);rw [HW0.out];clear HW0;go_wp2;clear c1 f1 l1;go_loopg [3,4] nk (λ gk s3 s4 wr => ∃ i:Nat,gk=nk-i/\i<=nk/\s4=Zi Zq i/\s3=Zt ⟨(bD false true (kids.take i) []).toArray⟩/\Hid (qL w #[Zi Zq 5,Zi Zq n,Zt s,Zs A nk ca,Zs A' ny cb] wr))
 case atStart=>exact ⟨0,rfl,Nat.zero_le _,rfl,by simp [bD],HS0⟩
 case round =>
  obtain ⟨i,hgk,hi,rfl,rfl,HX⟩:=hrel;have HGK:=aW hgk;clear hgk HS0;obtain ⟨c1,f1,l1⟩:=HX.out.1.rules;by_cases hlt:i<nk
  ·obtain ⟨x,hx⟩:∃ x,kids[i]? = some x:=⟨_,List.getElem?_eq_getElem (by rw [HNK.out];exact hlt)⟩
   have hst:=lo (o:=false) (keys:=[]) hx;have hle:=HLE.out (i+1);have hnx:=(bO hx).2;have hih:=HIH.out x d (by omega) (fO HGD.out hx) (HCM.out x (List.mem_of_getElem? hx));obtain ⟨Cx,hCx⟩:∃ Cx,bf x=Cx:=⟨_,rfl⟩
   obtain ⟨Pre,hPre⟩:∃ Pre,bD false true (kids.take i) []=Pre:=⟨_,rfl⟩
   rw [hCx] at hih;have IHX:=aW hih;have hlb1:Pre.length<=35184372088832:=by have:=HLE.out i;rw [hPre] at this;have:=HBD.out;omega
   rw [hPre,hCx] at hst;simp only [Bool.false_eq_true,if_false,List.nil_append] at hst;have HV2:=aW (λ (W:World) (h:af F w W)=>aS (HV.out.keep h) (HR.out.keep h) hx);rw [hst] at hle;have HST:=aW hst;rw [hPre];have hle2:=Nat.le_trans hle (Nat.le_trans (Nat.le_add_right _ 2) HBD.out);simp only [List.length_append] at hle2;have hlb2:Cx.length<=35184372088832:=by omega
   clear hst hle hnx hx hPre hCx hih hle2;by_cases h0:i=0
   ·subst h0;rw [if_pos rfl,List.nil_append] at HST;obtain ⟨b,oo,k1,n1,s1,A1,na1,ca1,B1,nb1,cb1,hAe,hb1,hvx,hz⟩:=HV2.out wr (af.of_below HX.out.2);obtain ⟨z0,z1,z2,z3,z4⟩:=hz wr (Below.refl _ _);rw [Nat.zero_mul,Nat.add_zero] at z0 z1 z2 z3 z4;subst hAe;have HVX:=aW hvx;clear hz hvx;go_wp2_with fail;refine (IHX.out _ F wr HVX.out).mono ?_;rintro e w5 ⟨rfl,hb5⟩;have HX5:=aW (HX.out.bel hb5);clear hb5 c1 f1 l1 z0 z1 z2 z3 z4 hb1;go_wp2;go_roundg (nk-(0+1))
    case measure=>rw [HGK.out];omega
    case rel=>exact ⟨0+1,rfl,hlt,by go_num,je (by rw [HST.out]),HX5⟩
   ·rw [if_neg h0] at HST;have h0':(0:Int)<(i:Int):=by omega
    obtain ⟨P1,hP1⟩:∃ P1,Pre++[44]=P1:=⟨_,rfl⟩
    have hlb4:P1.length<=35184372088833:=by rw [← hP1,List.length_append];simp;omega
    have HP1:=aW hP1;have HE1:=aW (show (⟨Pre.toArray⟩:ByteArray)++⟨#[44]⟩=⟨P1.toArray⟩ by rw [← hP1];exact iH Pre [44]);clear hP1;obtain ⟨b,oo,k1,n1,s1,A1,na1,ca1,B1,nb1,cb1,hAe,hb1,hvx,hz⟩:=HV2.out wr (af.of_below HX.out.2);obtain ⟨z0,z1,z2,z3,z4⟩:=hz wr (Below.refl _ _);subst hAe;have HVX:=aW hvx;clear hz hvx;go_wp2_with fail;rw [HE1.out];refine (IHX.out _ F wr HVX.out).mono ?_;rintro e w5 ⟨rfl,hb5⟩;have HX5:=aW (HX.out.bel hb5);clear hb5 c1 f1 l1 z0 z1 z2 z3 z4 hb1;go_wp2;go_roundg (nk-(i+1))
    case measure=>rw [HGK.out];omega
    case rel=>exact ⟨i+1,rfl,hlt,by go_num,je (by rw [HST.out,← HP1.out];simp [List.append_assoc]),HX5⟩
  ·obtain rfl:i=nk:=by omega
   have htk:kids.take i=kids:=List.take_of_length_le (by rw [HNK.out];exact Nat.le_refl _);rw [htk,HT.out];have hlb:T.length<=35184372088832:=by have:=HBD.out;omega
   clear htk;go_wp2;go_ret;exact ⟨oB (a:=[91]) (c:=[93]) rfl,HX.out.2⟩
theorem xV (N:Nat) (ih:nc N) (kids:List JV) (d:Nat) (hN:ay kids<=N) (hg:bz d kids=true) (hC:∀ x ∈ kids,au x) (n:Int) (s:ByteArray) (A:Option Addr) (nk ca:Nat) (A':Option Addr) (ny cb:Nat) (css:List (List Value)) (F:Nat->Prop) (w:World)
  (h1:VRs w F css kids) (h6:RdF w F A css.flatten) (hnk:kids.length=nk) (hnk8:nk<=4194304) (keys:List (List UInt8)) (hlen:keys.length=kids.length) (hkk:∀ t ∈ keys,aL t=true/\t.length<=4194304) (h7:RdF w F A' (cQ keys)) (hny:keys.length=ny) (hb:(bD true true kids keys).length+2<=35184372088832) :
  Calls Tryz.prog 99 #[.agg #[Zi Zq 6,Zi Zq n,Zt s,Zs A nk ca,Zs A' ny cb]] w (gK (123::bD true true kids keys++[125]) w):=by
 obtain ⟨T,hT⟩:∃ T,bD true true kids keys=T:=⟨_,rfl⟩
 have HLE:=aW (λ i=>pM true kids keys i);rw [hT] at HLE hb ⊢;have HS0:=aW (pr w #[Zi Zq 6,Zi Zq n,Zt s,Zs A nk ca,Zs A' ny cb]);obtain ⟨W0,hW0⟩:∃ W0,w.alloc (.cells #[Zi Zq 6,Zi Zq n,Zt s,Zs A nk ca,Zs A' ny cb] 25)=W0:=⟨_,rfl⟩
 rw [hW0] at HS0;have HW0:=aW hW0;have HV:=aW h1;have HR:=aW h6;have HNK:=aW hnk;have HBD:=aW hb;have HT:=aW hT;have HGD:=aW hg;have HCM:=aW hC;have HIH:=aW (show ∀ x d,ar x<=N->aN d x=true->au x->∀ (cs:List Value) (F:Nat->Prop) (w:World),VR w F cs x->Calls Tryz.prog 99 #[.agg cs.toArray] w (gK (bf x) w) from ih);have HLEN:=aW hlen;have HKK:=aW hkk;have HRK:=aW h7;have HNY:=aW hny;clear hlen hkk h7 hny;clear hg hW0 h1 h6 hnk hb hC ih hT;obtain ⟨c1,f1,l1⟩:=HS0.out.1.rules;go_enter Tryz.func99,Tryz.ntmps99;go_upto_region 2 with (fail);rw [HW0.out];clear HW0;go_wp2;clear c1 f1 l1;go_loopg [3,4] nk (λ gk s3 s4 wr => ∃ i:Nat,gk=nk-i/\i<=nk/\s4=Zi Zq i/\s3=Zt ⟨(bD true true (kids.take i) keys).toArray⟩/\Hid (qL w #[Zi Zq 6,Zi Zq n,Zt s,Zs A nk ca,Zs A' ny cb] wr))
 case atStart=>exact ⟨0,rfl,Nat.zero_le _,rfl,by simp [bD],HS0⟩
 case round =>
  obtain ⟨i,hgk,hi,rfl,rfl,HX⟩:=hrel;have HGK:=aW hgk;clear hgk HS0;obtain ⟨c1,f1,l1⟩:=HX.out.1.rules;by_cases hlt:i<nk
  ·obtain ⟨x,hx⟩:∃ x,kids[i]? = some x:=⟨_,List.getElem?_eq_getElem (by rw [HNK.out];exact hlt)⟩
   have hst:=lo (o:=true) (keys:=keys) hx;have hle:=HLE.out (i+1);have hnx:=(bO hx).2;have hih:=HIH.out x d (by omega) (fO HGD.out hx) (HCM.out x (List.mem_of_getElem? hx));obtain ⟨Cx,hCx⟩:∃ Cx,bf x=Cx:=⟨_,rfl⟩
   obtain ⟨Pre,hPre⟩:∃ Pre,bD true true (kids.take i) keys=Pre:=⟨_,rfl⟩
   rw [hCx] at hih;have IHX:=aW hih;have hlb1:Pre.length<=35184372088832:=by have:=HLE.out i;rw [hPre] at this;have:=HBD.out;omega
   obtain ⟨key,hkey⟩:∃ key,keys[i]? = some key:=⟨_,List.getElem?_eq_getElem (by rw [HLEN.out,HNK.out];exact hlt)⟩
   have hkp:=HKK.out key (List.mem_of_getElem? hkey);obtain ⟨bk,ok,rfl,hbk0⟩:=bY HRK.out (by rw [HLEN.out,HNK.out];omega);have hiy:i<ny:=by have:=HLEN.out;have:=HNK.out;have:=HNY.out;omega
   obtain ⟨Qk,hQk⟩:∃ Qk,eI key=Qk:=⟨_,rfl⟩
   have hqs:=λ W=>xd key W hkp.1 hkp.2
   rw [hQk] at hqs;have HQS:=aW hqs;have HKC:=aW (λ (W:World) (h:af F w W)=>bB (n:=0) ((HRK.out.keep h).mono λ _ _ _=>trivial) hkey);rw [lE hkey,hQk] at hst;clear hkp hkey hQk hqs;rw [hPre,hCx] at hst;simp only [if_true] at hst;have HV2:=aW (λ (W:World) (h:af F w W)=>aS (HV.out.keep h) (HR.out.keep h) hx);rw [hst] at hle;have HST:=aW hst;rw [hPre];have hle2:=Nat.le_trans hle (Nat.le_trans (Nat.le_add_right _ 2) HBD.out);simp only [List.length_append] at hle2;have hlb2:Cx.length<=35184372088832:=by omega
   have hlb3:Qk.length<=35184372088832:=by omega
   clear hst hle hnx hx hPre hCx hih hle2;by_cases h0:i=0
   ·subst h0;rw [if_pos rfl,List.nil_append] at HST;have hck:=HKC.out wr (af.of_below HX.out.2);have hbk1:bk<wr.heap.size:=Nat.lt_of_lt_of_le hbk0 HX.out.2.size;rw [Nat.add_zero] at hck;go_wp2_with fail;refine (HQS.out _).mono ?_;rintro e w3 ⟨rfl,hb3⟩;have HX3:=aW (HX.out.bel hb3);obtain ⟨P2,hP2⟩:∃ P2,Pre++Qk++[58]=P2:=⟨_,rfl⟩
    have hlb5:P2.length<=105553116266498:=by rw [← hP2,List.length_append,List.length_append];simp;omega
    have HP2:=aW hP2;have HE2:=aW (show ((⟨Pre.toArray⟩:ByteArray)++⟨Qk.toArray⟩)++⟨#[58]⟩=⟨P2.toArray⟩ by rw [← hP2];exact ma Pre Qk [58]);clear hb3 hck hbk1 c1 f1 l1 hP2;obtain ⟨c1,f1,l1⟩:=HX3.out.1.rules;obtain ⟨b,oo,k1,n1,s1,A1,na1,ca1,B1,nb1,cb1,hAe,hb1,hvx,hz⟩:=HV2.out w3 (af.of_below HX3.out.2);obtain ⟨z0,z1,z2,z3,z4⟩:=hz w3 (Below.refl _ _);rw [Nat.zero_mul,Nat.add_zero] at z0 z1 z2 z3 z4;subst hAe;have HVX:=aW hvx;clear hz hvx;go_wp2_with fail;rw [HE2.out];refine (IHX.out _ F w3 HVX.out).mono ?_;rintro e w5 ⟨rfl,hb5⟩;have HX5:=aW (HX3.out.bel hb5);clear hb5 c1 f1 l1 z0 z1 z2 z3 z4 hb1;go_wp2;go_roundg (nk-(0+1))
    case measure=>rw [HGK.out];omega
    case rel=>exact ⟨0+1,rfl,hlt,by go_num,je (by rw [HST.out,← HP2.out];simp [List.append_assoc]),HX5⟩
   ·rw [if_neg h0] at HST;have h0':(0:Int)<(i:Int):=by omega
    obtain ⟨P1,hP1⟩:∃ P1,Pre++[44]=P1:=⟨_,rfl⟩
    have hlb4:P1.length<=35184372088833:=by rw [← hP1,List.length_append];simp;omega
    have HP1:=aW hP1;have HE1:=aW (show (⟨Pre.toArray⟩:ByteArray)++⟨#[44]⟩=⟨P1.toArray⟩ by rw [← hP1];exact iH Pre [44]);clear hP1;have hck:=HKC.out wr (af.of_below HX.out.2);have hbk1:bk<wr.heap.size:=Nat.lt_of_lt_of_le hbk0 HX.out.2.size;go_wp2_with fail;rw [HE1.out];refine (HQS.out _).mono ?_;rintro e w3 ⟨rfl,hb3⟩;have HX3:=aW (HX.out.bel hb3);obtain ⟨P2,hP2⟩:∃ P2,P1++Qk++[58]=P2:=⟨_,rfl⟩
    have hlb5:P2.length<=105553116266498:=by rw [← hP2,List.length_append,List.length_append];simp;omega
    have HP2:=aW hP2;have HE2:=aW (show ((⟨P1.toArray⟩:ByteArray)++⟨Qk.toArray⟩)++⟨#[58]⟩=⟨P2.toArray⟩ by rw [← hP2];exact ma P1 Qk [58]);clear hb3 hck hbk1 c1 f1 l1 hP2;obtain ⟨c1,f1,l1⟩:=HX3.out.1.rules;obtain ⟨b,oo,k1,n1,s1,A1,na1,ca1,B1,nb1,cb1,hAe,hb1,hvx,hz⟩:=HV2.out w3 (af.of_below HX3.out.2);obtain ⟨z0,z1,z2,z3,z4⟩:=hz w3 (Below.refl _ _);subst hAe;have HVX:=aW hvx;clear hz hvx;go_wp2_with fail;rw [HE2.out];refine (IHX.out _ F w3 HVX.out).mono ?_;rintro e w5 ⟨rfl,hb5⟩;have HX5:=aW (HX3.out.bel hb5);clear hb5 c1 f1 l1 z0 z1 z2 z3 z4 hb1;go_wp2;go_roundg (nk-(i+1))
    case measure=>rw [HGK.out];omega
    case rel=>exact ⟨i+1,rfl,hlt,by go_num,je (by rw [HST.out,← HP2.out,← HP1.out];simp [List.append_assoc]),HX5⟩
  ·obtain rfl:i=nk:=by omega
   have htk:kids.take i=kids:=List.take_of_length_le (by rw [HNK.out];exact Nat.le_refl _);rw [htk,HT.out];have hlb:T.length<=35184372088832:=by have:=HBD.out;omega
   clear htk;go_wp2;go_ret;exact ⟨oB (a:=[123]) (c:=[125]) rfl,HX.out.2⟩
theorem xI (N:Nat) (h256:N+1<=256) (ih:nc N):nc (N+1):=by
 intro v d hN hg hC cs F w hv;have hbk:=kh v hC.ints;have hb8:cr v<=4000000000:=by have:=ej v d hg hC.lens;omega
 obtain ⟨k,n,s,kids,keys⟩:=v;obtain ⟨A,A',ca,cb,css,rfl,h1,h2,h3,h4,h5,h6,h7⟩:=hv.out;obtain ⟨hik,hin,hsl,hkl,hyl,hyt,hck⟩:=hC.out;unfold ar at hN;unfold aN at hg;simp only [Bool.and_eq_true,decide_eq_true_eq] at hg;obtain ⟨hA,hd,hL⟩:=hg;have hk:=aH hA;by_cases hk5:k<5
 ·obtain ⟨e1,e2⟩:=dz hA hk5;have e1:kids=[]:=List.eq_nil_of_length_eq_zero e1;subst e1 e2;exact ww _ k n s A ca A' 0 cb w rfl hA hk5 hin hsl
 ·obtain rfl | rfl:k=5∨k=6:=by omega
  ·obtain ⟨rfl,rfl,rfl⟩:=eT hA;have hc:bf (.mk 5 0 [] kids [])=91::bD false true kids []++[93]:=by unfold bf;simp
   rw [hc] at hbk ⊢;simp only [List.length_append,List.length_cons,List.length_nil] at hbk;exact wH N ih kids (d-1) (by omega) hL hck 0 _ A _ ca A' _ cb css F w h1 h6 rfl hkl (by omega)
  ·obtain ⟨rfl,rfl,hlen,hko⟩:=dx hA;have hc:bf (.mk 6 0 [] kids keys)=123::bD true true kids keys++[125]:=by unfold bf;simp
   rw [hc] at hbk ⊢;simp only [List.length_append,List.length_cons,List.length_nil] at hbk;exact xV N ih kids (d-1) (by omega) hL hck 0 _ A _ ca A' _ cb css F w h1 h6 rfl hkl keys hlen.symm (λ t ht=>⟨(eh.1 hko).1 t ht,hyt t ht⟩) h7 rfl (by omega)
theorem t6:∀ N,N<=256->nc N
 | 0,_=>λ v d h=>by have:=bj v;omega
 | N+1,h=>xI N h (t6 N (by omega))
end
end Go.Proofs.YtgolomgmnanbpaaGreatDoor
