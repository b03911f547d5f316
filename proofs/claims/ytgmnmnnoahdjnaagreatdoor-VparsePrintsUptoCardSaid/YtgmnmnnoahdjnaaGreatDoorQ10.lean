import Derived.Test.YtgmnmnnoahdjnaaGreatDoorQ08
import Derived.Test.YtgmnmnnoahdjnaaGreatDoorQ05
open Go.Value renaming int → Zi, slice → Zs, string → Zt, pointer → Zp
open Go.IntKind renaming i64 → Zq
set_option maxRecDepth 100000
set_option maxHeartbeats 16000000
set_option linter.unusedVariables false
set_option linter.unusedSimpArgs false
namespace Go.Proofs.YtgmnmnnoahdjnaaGreatDoor
section
open Go.RowKit
attribute [local go_sem] aa ac ae ab
theorem jw (q:Nat) (w:World):Calls Tryz.prog 122 #[Zi .u8 q] w λ e w'=>e=.returned (.bool (decide (97<=q/\q<=122)))/\w=w':=by
 go_enter Tryz.func122,Tryz.ntmps122;go_wp2
 all_goals
  go_ret;exact ⟨am (by rw [Bool.eq_iff_iff];simp;try omega),rfl⟩
theorem kt (q:Nat) (w:World):Calls Tryz.prog 123 #[Zi .u8 q] w λ e w'=>e=.returned (.bool (decide (48<=q/\q<=57)))/\w=w':=by
 go_enter Tryz.func123,Tryz.ntmps123;go_wp2
 all_goals
  go_ret;exact ⟨am (by rw [Bool.eq_iff_iff];simp;try omega),rfl⟩
theorem vJ (q:Nat) (w:World):Calls Tryz.prog 130 #[Zi .u8 q] w λ e w'=>e=.returned (.bool (decide (q=34)))/\w=w':=by
 go_enter Tryz.func130,Tryz.ntmps130;go_wp2;go_ret;exact ⟨am (by rw [Bool.eq_iff_iff];simp;omega),rfl⟩
theorem tU (q:Nat) (w:World):Calls Tryz.prog 132 #[Zi .u8 q] w λ e w'=>e=.returned (.bool true)/\w=w':=by
 go_enter Tryz.func132,Tryz.ntmps132;go_wp2;go_ret;exact ⟨rfl,rfl⟩
theorem us {a b:ByteArray} (h:(a.toList == b.toList)=true):a=b:=by
 have:a.toList=b.toList:=by simpa using h
 rw [ByteArray.toList_eq,ByteArray.toList_eq] at this;exact je this
theorem ut {a b:ByteArray} (h:(a.toList == b.toList)=false):a≠b:=by rintro rfl;simp at h
def cL:List (List UInt8):=[[101,109,105,116],[105,102],[101,108,115,101],[102,111,114],[105,110],[111,114],[97,110,100],[110,111,116],[115,105,122,101],[107,105,110,100],[116,114,117,101],[102,97,108,115,101],[110,117,108,108]]
def wP:Value:=.agg (cL.map λ l=>Value.string ⟨l.toArray⟩).toArray
theorem uD (w:World):Calls Tryz.prog 163 #[] w λ e w'=>e=.returned wP/\Below w.heap.size w w':=by
 go_enter Tryz.func163,Tryz.ntmps163;go_wp2;go_returns;exact ⟨rfl,by go_grown⟩
theorem wQ (k:Nat) (h:k<13) (w:World):(Instr.index 195 wP (Zi Zq (k:Int))).run Tryz.prog w=.ok (Zt ⟨(cL.getD k []).toArray⟩) w:=by
 rcases (by omega:k=0∨k=1∨k=2∨k=3∨k=4∨k=5∨k=6∨k=7∨k=8∨k=9∨k=10∨k=11∨k=12) with rfl | rfl | rfl | rfl | rfl | rfl | rfl | rfl | rfl | rfl | rfl | rfl | rfl<;>kernel_rfl
def dG (l:List UInt8):Bool:=decide (l ∈ cL)
theorem lT (s:ByteArray) (w:World):Calls Tryz.prog 124 #[Zt s] w λ e w'=>e=.returned (.bool (dG (sl s)))/\Below w.heap.size w w':=by
 go_enter Tryz.func124,Tryz.ntmps124;go_wp2_with (go_at_call 163;refine (uD _).mono ?_;rintro e w1 ⟨rfl,hb⟩);go_loopw [4,6] (λ _ i wr => ∃ k:Nat,k<=13/\i=Zi Zq k/\wr=w1/\∀ j,j<k->cL.getD j []≠sl s) (λ _ i _=>13-(intOf i).toNat)
 case atStart=>exact ⟨0,by omega,rfl,rfl,by intro j hj;omega⟩
 case round =>
  obtain ⟨k,hk,rfl,rfl,hno⟩:=hrel;have HN:=aW hno;clear hno;by_cases h13:k<13
  ·have hix:=wQ k h13 wr;obtain ⟨x,hx⟩:∃ x:ByteArray,⟨(cL.getD k []).toArray⟩=x:=⟨_,rfl⟩
   rw [hx] at hix;have HX:=aW hx;clear hx;go_wp2
   ·have hq:x=s:=us ‹(x.toList == s.toList)=true›;go_ret;refine ⟨am ?_,hb⟩;have:sl s ∈ cL:=by
     rw [← hq,← HX.out,eQ,List.getD_eq_getElem?_getD,List.getElem?_eq_getElem (show k<cL.length from h13)];exact List.getElem_mem _
    simp [dG,this]
   ·have hq:x≠s:=ut ‹(x.toList == s.toList)=false›;go_roundw
    case rel =>
     refine ⟨k+1,by omega,by go_num,trivial,?_⟩;intro j hj;by_cases hjk:j=k
     ·rw [hjk];intro e;exact hq (by rw [← HX.out,e])
     ·exact HN.out j (by omega)
    case measure=>simp [intOf];omega
  ·obtain rfl:k=13:=by omega
   go_wp2;go_ret;refine ⟨am ?_,hb⟩;have:sl s ∉ cL:=λ hm=>by
    obtain ⟨j,hj,e⟩:=List.getElem_of_mem hm;exact HN.out j hj (by rw [List.getD_eq_getElem?_getD,List.getElem?_eq_getElem hj];exact e)
   simp [dG,this]
def aL (c:UInt8):Bool:=decide (97<=c.toNat/\c.toNat<=122)
def aS:Nat->List UInt8->Bool
 | _,[]=>true
 | i,c::r=>(aL c || (decide (0<i) && bc c)) && aS (i+1) r
def bI (s:ByteArray):Bool:=aS 0 (sl s) && (decide (1<=s.size/\s.size<=12) && !dG (sl s))
theorem gm (w:World) (s:ByteArray) (p:Nat):Below w.heap.size w (w.iter s p):=(Below.refl _ w).alloc (Nat.le_refl _) _
theorem il (s:ByteArray) (w:World):Calls Tryz.prog 81 #[Zt s] w λ e w'=>e=.returned (.bool (bI s))/\Below w.heap.size w w':=by
 go_enter Tryz.func81,Tryz.ntmps81;go_wp2;go_loopw [3] (λ _ wr => ∃ pos:Nat,wr=w.iter s pos/\pos<=s.size/\aS 0 (sl s)=aS pos ((sl s).drop pos)) (λ _ wr=>s.size-wr.iterPos w.heap.size)
 case atStart=>exact ⟨0,rfl,by omega,by simp⟩
 case round =>
  obtain ⟨pos,rfl,hp,hn⟩:=hrel;by_cases hlt:pos<s.size
  ·have hnext:=λ ty=>run_next_any (P:=Tryz.prog) w s pos ty hlt
   have hd:(sl s).drop pos=s[pos]::(sl s).drop (pos+1):=List.drop_eq_getElem_cons (by rw [cA];exact hlt);rw [hd] at hn;obtain ⟨c,hc⟩:∃ c,s[pos]=c:=⟨_,rfl⟩
   by_cases hhi:128<=c.toNat
   ·have h1:=(decode_high s pos hlt (by rw [hc];exact hhi)).1;obtain ⟨⟨r,k⟩,hr⟩:∃ r,Utf8.decode s pos=r:=⟨_,rfl⟩
    rw [hr] at hnext h1;have HF:=aW (show aS 0 (sl s)=false by
     rw [hn,hc,aS];have e1:aL c=false:=by simp [aL];omega
     have e2:bc c=false:=by simp [bc];omega
     rw [e1,e2];simp)
    clear hn hd hc hr;obtain ⟨x,hx⟩:∃ x:Int,(r:Int)=x:=⟨_,rfl⟩
    rw [hx] at hnext;have h2:128<=x:=by omega
    clear hx;go_wp2;go_ret;exact ⟨am (by rw [bI,HF.out];rfl),gm w s _⟩
   ·have h1:=decode_ascii s pos hlt (by rw [hc];omega);rw [hc] at h1;rw [h1] at hnext;obtain ⟨b1,hb1⟩:∃ b,aL c=b:=⟨_,rfl⟩
    obtain ⟨b2,hb2⟩:∃ b,bc c=b:=⟨_,rfl⟩
    have hl:=λ w=>jw c.toNat w
    have hg:=λ w=>kt c.toNat w
    rw [show decide (97<=c.toNat/\c.toNat<=122)=b1 from hb1] at hl;rw [show decide (48<=c.toNat/\c.toNat<=57)=b2 from hb2] at hg;have HL:=aW hl;have HG:=aW hg;have hnf:aS 0 (sl s)=((b1 || (decide (0<pos) && b2)) && aS (pos+1) ((sl s).drop (pos+1))):=by rw [hn,hc,aS,hb1,hb2]
    have HF:=aW hnf;clear hn hd hc h1 hl hg hnf hb1 hb2;have hc128:c.toNat<128:=by omega
    clear hhi;obtain ⟨q,hq⟩:∃ q,c.toNat=q:=⟨_,rfl⟩
    rw [hq] at hnext hc128 HL HG;clear hq;cases b1
    ·by_cases h0:pos=0
     ·subst h0;go_wp2_with (first | (go_at_call 122;refine (HL.out _).mono ?_;rintro e w1 ⟨rfl,rfl⟩) | (go_at_call 123;refine (HG.out _).mono ?_;rintro e w1 ⟨rfl,rfl⟩));go_ret;exact ⟨am (by rw [bI,HF.out];rfl),gm w s _⟩
     ·have hp0:((pos:Int) == 0)=false:=by simp;omega
      cases b2
      ·go_wp2_with (first | (go_at_call 122;refine (HL.out _).mono ?_;rintro e w1 ⟨rfl,rfl⟩) | (go_at_call 123;refine (HG.out _).mono ?_;rintro e w1 ⟨rfl,rfl⟩));go_ret;exact ⟨am (by rw [bI,HF.out];simp),gm w s _⟩
      ·go_wp2_with (first | (go_at_call 122;refine (HL.out _).mono ?_;rintro e w1 ⟨rfl,rfl⟩) | (go_at_call 123;refine (HG.out _).mono ?_;rintro e w1 ⟨rfl,rfl⟩));go_roundw
       case rel=>exact ⟨pos+1,rfl,hlt,by rw [HF.out];simp;omega⟩
       case measure=>simp;omega
    ·go_wp2_with (first | (go_at_call 122;refine (HL.out _).mono ?_;rintro e w1 ⟨rfl,rfl⟩) | (go_at_call 123;refine (HG.out _).mono ?_;rintro e w1 ⟨rfl,rfl⟩));go_roundw
     case rel=>exact ⟨pos+1,rfl,hlt,by rw [HF.out];simp⟩
     case measure=>simp;omega
  ·obtain rfl:pos=s.size:=by omega
   have hnext:=λ ty=>run_next_end (P:=Tryz.prog) w s s.size ty hlt
   have hnf:aS 0 (sl s)=true:=by rw [hn,List.drop_eq_nil_of_le (by rw [cA];exact Nat.le_refl _),aS]
   have HF:=aW hnf;clear hn hnf;obtain ⟨b,hb⟩:∃ b,dG (sl s)=b:=⟨_,rfl⟩
   have hw:=λ w=>lT s w
   rw [hb] at hw;have HW:=aW hw;have HB:=aW hb;clear hw hb;go_wp2_with (go_at_call 124;refine (HW.out _).mono ?_;rintro e w1 ⟨rfl,hb1⟩)
   ·go_ret;refine ⟨am ?_,(gm w s _).trans (hb1.mono (by simp [World.iter]))⟩;have h1:1<=(s.size:Int):=by assumption
    have h2:(s.size:Int)<=12:=by assumption
    rw [bI,HF.out,HB.out,decide_eq_true (show 1<=s.size/\s.size<=12 by omega)];rfl
   ·go_ret;have h2:12<(s.size:Int):=by assumption
    exact ⟨am (by rw [bI,HF.out,decide_eq_false (show ¬ (1<=s.size/\s.size<=12) by omega)];rfl),gm w s _⟩
   ·go_ret;have h2:(s.size:Int)<1:=by assumption
    exact ⟨am (by rw [bI,HF.out,decide_eq_false (show ¬ (1<=s.size/\s.size<=12) by omega)];rfl),gm w s _⟩
end
end Go.Proofs.YtgmnmnnoahdjnaaGreatDoor
namespace Go.Proofs.YtgmnmnnoahdjnaaGreatDoor
open Go.RowKit
attribute [local go_sem] aa ac ae ab
end Go.Proofs.YtgmnmnnoahdjnaaGreatDoor
namespace Go.Proofs.YtgmnmnnoahdjnaaGreatDoor
open Go.RowKit
attribute [local go_sem] aa ac ae ab
def df:List UInt8:=[34,92,47,98,102,110,114,116]
def pQ:List Nat:=[34,92,47,8,12,10,13,9]
theorem rX {k:Nat} (hk:k<8) {c:UInt8} (h:c=df.getD k 0):aG c.toNat=some (pQ.getD k 0):=by
 subst h;rcases (by omega:k=0∨k=1∨k=2∨k=3∨k=4∨k=5∨k=6∨k=7) with rfl | rfl | rfl | rfl | rfl | rfl | rfl | rfl<;>rfl
theorem rY {c:UInt8} (h:∀ k,k<8->c≠df.getD k 0):aG c.toNat=none:=by
 have key:∀ n:Nat,∀ u:UInt8,u.toNat=n->c.toNat=n->c=u:=λ n u h1 h2=>UInt8.toNat_inj.1 (by omega)
 have g:∀ k,k<8->∀ n,(df.getD k 0).toNat=n->c.toNat≠n:=λ k hk n hn e=>h k hk (key n _ hn e)
 unfold aG;rw [if_neg (g 0 (by omega) 34 rfl),if_neg (g 1 (by omega) 92 rfl),if_neg (g 2 (by omega) 47 rfl),if_neg (g 3 (by omega) 98 rfl),if_neg (g 4 (by omega) 102 rfl),if_neg (g 5 (by omega) 110 rfl),if_neg (g 6 (by omega) 114 rfl),if_neg (g 7 (by omega) 116 rfl)]
theorem j5 (c:UInt8) (w:World):Calls Tryz.prog 191 #[Zi .u8 c.toNat] w λ e w'=>e=.returned (Zi Zq (uf (aG c.toNat)))/\Below w.heap.size w w':=by
 obtain ⟨r,hr⟩:∃ r,uf (aG c.toNat)=r:=⟨_,rfl⟩
 rw [hr];have HR:=aW hr;clear hr;go_enter Tryz.func191,Tryz.ntmps191;go_wp2;go_loopg [5] 8 (λ gk i wx => ∃ k:Nat,k<=8/\gk=8-k/\i=Zi Zq k/\Hid (∀ j,j<k->c≠df.getD j 0)/\wx=w.alloc (.cells #[Zi Zq 34,Zi Zq 92,Zi Zq 47,Zi Zq 8,Zi Zq 12,Zi Zq 10,Zi Zq 13,Zi Zq 9] 3))
 case atStart=>exact ⟨0,by omega,rfl,rfl,aW (by intro j hj;omega),rfl⟩
 case round =>
  obtain ⟨k,hk,hgk,rfl,HN,rfl⟩:=hrel;have HG:=aW hgk;clear hgk;by_cases h8:k=8
  ·subst h8;have HF:=aW (show r = -1 by rw [← HR.out,rY (HN.out)];rfl);go_wp2;go_ret;exact ⟨fV HF.out.symm,(Below.refl _ w).alloc (Nat.le_refl _) _⟩
  ·have hk8:k<8:=by omega
   by_cases hc:c=df.getD k 0
   ·have HF:=aW (show r=(pQ.getD k 0:Nat) by rw [← HR.out,rX hk8 hc];rfl);rcases (by omega:k=0∨k=1∨k=2∨k=3∨k=4∨k=5∨k=6∨k=7) with rfl | rfl | rfl | rfl | rfl | rfl | rfl | rfl
    all_goals
     subst hc;simp only [df,pQ,List.getD_cons_zero,List.getD_cons_succ] at HF ⊢;go_wp2;go_ret;exact ⟨fV HF.out.symm,(Below.refl _ w).alloc (Nat.le_refl _) _⟩
   ·have HN2:=aW (show ∀ j,j<k+1->c≠df.getD j 0 from λ j hj=>by
     by_cases e:j=k
     ·rw [e];exact hc
     ·exact HN.out j (by omega))
    have hq:=c.toNat_lt;rcases (by omega:k=0∨k=1∨k=2∨k=3∨k=4∨k=5∨k=6∨k=7) with rfl | rfl | rfl | rfl | rfl | rfl | rfl | rfl
    ·have HNE:=aW (show (df.getD 0 0).toNat≠c.toNat from λ e=>hc (UInt8.toNat_inj.1 e.symm));clear hc;go_wp2
     all_goals first
      | (exfalso;have h:=‹((_:Int) == (c.toNat:Int))=true›;exact absurd (Int.natCast_inj.1 (beq_iff_eq.1 h)) HNE.out)
      | (go_roundg (8-1))
     case measure=>rw [HG.out];omega
     case rel=>exact ⟨1,by omega,rfl,by go_num,HN2,rfl⟩
    ·have HNE:=aW (show (df.getD 1 0).toNat≠c.toNat from λ e=>hc (UInt8.toNat_inj.1 e.symm));clear hc;go_wp2
     all_goals first
      | (exfalso;have h:=‹((_:Int) == (c.toNat:Int))=true›;exact absurd (Int.natCast_inj.1 (beq_iff_eq.1 h)) HNE.out)
      | (go_roundg (8-2))
     case measure=>rw [HG.out];omega
     case rel=>exact ⟨2,by omega,rfl,by go_num,HN2,rfl⟩
    ·have HNE:=aW (show (df.getD 2 0).toNat≠c.toNat from λ e=>hc (UInt8.toNat_inj.1 e.symm));clear hc;go_wp2
     all_goals first
      | (exfalso;have h:=‹((_:Int) == (c.toNat:Int))=true›;exact absurd (Int.natCast_inj.1 (beq_iff_eq.1 h)) HNE.out)
      | (go_roundg (8-3))
     case measure=>rw [HG.out];omega
     case rel=>exact ⟨3,by omega,rfl,by go_num,HN2,rfl⟩
    ·have HNE:=aW (show (df.getD 3 0).toNat≠c.toNat from λ e=>hc (UInt8.toNat_inj.1 e.symm));clear hc;go_wp2
     all_goals first
      | (exfalso;have h:=‹((_:Int) == (c.toNat:Int))=true›;exact absurd (Int.natCast_inj.1 (beq_iff_eq.1 h)) HNE.out)
      | (go_roundg (8-4))
     case measure=>rw [HG.out];omega
     case rel=>exact ⟨4,by omega,rfl,by go_num,HN2,rfl⟩
    ·have HNE:=aW (show (df.getD 4 0).toNat≠c.toNat from λ e=>hc (UInt8.toNat_inj.1 e.symm));clear hc;go_wp2
     all_goals first
      | (exfalso;have h:=‹((_:Int) == (c.toNat:Int))=true›;exact absurd (Int.natCast_inj.1 (beq_iff_eq.1 h)) HNE.out)
      | (go_roundg (8-5))
     case measure=>rw [HG.out];omega
     case rel=>exact ⟨5,by omega,rfl,by go_num,HN2,rfl⟩
    ·have HNE:=aW (show (df.getD 5 0).toNat≠c.toNat from λ e=>hc (UInt8.toNat_inj.1 e.symm));clear hc;go_wp2
     all_goals first
      | (exfalso;have h:=‹((_:Int) == (c.toNat:Int))=true›;exact absurd (Int.natCast_inj.1 (beq_iff_eq.1 h)) HNE.out)
      | (go_roundg (8-6))
     case measure=>rw [HG.out];omega
     case rel=>exact ⟨6,by omega,rfl,by go_num,HN2,rfl⟩
    ·have HNE:=aW (show (df.getD 6 0).toNat≠c.toNat from λ e=>hc (UInt8.toNat_inj.1 e.symm));clear hc;go_wp2
     all_goals first
      | (exfalso;have h:=‹((_:Int) == (c.toNat:Int))=true›;exact absurd (Int.natCast_inj.1 (beq_iff_eq.1 h)) HNE.out)
      | (go_roundg (8-7))
     case measure=>rw [HG.out];omega
     case rel=>exact ⟨7,by omega,rfl,by go_num,HN2,rfl⟩
    ·have HNE:=aW (show (df.getD 7 0).toNat≠c.toNat from λ e=>hc (UInt8.toNat_inj.1 e.symm));clear hc;go_wp2
     all_goals first
      | (exfalso;have h:=‹((_:Int) == (c.toNat:Int))=true›;exact absurd (Int.natCast_inj.1 (beq_iff_eq.1 h)) HNE.out)
      | (go_roundg (8-8))
     case measure=>rw [HG.out];omega
     case rel=>exact ⟨8,by omega,rfl,by go_num,HN2,rfl⟩
end Go.Proofs.YtgmnmnnoahdjnaaGreatDoor
namespace Go.Proofs.YtgmnmnnoahdjnaaGreatDoor
open Go.RowKit
attribute [local go_sem] aa ac ae ab
theorem BS.dropN {w:World} {b o n cap:Nat} {l:List UInt8} (h:Rd w (some ⟨b,o,none⟩) (ak l)) (hcap:l.length<=cap) (k:Nat) (hk:k<=l.length):BS w (Zs (some ⟨b,o+k,none⟩) (l.length-k) (cap-k)) (l.drop k):=by
 refine ⟨_,_,by rw [List.length_drop],by rw [List.length_drop];omega,?_⟩;have h1:=h.drop k;have e:((some (⟨b,o,none⟩:Addr)).map λ a=>a.add k)=some ⟨b,o+k,none⟩:=by
  simp only [Option.map_some,Option.some.injEq];unfold Addr.add;split<;>simp_all
 rw [e] at h1;simpa [ak,List.map_drop] using h1
end Go.Proofs.YtgmnmnnoahdjnaaGreatDoor
