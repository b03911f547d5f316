import Derived.Test.YtgmnmnnoahdjnaaGreatDoorY06
import Derived.Test.YtgmnmnnoahdjnaaGreatDoorY05
open Go.Value renaming int → Zi, slice → Zs, string → Zt, pointer → Zp
open Go.IntKind renaming i64 → Zq
set_option maxRecDepth 100000
set_option maxHeartbeats 16000000
set_option linter.unusedVariables false
set_option linter.unusedSimpArgs false
namespace Go.Proofs.YtgmnmnnoahdjnaaGreatDoor
section
open Go.RowKit
attribute [local go_sem] aa ac ae ab
theorem jp (q:Nat) (w:World):Calls Tryz.prog 122 #[Zi .u8 q] w λ e w'=>e=.returned (.bool (decide (97<=q/\q<=122)))/\w=w':=by
 go_enter Tryz.func122,Tryz.ntmps122;go_wp2
 all_goals
  go_ret;exact ⟨am (by rw [Bool.eq_iff_iff];simp;try omega),rfl⟩
theorem j4 (q:Nat) (w:World):Calls Tryz.prog 123 #[Zi .u8 q] w λ e w'=>e=.returned (.bool (decide (48<=q/\q<=57)))/\w=w':=by
 go_enter Tryz.func123,Tryz.ntmps123;go_wp2
 all_goals
  go_ret;exact ⟨am (by rw [Bool.eq_iff_iff];simp;try omega),rfl⟩
theorem uO (q:Nat) (w:World):Calls Tryz.prog 130 #[Zi .u8 q] w λ e w'=>e=.returned (.bool (decide (q=34)))/\w=w':=by
 go_enter Tryz.func130,Tryz.ntmps130;go_wp2;go_ret;exact ⟨am (by rw [Bool.eq_iff_iff];simp;omega),rfl⟩
theorem td (q:Nat) (w:World):Calls Tryz.prog 132 #[Zi .u8 q] w λ e w'=>e=.returned (.bool true)/\w=w':=by
 go_enter Tryz.func132,Tryz.ntmps132;go_wp2;go_ret;exact ⟨rfl,rfl⟩
theorem tM {a b:ByteArray} (h:(a.toList == b.toList)=true):a=b:=by
 have:a.toList=b.toList:=by simpa using h
 rw [ByteArray.toList_eq,ByteArray.toList_eq] at this;exact jU this
theorem tO {a b:ByteArray} (h:(a.toList == b.toList)=false):a≠b:=by rintro rfl;simp at h
def cC:List (List UInt8):=[[101,109,105,116],[105,102],[101,108,115,101],[102,111,114],[105,110],[111,114],[97,110,100],[110,111,116],[115,105,122,101],[107,105,110,100],[116,114,117,101],[102,97,108,115,101],[110,117,108,108]]
def vT:Value:=.agg (cC.map λ l=>Value.string ⟨l.toArray⟩).toArray
theorem tU (w:World):Calls Tryz.prog 163 #[] w λ e w'=>e=.returned vT/\Below w.heap.size w w':=by
 go_enter Tryz.func163,Tryz.ntmps163;go_wp2;go_returns;exact ⟨rfl,by go_grown⟩
theorem vU (k:Nat) (h:k<13) (w:World):(Instr.index 195 vT (Zi Zq (k:Int))).run Tryz.prog w=.ok (Zt ⟨(cC.getD k []).toArray⟩) w:=by
 rcases (by omega:k=0∨k=1∨k=2∨k=3∨k=4∨k=5∨k=6∨k=7∨k=8∨k=9∨k=10∨k=11∨k=12) with rfl | rfl | rfl | rfl | rfl | rfl | rfl | rfl | rfl | rfl | rfl | rfl | rfl<;>kernel_rfl
def cO (l:List UInt8):Bool:=decide (l ∈ cC)
theorem lx (s:ByteArray) (w:World):Calls Tryz.prog 124 #[Zt s] w λ e w'=>e=.returned (.bool (cO (sl s)))/\Below w.heap.size w w':=by
 go_enter Tryz.func124,Tryz.ntmps124;go_wp2_with (go_at_call 163;refine (tU _).mono ?_;rintro e w1 ⟨rfl,hb⟩);go_loopw [4,6] (λ _ i wr => ∃ k:Nat,k<=13/\i=Zi Zq k/\wr=w1/\∀ j,j<k->cC.getD j []≠sl s) (λ _ i _=>13-(intOf i).toNat)
 case atStart=>exact ⟨0,by omega,rfl,rfl,by intro j hj;omega⟩
 case round =>
  obtain ⟨k,hk,rfl,rfl,hno⟩:=hrel;have HN:=aW hno;clear hno;by_cases h13:k<13
  ·have hix:=vU k h13 wr;obtain ⟨x,hx⟩:∃ x:ByteArray,⟨(cC.getD k []).toArray⟩=x:=⟨_,rfl⟩
   rw [hx] at hix;have HX:=aW hx;clear hx;go_wp2
   ·have hq:x=s:=tM ‹(x.toList == s.toList)=true›;go_ret;refine ⟨am ?_,hb⟩;have:sl s ∈ cC:=by
     rw [← hq,← HX.out,eO,List.getD_eq_getElem?_getD,List.getElem?_eq_getElem (show k<cC.length from h13)];exact List.getElem_mem _
    simp [cO,this]
   ·have hq:x≠s:=tO ‹(x.toList == s.toList)=false›;go_roundw
    case rel =>
     refine ⟨k+1,by omega,by go_num,trivial,?_⟩;intro j hj;by_cases hjk:j=k
     ·rw [hjk];intro e;exact hq (by rw [← HX.out,e])
     ·exact HN.out j (by omega)
    case measure=>simp [intOf];omega
  ·obtain rfl:k=13:=by omega
   go_wp2;go_ret;refine ⟨am ?_,hb⟩;have:sl s ∉ cC:=λ hm=>by
    obtain ⟨j,hj,e⟩:=List.getElem_of_mem hm;exact HN.out j hj (by rw [List.getD_eq_getElem?_getD,List.getElem?_eq_getElem hj];exact e)
   simp [cO,this]
def ay (c:UInt8):Bool:=decide (97<=c.toNat/\c.toNat<=122)
def aN:Nat->List UInt8->Bool
 | _,[]=>true
 | i,c::r=>(ay c || (decide (0<i) && aJ c)) && aN (i+1) r
def bc (s:ByteArray):Bool:=aN 0 (sl s) && (decide (1<=s.size/\s.size<=12) && !cO (sl s))
theorem fZ (w:World) (s:ByteArray) (p:Nat):Below w.heap.size w (w.iter s p):=(Below.refl _ w).alloc (Nat.le_refl _) _
theorem ia (s:ByteArray) (w:World):Calls Tryz.prog 81 #[Zt s] w λ e w'=>e=.returned (.bool (bc s))/\Below w.heap.size w w':=by
 go_enter Tryz.func81,Tryz.ntmps81;go_wp2;go_loopw [3] (λ _ wr => ∃ pos:Nat,wr=w.iter s pos/\pos<=s.size/\aN 0 (sl s)=aN pos ((sl s).drop pos)) (λ _ wr=>s.size-wr.iterPos w.heap.size)
 case atStart=>exact ⟨0,rfl,by omega,by simp⟩
 case round =>
  obtain ⟨pos,rfl,hp,hn⟩:=hrel;by_cases hlt:pos<s.size
  ·have hnext:=λ ty=>run_next_any (P:=Tryz.prog) w s pos ty hlt
   have hd:(sl s).drop pos=s[pos]::(sl s).drop (pos+1):=List.drop_eq_getElem_cons (by rw [bL];exact hlt);rw [hd] at hn;obtain ⟨c,hc⟩:∃ c,s[pos]=c:=⟨_,rfl⟩
   by_cases hhi:128<=c.toNat
   ·have h1:=(decode_high s pos hlt (by rw [hc];exact hhi)).1;obtain ⟨⟨r,k⟩,hr⟩:∃ r,Utf8.decode s pos=r:=⟨_,rfl⟩
    rw [hr] at hnext h1;have HF:=aW (show aN 0 (sl s)=false by
     rw [hn,hc,aN];have e1:ay c=false:=by simp [ay];omega
     have e2:aJ c=false:=by simp [aJ];omega
     rw [e1,e2];simp)
    clear hn hd hc hr;obtain ⟨x,hx⟩:∃ x:Int,(r:Int)=x:=⟨_,rfl⟩
    rw [hx] at hnext;have h2:128<=x:=by omega
    clear hx;go_wp2;go_ret;exact ⟨am (by rw [bc,HF.out];rfl),fZ w s _⟩
   ·have h1:=decode_ascii s pos hlt (by rw [hc];omega);rw [hc] at h1;rw [h1] at hnext;obtain ⟨b1,hb1⟩:∃ b,ay c=b:=⟨_,rfl⟩
    obtain ⟨b2,hb2⟩:∃ b,aJ c=b:=⟨_,rfl⟩
    have hl:=λ w=>jp c.toNat w
    have hg:=λ w=>j4 c.toNat w
    rw [show decide (97<=c.toNat/\c.toNat<=122)=b1 from hb1] at hl;rw [show decide (48<=c.toNat/\c.toNat<=57)=b2 from hb2] at hg;have HL:=aW hl;have HG:=aW hg;have hnf:aN 0 (sl s)=((b1 || (decide (0<pos) && b2)) && aN (pos+1) ((sl s).drop (pos+1))):=by rw [hn,hc,aN,hb1,hb2]
    have HF:=aW hnf;clear hn hd hc h1 hl hg hnf hb1 hb2;have hc128:c.toNat<128:=by omega
    clear hhi;obtain ⟨q,hq⟩:∃ q,c.toNat=q:=⟨_,rfl⟩
    rw [hq] at hnext hc128 HL HG;clear hq;cases b1
    ·by_cases h0:pos=0
     ·subst h0;go_wp2_with (first | (go_at_call 122;refine (HL.out _).mono ?_;rintro e w1 ⟨rfl,rfl⟩) | (go_at_call 123;refine (HG.out _).mono ?_;rintro e w1 ⟨rfl,rfl⟩));go_ret;exact ⟨am (by rw [bc,HF.out];rfl),fZ w s _⟩
     ·have hp0:((pos:Int) == 0)=false:=by simp;omega
      cases b2
      ·go_wp2_with (first | (go_at_call 122;refine (HL.out _).mono ?_;rintro e w1 ⟨rfl,rfl⟩) | (go_at_call 123;refine (HG.out _).mono ?_;rintro e w1 ⟨rfl,rfl⟩));go_ret;exact ⟨am (by rw [bc,HF.out];simp),fZ w s _⟩
      ·go_wp2_with (first | (go_at_call 122;refine (HL.out _).mono ?_;rintro e w1 ⟨rfl,rfl⟩) | (go_at_call 123;refine (HG.out _).mono ?_;rintro e w1 ⟨rfl,rfl⟩));go_roundw
       case rel=>exact ⟨pos+1,rfl,hlt,by rw [HF.out];simp;omega⟩
       case measure=>simp;omega
    ·go_wp2_with (first | (go_at_call 122;refine (HL.out _).mono ?_;rintro e w1 ⟨rfl,rfl⟩) | (go_at_call 123;refine (HG.out _).mono ?_;rintro e w1 ⟨rfl,rfl⟩));go_roundw
     case rel=>exact ⟨pos+1,rfl,hlt,by rw [HF.out];simp⟩
     case measure=>simp;omega
  ·obtain rfl:pos=s.size:=by omega
   have hnext:=λ ty=>run_next_end (P:=Tryz.prog) w s s.size ty hlt
   have hnf:aN 0 (sl s)=true:=by rw [hn,List.drop_eq_nil_of_le (by rw [bL];exact Nat.le_refl _),aN]
   have HF:=aW hnf;clear hn hnf;obtain ⟨b,hb⟩:∃ b,cO (sl s)=b:=⟨_,rfl⟩
   have hw:=λ w=>lx s w
   rw [hb] at hw;have HW:=aW hw;have HB:=aW hb;clear hw hb;go_wp2_with (go_at_call 124;refine (HW.out _).mono ?_;rintro e w1 ⟨rfl,hb1⟩)
   ·go_ret;refine ⟨am ?_,(fZ w s _).trans (hb1.mono (by simp [World.iter]))⟩;have h1:1<=(s.size:Int):=by assumption
    have h2:(s.size:Int)<=12:=by assumption
    rw [bc,HF.out,HB.out,decide_eq_true (show 1<=s.size/\s.size<=12 by omega)];rfl
   ·go_ret;have h2:12<(s.size:Int):=by assumption
    exact ⟨am (by rw [bc,HF.out,decide_eq_false (show ¬ (1<=s.size/\s.size<=12) by omega)];rfl),fZ w s _⟩
   ·go_ret;have h2:(s.size:Int)<1:=by assumption
    exact ⟨am (by rw [bc,HF.out,decide_eq_false (show ¬ (1<=s.size/\s.size<=12) by omega)];rfl),fZ w s _⟩
theorem vn (c:UInt8) (w:World):Calls Tryz.prog 212 #[Zi .u8 c.toNat] w λ e w'=>e=.returned (Zi Zq (ir (iX c)))/\w=w':=by
 obtain ⟨r,hr⟩:∃ r,ir (iX c)=r:=⟨_,rfl⟩
 rw [hr];have HR:=aW hr;have hb:=c.toNat_lt;obtain ⟨q,hq⟩:∃ q,c.toNat=q:=⟨_,rfl⟩
 rw [hq] at hb ⊢;have HQ:=aW hq;clear hr hq;go_enter Tryz.func212,Tryz.ntmps212;go_wp2
 all_goals
  go_ret;refine ⟨cX ?_,rfl⟩;rw [← HR.out];unfold iX;rw [HQ.out]
  first
   | (rw [if_pos (by omega)];simp only [ir];omega)
   | (rw [if_neg (by omega),if_pos (by omega)];simp only [ir];omega)
   | (rw [if_neg (by omega),if_neg (by omega),if_pos (by omega)];simp only [ir];omega)
   | (rw [if_neg (by omega),if_neg (by omega),if_neg (by omega)];rfl)
theorem mv (v:Value) (l:List UInt8) (p:Nat) (w:World) (hv:BS w v l) (hl:l.length<=4194304) (hp:p<=l.length) :
  Calls Tryz.prog 179 #[v,Zi Zq p] w λ e w'=>e=.returned (Zi Zq (match l[p]? with | none=>6 | some c=>if 128<=c.toNat then 110 else 7))/\w=w':=by
 obtain ⟨A,cap,rfl,hcap,hr⟩:=hv;by_cases hlt:p<l.length
 ·obtain ⟨c,hc⟩:∃ c,l[p]? = some c:=⟨_,List.getElem?_eq_getElem hlt⟩
  obtain ⟨b,o,rfl,hb⟩:=hr.some_ (by omega);have hx:=BS.at_ (n:=0) (cap:=0) hr hc;rw [hc];simp only;clear hc;have hne:((p:Int) == (l.length:Int))=false:=by simp;omega
  by_cases h128:128<=c.toNat
  ·rw [if_pos h128];go_enter Tryz.func179,Tryz.ntmps179;go_wp2;go_ret;exact ⟨rfl,rfl⟩
  ·rw [if_neg h128];have h129:c.toNat<128:=by omega
   go_enter Tryz.func179,Tryz.ntmps179;go_wp2;go_ret;exact ⟨rfl,rfl⟩
 ·obtain rfl:p=l.length:=by omega
  rw [List.getElem?_eq_none (Nat.le_refl _)];simp only;go_enter Tryz.func179,Tryz.ntmps179;go_wp2;go_ret;exact ⟨rfl,rfl⟩
theorem nU (v:Value) (l:List UInt8) (w:World) (hv:BS w v l) (hl:l.length<=4194304) :
  Calls Tryz.prog 199 #[v] w λ e w'=>e=.returned (Zi Zq (cd l 0))/\w=w':=by
 obtain ⟨A,cap,rfl,hcap,hr⟩:=hv;obtain ⟨r,hr0⟩:∃ r,cd l 0=r:=⟨_,rfl⟩
 rw [hr0];by_cases h6:l.length<6
 ·have HR:=aW (show r = -1 by rw [← hr0,cd,bq,if_pos (.inl (by omega))];rfl);clear hr0;go_enter Tryz.func199,Tryz.ntmps199;go_wp2;go_ret;exact ⟨cX HR.out.symm,rfl⟩
 ·obtain ⟨b,o,rfl,hb⟩:=hr.some_ (by omega);obtain ⟨c0,hc0⟩:∃ c,l[0]? = some c:=⟨_,List.getElem?_eq_getElem (by omega)⟩
  obtain ⟨c1,hc1⟩:∃ c,l[1]? = some c:=⟨_,List.getElem?_eq_getElem (by omega)⟩
  have hx0:=BS.at_ (n:=0) (cap:=0) hr hc0;have hx1:=BS.at_ (n:=0) (cap:=0) hr hc1;rw [Nat.add_zero] at hx0;have hu:∀ q:UInt8,∀ n:Nat,n<256->q.toNat=n->q=UInt8.ofNat n:=λ q n _ h=>by rw [← h];simp
  by_cases h92:c0=92
  ·subst h92;by_cases h117:c1=117
   ·subst h117;have hun:r=ir (gA ((l.drop 2).take 4) 0):=by rw [← hr0,cd,bq,if_neg (by rw [hc0,hc1];simp;omega)]
    have HUN:=aW hun;clear hr0 hun hc0 hc1 hu;have h60:(l.length:Int)<6->False:=by omega
    go_enter Tryz.func199,Tryz.ntmps199;go_wp2;go_loopg [3,4] 4 (λ gk s3 s4 wx => ∃ i n:Nat,2<=i/\i<=6/\gk=6-i/\s4=Zi Zq i/\s3=Zi Zq n/\n<65536/\n<16 ^ (i-2)/\Hid (r=ir (gA ((l.drop i).take (6-i)) n))/\wx=w)
    case atStart=>exact ⟨2,0,by omega,by omega,rfl,rfl,rfl,by omega,by decide,HUN,rfl⟩
    case round =>
     obtain ⟨i,n,hi2,hi6,hgk,rfl,rfl,hn,hn16,HI,rfl⟩:=hrel;have HG:=aW hgk;have HN16:=aW hn16;clear hgk hn16;by_cases hlt:i<6
     ·obtain ⟨c,hc⟩:∃ c,l[i]? = some c:=⟨_,List.getElem?_eq_getElem (by omega)⟩
      have hx:=BS.at_ (n:=0) (cap:=0) hr hc;have hd:(l.drop i).take (6-i)=c::(l.drop (i+1)).take (6-(i+1)):=by
       obtain ⟨h1,h2⟩:=List.getElem?_eq_some_iff.1 hc;rw [List.drop_eq_getElem_cons h1,h2,show 6-i=(6-(i+1))+1 from by omega,List.take_succ_cons]
      have HD:=aW hd;have HH:=aW (vn c);cases hh:iX c with
      |none =>
       rw [hh] at HH;have HR:=aW (show r = -1 by rw [HI.out,HD.out,gA,hh];rfl);simp only [ir] at HH;clear hd hc hh;go_wp2_with fail;refine (HH.out _).mono ?_;rintro e w1 ⟨rfl,rfl⟩;go_wp2_with fail;go_ret;exact ⟨cX HR.out.symm,rfl⟩
      |some h =>
       rw [hh] at HH;have hlt16:=sc hh;have HR:=aW (show r=ir (gA ((l.drop (i+1)).take (6-(i+1))) (n*16+h)) by rw [HI.out,HD.out,gA,hh]);have hn4:n<4096:=by
        have h1:=HN16.out;have h2:(16:Nat) ^ (i-2)<=16 ^ 3:=Nat.pow_le_pow_right (by omega) (by omega);omega
       have hnx:n*16+h<16 ^ (i+1-2):=by
        have h1:=HN16.out;rw [show i+1-2=(i-2)+1 from by omega,Nat.pow_succ];omega
       have HNX:=aW hnx;simp only [ir] at HH;clear hd hc hh hnx;go_wp2_with fail;refine (HH.out _).mono ?_;rintro e w1 ⟨rfl,rfl⟩;go_wp2_with fail;refine (HH.out _).mono ?_;rintro e w1 ⟨rfl,rfl⟩;go_wp2_with fail;go_roundg (6-(i+1))
       case measure=>rw [HG.out];omega
       case rel=>exact ⟨i+1,n*16+h,by omega,by omega,rfl,by go_num,by go_num,by omega,HNX.out,HR,rfl⟩
     ·obtain rfl:i=6:=by omega
      have HR:=aW (show r=n by rw [HI.out];simp [gA,ir]);go_wp2;go_ret;exact ⟨cX HR.out.symm,rfl⟩
   ·have HR:=aW (show r = -1 by rw [← hr0,cd,bq,if_pos (.inr (.inr (by rw [hc1];simpa using h117)))];rfl);have hne:((c1.toNat:Int) != 117)=true:=by
     have:c1.toNat≠117:=λ e=>h117 (UInt8.toNat_inj.1 (by simpa using e))
     simp;omega
    clear hr0 hc0 hc1 hu;go_enter Tryz.func199,Tryz.ntmps199;go_wp2;go_ret;exact ⟨cX HR.out.symm,rfl⟩
  ·have HR:=aW (show r = -1 by rw [← hr0,cd,bq,if_pos (.inr (.inl (by rw [hc0];simpa using h92)))];rfl);have hne:((c0.toNat:Int) != 92)=true:=by
    have:c0.toNat≠92:=λ e=>h92 (UInt8.toNat_inj.1 (by simpa using e))
    simp;omega
   clear hr0 hc0 hc1 hu;go_enter Tryz.func199,Tryz.ntmps199;go_wp2;go_ret;exact ⟨cX HR.out.symm,rfl⟩
def cY:List UInt8:=[34,92,47,98,102,110,114,116]
def pg:List Nat:=[34,92,47,8,12,10,13,9]
theorem ro {k:Nat} (hk:k<8) {c:UInt8} (h:c=cY.getD k 0):aD c.toNat=some (pg.getD k 0):=by
 subst h;rcases (by omega:k=0∨k=1∨k=2∨k=3∨k=4∨k=5∨k=6∨k=7) with rfl | rfl | rfl | rfl | rfl | rfl | rfl | rfl<;>rfl
theorem rp {c:UInt8} (h:∀ k,k<8->c≠cY.getD k 0):aD c.toNat=none:=by
 have key:∀ n:Nat,∀ u:UInt8,u.toNat=n->c.toNat=n->c=u:=λ n u h1 h2=>UInt8.toNat_inj.1 (by omega)
 have g:∀ k,k<8->∀ n,(cY.getD k 0).toNat=n->c.toNat≠n:=λ k hk n hn e=>h k hk (key n _ hn e)
 unfold aD;rw [if_neg (g 0 (by omega) 34 rfl),if_neg (g 1 (by omega) 92 rfl),if_neg (g 2 (by omega) 47 rfl),if_neg (g 3 (by omega) 98 rfl),if_neg (g 4 (by omega) 102 rfl),if_neg (g 5 (by omega) 110 rfl),if_neg (g 6 (by omega) 114 rfl),if_neg (g 7 (by omega) 116 rfl)]
theorem jR (c:UInt8) (w:World):Calls Tryz.prog 191 #[Zi .u8 c.toNat] w λ e w'=>e=.returned (Zi Zq (ir (aD c.toNat)))/\Below w.heap.size w w':=by
 obtain ⟨r,hr⟩:∃ r,ir (aD c.toNat)=r:=⟨_,rfl⟩
 rw [hr];have HR:=aW hr;clear hr;go_enter Tryz.func191,Tryz.ntmps191;go_wp2;go_loopg [5] 8 (λ gk i wx => ∃ k:Nat,k<=8/\gk=8-k/\i=Zi Zq k/\Hid (∀ j,j<k->c≠cY.getD j 0)/\wx=w.alloc (.cells #[Zi Zq 34,Zi Zq 92,Zi Zq 47,Zi Zq 8,Zi Zq 12,Zi Zq 10,Zi Zq 13,Zi Zq 9] 3))
 case atStart=>exact ⟨0,by omega,rfl,rfl,aW (by intro j hj;omega),rfl⟩
 case round =>
  obtain ⟨k,hk,hgk,rfl,HN,rfl⟩:=hrel;have HG:=aW hgk;clear hgk;by_cases h8:k=8
  ·subst h8;have HF:=aW (show r = -1 by rw [← HR.out,rp (HN.out)];rfl);go_wp2;go_ret;exact ⟨cX HF.out.symm,(Below.refl _ w).alloc (Nat.le_refl _) _⟩
  ·have hk8:k<8:=by omega
   by_cases hc:c=cY.getD k 0
   ·have HF:=aW (show r=(pg.getD k 0:Nat) by rw [← HR.out,ro hk8 hc];rfl);rcases (by omega:k=0∨k=1∨k=2∨k=3∨k=4∨k=5∨k=6∨k=7) with rfl | rfl | rfl | rfl | rfl | rfl | rfl | rfl
    all_goals
     subst hc;simp only [cY,pg,List.getD_cons_zero,List.getD_cons_succ] at HF ⊢;go_wp2;go_ret;exact ⟨cX HF.out.symm,(Below.refl _ w).alloc (Nat.le_refl _) _⟩
   ·have HN2:=aW (show ∀ j,j<k+1->c≠cY.getD j 0 from λ j hj=>by
     by_cases e:j=k
     ·rw [e];exact hc
     ·exact HN.out j (by omega))
    have hq:=c.toNat_lt;rcases (by omega:k=0∨k=1∨k=2∨k=3∨k=4∨k=5∨k=6∨k=7) with rfl | rfl | rfl | rfl | rfl | rfl | rfl | rfl
    ·have HNE:=aW (show (cY.getD 0 0).toNat≠c.toNat from λ e=>hc (UInt8.toNat_inj.1 e.symm));clear hc;go_wp2
     all_goals first
      | (exfalso;have h:=‹((_:Int) == (c.toNat:Int))=true›;exact absurd (Int.natCast_inj.1 (beq_iff_eq.1 h)) HNE.out)
      | (go_roundg (8-1))
     case measure=>rw [HG.out];omega
     case rel=>exact ⟨1,by omega,rfl,by go_num,HN2,rfl⟩
    ·have HNE:=aW (show (cY.getD 1 0).toNat≠c.toNat from λ e=>hc (UInt8.toNat_inj.1 e.symm));clear hc;go_wp2
     all_goals first
      | (exfalso;have h:=‹((_:Int) == (c.toNat:Int))=true›;exact absurd (Int.natCast_inj.1 (beq_iff_eq.1 h)) HNE.out)
      | (go_roundg (8-2))
     case measure=>rw [HG.out];omega
     case rel=>exact ⟨2,by omega,rfl,by go_num,HN2,rfl⟩
    ·have HNE:=aW (show (cY.getD 2 0).toNat≠c.toNat from λ e=>hc (UInt8.toNat_inj.1 e.symm));clear hc;go_wp2
     all_goals first
      | (exfalso;have h:=‹((_:Int) == (c.toNat:Int))=true›;exact absurd (Int.natCast_inj.1 (beq_iff_eq.1 h)) HNE.out)
      | (go_roundg (8-3))
     case measure=>rw [HG.out];omega
     case rel=>exact ⟨3,by omega,rfl,by go_num,HN2,rfl⟩
    ·have HNE:=aW (show (cY.getD 3 0).toNat≠c.toNat from λ e=>hc (UInt8.toNat_inj.1 e.symm));clear hc;go_wp2
     all_goals first
      | (exfalso;have h:=‹((_:Int) == (c.toNat:Int))=true›;exact absurd (Int.natCast_inj.1 (beq_iff_eq.1 h)) HNE.out)
      | (go_roundg (8-4))
     case measure=>rw [HG.out];omega
     case rel=>exact ⟨4,by omega,rfl,by go_num,HN2,rfl⟩
    ·have HNE:=aW (show (cY.getD 4 0).toNat≠c.toNat from λ e=>hc (UInt8.toNat_inj.1 e.symm));clear hc;go_wp2
     all_goals first
      | (exfalso;have h:=‹((_:Int) == (c.toNat:Int))=true›;exact absurd (Int.natCast_inj.1 (beq_iff_eq.1 h)) HNE.out)
      | (go_roundg (8-5))
     case measure=>rw [HG.out];omega
     case rel=>exact ⟨5,by omega,rfl,by go_num,HN2,rfl⟩
    ·have HNE:=aW (show (cY.getD 5 0).toNat≠c.toNat from λ e=>hc (UInt8.toNat_inj.1 e.symm));clear hc;go_wp2
     all_goals first
      | (exfalso;have h:=‹((_:Int) == (c.toNat:Int))=true›;exact absurd (Int.natCast_inj.1 (beq_iff_eq.1 h)) HNE.out)
      | (go_roundg (8-6))
     case measure=>rw [HG.out];omega
     case rel=>exact ⟨6,by omega,rfl,by go_num,HN2,rfl⟩
    ·have HNE:=aW (show (cY.getD 6 0).toNat≠c.toNat from λ e=>hc (UInt8.toNat_inj.1 e.symm));clear hc;go_wp2
     all_goals first
      | (exfalso;have h:=‹((_:Int) == (c.toNat:Int))=true›;exact absurd (Int.natCast_inj.1 (beq_iff_eq.1 h)) HNE.out)
      | (go_roundg (8-7))
     case measure=>rw [HG.out];omega
     case rel=>exact ⟨7,by omega,rfl,by go_num,HN2,rfl⟩
    ·have HNE:=aW (show (cY.getD 7 0).toNat≠c.toNat from λ e=>hc (UInt8.toNat_inj.1 e.symm));clear hc;go_wp2
     all_goals first
      | (exfalso;have h:=‹((_:Int) == (c.toNat:Int))=true›;exact absurd (Int.natCast_inj.1 (beq_iff_eq.1 h)) HNE.out)
      | (go_roundg (8-8))
     case measure=>rw [HG.out];omega
     case rel=>exact ⟨8,by omega,rfl,by go_num,HN2,rfl⟩
def rB2 (l:List UInt8):Nat × Nat :=
 match (if l[0]? = some 92 then l[1]?.bind (λ c=>aD c.toNat) else none) with
 | some x=>(x,2)
 |none =>
  match bq l 0 with
  |some u =>
   if eV (u:Int) then (u,6) else if 55296<=u/\u<=56319 then
    match bq l 6 with
    | some v=>if 56320<=v/\v<=57343 then (65536+1024*(u-55296)+(v-56320),12) else (0,0)
    | none=>(0,0)
   else if (ak l).2=0∨(ak l).1<32∨(ak l).1=34∨(ak l).1=92 then (0,0) else ak l
  | none=>if (ak l).2=0∨(ak l).1<32∨(ak l).1=34∨(ak l).1=92 then (0,0) else ak l
theorem gR {l:List UInt8} {a:Nat} (h:a<=l.length):bq (l.drop a) 0=bq l a:=by
 unfold bq;have e1:((l.drop a).length<0+6∨(l.drop a)[0]? ≠ some 92∨(l.drop a)[0+1]? ≠ some 117) ↔ (l.length<a+6∨l[a]? ≠ some 92∨l[a+1]? ≠ some 117):=by
  rw [List.length_drop,List.getElem?_drop,List.getElem?_drop];simp only [Nat.add_zero,Nat.zero_add];constructor
  ·rintro (h | h | h)
   ·exact .inl (by omega)
   ·exact .inr (.inl h)
   ·exact .inr (.inr h)
  ·rintro (h | h | h)
   ·exact .inl (by omega)
   ·exact .inr (.inl h)
   ·exact .inr (.inr h)
 by_cases hc:l.length<a+6∨l[a]? ≠ some 92∨l[a+1]? ≠ some 117
 ·rw [if_pos hc,if_pos (e1.2 hc)]
 ·rw [if_neg hc,if_neg (λ h=>hc (e1.1 h)),List.drop_drop]
theorem BS.dropN {w:World} {b o n cap:Nat} {l:List UInt8} (h:Rd w (some ⟨b,o,none⟩) (aq l)) (hcap:l.length<=cap) (k:Nat) (hk:k<=l.length):BS w (Zs (some ⟨b,o+k,none⟩) (l.length-k) (cap-k)) (l.drop k):=by
 refine ⟨_,_,by rw [List.length_drop],by rw [List.length_drop];omega,?_⟩;have h1:=h.drop k;have e:((some (⟨b,o,none⟩:Addr)).map λ a=>a.add k)=some ⟨b,o+k,none⟩:=by
  simp only [Option.map_some,Option.some.injEq];unfold Addr.add;split<;>simp_all
 rw [e] at h1;simpa [aq,List.map_drop] using h1
def jh (l:List UInt8):Nat × Nat:=if (ak l).2=0∨(ak l).1<32∨(ak l).1=34∨(ak l).1=92 then (0,0) else ak l
def iz (l:List UInt8):Nat × Nat :=
 match bq l 0 with
 |some u =>
  if eV (u:Int) then (u,6) else if 55296<=u/\u<=56319 then
   match bq l 6 with
   | some v=>if 56320<=v/\v<=57343 then (65536+1024*(u-55296)+(v-56320),12) else (0,0)
   | none=>(0,0)
  else jh l
 | none=>jh l
theorem vl (l:List UInt8):rB2 l=match (if l[0]? = some 92 then l[1]?.bind (λ c=>aD c.toNat) else none) with | some x=>(x,2) | none=>iz l:=rfl
theorem kQ (v:Value) (l:List UInt8) (w:World) (hv:BS w v l) (hl:l.length<=4194304):Calls Tryz.prog 178 #[v] w (nd (rB2 l) w):=by
 have HBS:=aW hv;obtain ⟨A,cap,rfl,hcap,hr⟩:=hv;obtain ⟨r,hr0⟩:∃ r,rB2 l=r:=⟨_,rfl⟩
 rw [hr0];have hrr:=vl l;rw [hr0] at hrr;cases hL:(if l[0]? = some 92 then l[1]?.bind (λ c=>aD c.toNat) else none) with
 |some x =>
  rw [hL] at hrr;split at hL
  ·rename_i h92
   obtain ⟨c1,hc1,hx⟩:=Option.bind_eq_some_iff.1 hL;have hlt:=(List.getElem?_eq_some_iff.1 hc1).1;obtain ⟨b,o,rfl,hb⟩:=hr.some_ (by omega);have hx0:=BS.at_ (n:=0) (cap:=0) hr h92;have hx1:=BS.at_ (n:=0) (cap:=0) hr hc1;rw [Nat.add_zero] at hx0;have HR:=aW hrr;have hS:=λ w=>jR c1 w
   rw [hx] at hS;simp only [ir] at hS;have HS:=aW hS;clear hL hrr hr0 h92 hc1 hx hS;go_enter Tryz.func178,Tryz.ntmps178;go_wp2_with fail;refine (HS.out _).mono ?_;rintro e w1 ⟨rfl,hb1⟩;have hx1':w1.cell? ⟨b,o+1,none⟩=some (Zi .u8 c1.toNat):=(hb1.cell (p:=⟨b,o+1,none⟩) hb).trans hx1;clear hx0 hx1;go_wp2_with fail;refine (HS.out _).mono ?_;rintro e w2 ⟨rfl,hb2⟩;go_wp2;go_ret2;rw [HR.out];exact ⟨rfl,hb1.trans (hb2.mono hb1.size)⟩
  ·cases hL
 |none =>
  rw [hL] at hrr;simp only at hrr;have HR:=aW hrr;clear hrr hr0;go_enter Tryz.func178,Tryz.ntmps178;go_upto_region 1 with fail;go_cut [23] (λ s23 wx=>s23=.bool false/\Below w.heap.size w wx)
  case first =>
   by_cases h1:1<l.length
   ·obtain ⟨b,o,rfl,hb⟩:=hr.some_ (by omega);obtain ⟨c0,hc0⟩:∃ c,l[0]? = some c:=⟨_,List.getElem?_eq_getElem (by omega)⟩
    obtain ⟨c1,hc1⟩:∃ c,l[1]? = some c:=⟨_,List.getElem?_eq_getElem h1⟩
    have hx0:=BS.at_ (n:=0) (cap:=0) hr hc0;have hx1:=BS.at_ (n:=0) (cap:=0) hr hc1;rw [Nat.add_zero] at hx0;by_cases h92:c0=92
    ·subst h92;have hln:aD c1.toNat=none:=by rw [hc0,hc1] at hL;simpa using hL
     have hS:=λ w=>jR c1 w
     rw [hln] at hS;simp only [ir] at hS;have HS:=aW hS;clear hL hc0 hc1 hln hS;go_wp2_with fail;refine (HS.out _).mono ?_;rintro e w1 ⟨rfl,hb1⟩;go_wp2;go_meet
     case rel=>exact ⟨rfl,hb1⟩
    ·have hne:((c0.toNat:Int) == 92)=false:=by
      have:c0.toNat≠92:=λ e=>h92 (UInt8.toNat_inj.1 (by simpa using e))
      simp;omega
     clear hL hc0 hc1;go_wp2;go_meet
     case rel=>exact ⟨rfl,Below.refl _ _⟩
   ·have h2:(l.length:Int)<=1:=by omega
    go_wp2;go_meet
    case rel=>exact ⟨rfl,Below.refl _ _⟩
  case rest =>
   obtain ⟨rfl,hbw⟩:=hcut;have HV:=aW (HBS.out.below hbw);have H4:=aW (nU _ l wc HV.out hl);have HB:=aW (λ wx (h:Below wc.heap.size wc wx)=>mp _ l wx (HV.out.below h) hl);clear hL;go_upto_if 31 with fail;refine H4.out.mono ?_;rintro e w1 ⟨rfl,rfl⟩;obtain ⟨u,hu⟩:∃ u,cd l 0=u:=⟨_,rfl⟩
   rw [hu];have HU:=aW hu;have HI:=aW (lp u wc);obtain ⟨bi,hbi⟩:∃ b,eV u=b:=⟨_,rfl⟩
   rw [hbi] at HI;have HBI:=aW hbi;clear hu hbi H4;go_upto_if 31 with fail;refine HI.out.mono ?_;rintro e w2 ⟨rfl,rfl⟩;go_upto_if 31 with fail;go_cut [] (λ wx=>Hid (r=jh l)/\wx=wc)
   case first =>
    cases hO:bq l 0 with
    |none =>
     have hu:u = -1:=by rw [← HU.out,cd,hO];rfl
     subst hu;have hbf:bi=false:=by rw [← HBI.out];decide
     subst hbf;have HRT:=aW (show r=jh l by rw [HR.out,iz,hO]);clear hO;go_wp2;go_meet
     case rel=>exact ⟨HRT,rfl⟩
    |some n =>
     have hu:u=(n:Int):=by rw [← HU.out,cd,hO];rfl
     have hn6:0+6<=l.length:=(gH hO).2;cases hbi:bi with
     |true =>
      have HRT:=aW (show r=(n,6) by rw [HR.out,iz,hO];simp only;rw [← hu,HBI.out,hbi];simp);subst hbi;clear hO;have HUU:=aW hu;clear hu;go_wp2;go_ret2;rw [HRT.out,HUU.out];exact ⟨rfl,hbw⟩
     |false =>
      by_cases hhi:55296<=u/\u<=56319
      ·obtain ⟨hh1,hh2⟩:=hhi;obtain ⟨b,o,rfl,hb⟩:=hr.some_ (by omega);have hrw:Rd wc (some ⟨b,o,none⟩) (aq l):=hr.below hbw;have hru:r=match bq l 6 with | some v=>if 56320<=v/\v<=57343 then (65536+1024*(n-55296)+(v-56320),12) else (0,0) | none=>(0,0):=by
        rw [HR.out,iz,hO];simp only;rw [← hu,HBI.out,hbi,if_neg (by simp),if_pos (by omega)]
       have HRU:=aW hru;have HUU:=aW hu;subst hbi;clear hO hu hru;have hcapne:¬ cap=6∨cap=6:=by omega
       have hF:Calls Tryz.prog 199 #[Zs (if cap=6 then some ⟨b,o,none⟩ else some ⟨b,o+6,none⟩) (l.length-6) (cap-6)] wc λ e w'=>e=.returned (Zi Zq (cd l 6))/\wc=w':=by
        have hbs:BS wc (Zs (if cap=6 then some ⟨b,o,none⟩ else some ⟨b,o+6,none⟩) (l.length-6) (cap-6)) (l.drop 6):=by
         split
         ·refine ⟨_,_,by rw [List.length_drop],by rw [List.length_drop];omega,?_⟩;rw [List.drop_eq_nil_of_le (by omega)];exact Rd.nil
         ·exact BS.dropN (n:=0) hrw hcap 6 (by omega)
        have:=nU _ (l.drop 6) wc hbs (by rw [List.length_drop];omega);have e:cd (l.drop 6) 0=cd l 6:=by unfold cd;rw [gR hn6]
        rw [e] at this;exact this
       obtain ⟨v6,hv6⟩:∃ v,cd l 6=v:=⟨_,rfl⟩
       rw [hv6] at hF;have HF:=aW hF;have HV6:=aW hv6;clear hF hv6 hcapne;have hl6:6<=l.length:=hn6;by_cases hlo:56320<=v6/\v6<=57343
       ·obtain ⟨hl1,hl2⟩:=hlo;have hres:r=((65536+1024*(u-55296)+(v6-56320)).toNat,12):=by
         cases hO6:bq l 6 with
         |none =>
          have:v6 = -1:=by rw [← HV6.out,cd,hO6];rfl
          omega
         |some m =>
          have hm:v6=(m:Int):=by rw [← HV6.out,cd,hO6];rfl
          have h1:=HUU.out;rw [HRU.out,hO6];simp only;rw [if_pos (by omega)];refine Prod.ext ?_ rfl;show _=((65536+1024*(u-55296)+(v6-56320)).toNat:Nat)
          omega
        have HRT:=aW hres;have hz:((65536+1024*(u-55296)+(v6-56320)).toNat:Int)=65536+1024*(u-55296)+(v6-56320):=Int.toNat_of_nonneg (by omega);have HZ:=aW (show Ending.returned (.tuple #[Zi Zq (65536+1024*(u-55296)+(v6-56320)),Zi Zq 12])=Ending.returned (.tuple #[Zi Zq ((65536+1024*(u-55296)+(v6-56320)).toNat:Nat),Zi Zq ((12:Nat):Int)]) by rw [hz];rfl);clear hres hz;by_cases hc6:cap=6
        ·skip
         rw [if_pos hc6,show cap-6=0 from by omega] at HF;go_wp2_with fail;refine HF.out.mono ?_;rintro e w3 ⟨rfl,rfl⟩;go_wp2;go_ret2;rw [HRT.out];exact ⟨HZ.out,hbw⟩
        ·skip
         rw [if_neg hc6] at HF;go_wp2_with fail;refine HF.out.mono ?_;rintro e w3 ⟨rfl,rfl⟩;go_wp2;go_ret2;rw [HRT.out];exact ⟨HZ.out,hbw⟩
       ·have HRT:=aW (show r=(0,0) by
         rw [HRU.out];cases hO6:bq l 6 with
         | none=>rfl
         |some m =>
          have hm:v6=(m:Int):=by rw [← HV6.out,cd,hO6];rfl
          simp only;rw [if_neg (by omega)])
        have hg:(56320<=v6/\57343<v6)∨v6<56320:=by omega
        clear hlo;rcases hg with ⟨hg1,hg2⟩ | hg2
        ·by_cases hc6:cap=6
         ·skip
          rw [if_pos hc6,show cap-6=0 from by omega] at HF;go_wp2_with fail;refine HF.out.mono ?_;rintro e w3 ⟨rfl,rfl⟩;go_wp2;go_ret2;rw [HRT.out];exact ⟨rfl,hbw⟩
         ·skip
          rw [if_neg hc6] at HF;go_wp2_with fail;refine HF.out.mono ?_;rintro e w3 ⟨rfl,rfl⟩;go_wp2;go_ret2;rw [HRT.out];exact ⟨rfl,hbw⟩
        ·by_cases hc6:cap=6
         ·skip
          rw [if_pos hc6,show cap-6=0 from by omega] at HF;go_wp2_with fail;refine HF.out.mono ?_;rintro e w3 ⟨rfl,rfl⟩;go_wp2;go_ret2;rw [HRT.out];exact ⟨rfl,hbw⟩
         ·skip
          rw [if_neg hc6] at HF;go_wp2_with fail;refine HF.out.mono ?_;rintro e w3 ⟨rfl,rfl⟩;go_wp2;go_ret2;rw [HRT.out];exact ⟨rfl,hbw⟩
      ·have HRT:=aW (show r=jh l by
        rw [HR.out,iz,hO];simp only;rw [← hu,HBI.out,hbi,if_neg (by simp),if_neg (by omega)])
       subst hbi;clear hO hu;by_cases hg1:55296<=u
       ·have hg2:56319<u:=by omega
        clear hhi;go_wp2;go_meet
        case rel=>exact ⟨HRT,rfl⟩
       ·have hg2:u<55296:=by omega
        clear hhi;go_wp2;go_meet
        case rel=>exact ⟨HRT,rfl⟩
   case rest =>
    obtain ⟨HRT,rfl⟩:=hcut;obtain ⟨⟨p,n⟩,hpn⟩:∃ x,ak l=x:=⟨_,rfl⟩
    have hB:=HB.out wc (Below.refl _ _);rw [hpn] at hB;have hrt:r=if n=0∨p<32∨p=34∨p=92 then (0,0) else (p,n):=by rw [HRT.out,jh,hpn]
    have HB2:=aW hB;have HRR:=aW hrt;clear hB hrt hpn;go_wp2_with fail;refine HB2.out.mono ?_;rintro e w3 ⟨rfl,hb3⟩;obtain ⟨q,hq⟩:∃ q:Int,(p:Int)=q:=⟨_,rfl⟩
    obtain ⟨m,hm⟩:∃ m:Int,(n:Int)=m:=⟨_,rfl⟩
    simp only;rw [hq,hm];have HQ:=aW hq;have HM:=aW hm;have hq0:0<=q:=by omega
    have hm0:0<=m:=by omega
    clear hq hm;by_cases g1:m=0
    ·have HF:=aW (show r=(0,0) by rw [HRR.out,if_pos (.inl (by have:=HM.out;omega))]);have gb:(m == 0)=true:=by simpa using g1
     clear g1;go_wp2;go_ret2;rw [HF.out];exact ⟨rfl,hbw.trans (hb3.mono hbw.size)⟩
    ·have gb:(m == 0)=false:=by simpa using g1
     by_cases g2:q<32
     ·have HF:=aW (show r=(0,0) by rw [HRR.out,if_pos (.inr (.inl (by have:=HQ.out;omega)))]);clear g1;go_wp2;go_ret2;rw [HF.out];exact ⟨rfl,hbw.trans (hb3.mono hbw.size)⟩
     ·have g2':32<=q:=by omega
      by_cases g3:q=34
      ·have HF:=aW (show r=(0,0) by rw [HRR.out,if_pos (.inr (.inr (.inl (by have:=HQ.out;omega))))]);have gb3:(q == 34)=true:=by simpa using g3
       clear g1 g2 g3;go_wp2;go_ret2;rw [HF.out];exact ⟨rfl,hbw.trans (hb3.mono hbw.size)⟩
      ·have gb3:(q == 34)=false:=by simpa using g3
       by_cases g4:q=92
       ·have HF:=aW (show r=(0,0) by rw [HRR.out,if_pos (.inr (.inr (.inr (by have:=HQ.out;omega))))]);have gb4:(q == 92)=true:=by simpa using g4
        clear g1 g2 g3 g4;go_wp2;go_ret2;rw [HF.out];exact ⟨rfl,hbw.trans (hb3.mono hbw.size)⟩
       ·have gb4:(q == 92)=false:=by simpa using g4
        have HF:=aW (show r=(p,n) by
         rw [HRR.out,if_neg];have h1:=HQ.out;have h2:=HM.out;rintro (h | h | h | h)<;>omega)
        clear g1 g2 g3 g4;go_wp2;go_ret2;rw [HF.out];exact ⟨by simp only;rw [HQ.out,HM.out];rfl,hbw.trans (hb3.mono hbw.size)⟩
end
section
open Go.RowKit
theorem jc {c:UInt8} {r:List UInt8} (h:c.toNat<128):ak (c::r)=(c.toNat,1):=by
 rw [iD ((ok1 c r).2 h)];simp [a5]
theorem oK {c:UInt8} {r:List UInt8} (h:¬ c.toNat<128) (h2:(ak (c::r)).2≠0):128<=(ak (c::r)).1:=by
 have h1:bE (c::r) 1=false:=by rw [Bool.eq_false_iff];intro e;exact h ((ok1 c r).1 e)
 have key:∀ n,2<=n->bE (c::r) n=true->128<=a5 (c::r) n:=λ n hn hk=>by
  obtain ⟨e1,e2,e3⟩:=(d8 _ _).1 hk;rcases Nat.lt_or_ge (a5 (c::r) n) 128 with hlt | hge
  ·exfalso;have:=congrArg List.length e3;unfold ah at this;rw [if_pos hlt] at this;rw [List.length_take,List.length_singleton] at this;omega
  ·exact hge
 unfold ak at h2 ⊢;rw [h1] at h2 ⊢;simp only [Bool.false_eq_true,if_false] at h2 ⊢;split
 ·exact key 2 (by omega) ‹_›
 ·split
  ·exact key 3 (by omega) ‹_›
  ·split
   ·exact key 4 (by omega) ‹_›
   ·simp_all
theorem vK {l:List UInt8} {c:UInt8} {r:List UInt8} (h:l=c::r):jh l=if c.toNat=92∨c.toNat<32∨c.toNat=34∨(ak l).2=0 then (0,0) else ak l:=by
 unfold jh;by_cases h8:c.toNat<128
 ·have e:ak l=(c.toNat,1):=by rw [h];exact jc h8
  rw [e];simp only;by_cases hc:c.toNat<32∨c.toNat=34∨c.toNat=92
  ·rw [if_pos (.inr hc),if_pos (by rcases hc with h | h | h;exact .inr (.inl h);exact .inr (.inr (.inl h));exact .inl h)]
  ·rw [if_neg (by rintro (h | h);omega;exact hc h),if_neg (by rintro (h | h | h | h);exact hc (.inr (.inr h));exact hc (.inl h);exact hc (.inr (.inl h));omega)]
 ·by_cases h0:(ak l).2=0
  ·rw [if_pos (.inl h0),if_pos (.inr (.inr (.inr h0)))]
  ·have hb:128<=(ak l).1:=by rw [h] at h0 ⊢;exact oK h8 h0
   rw [if_neg (by rintro (h | h | h | h)<;>omega),if_neg (by rintro (h | h | h | h)<;>omega)]
theorem wk {l:List UInt8} {p:Nat} {c:UInt8} (hc:l[p]? = some c) :
  ((qsS l p).2.2=0/\qsS l p=(((rB2 (l.drop p)).1:Int),((p+(rB2 (l.drop p)).2:Nat):Int),0)/\(rB2 (l.drop p)).2≠0) ∨
  ((rB2 (l.drop p)).2=0/\(qsS l p).2.2=(if 128<=c.toNat then 110 else 7)):=by
 have hlt:=(List.getElem?_eq_some_iff.1 hc).1;have hd:l.drop p=c::l.drop (p+1):=by
  rw [List.drop_eq_getElem_cons hlt,(List.getElem?_eq_some_iff.1 hc).2]
 have hd0:(l.drop p)[0]? = some c:=by rw [List.getElem?_drop,Nat.add_zero];exact hc
 have hd1:(l.drop p)[1]? = l[p+1]?:=by rw [List.getElem?_drop]
 have hu0:bq (l.drop p) 0=bq l p:=gR (by omega);have ht:=vK hd;have hq:qsS l p=if c.toNat=92 then j5 l p else if c.toNat<32∨c.toNat=34 then (0,0,7) else ef l p:=by rw [qsS,hc]
 rw [vl,hd0,hd1];by_cases h92:c=92
 ·subst h92;have hT:jh (l.drop p)=(0,0):=by rw [ht,if_pos (.inl rfl)]
  have hE:(if 128<=(92:UInt8).toNat then (110:Int) else 7)=7:=by decide
  have hq2:qsS l p=j5 l p:=by rw [hq];exact if_pos rfl
  rw [if_pos rfl,hq2,hE];unfold j5;cases hu:bq l p with
  |some u =>
   have hn:=gH hu;have h117:l[p+1]? = some 117:=by
    unfold bq at hu;split at hu
    ·cases hu
    ·rename_i hh
     simp only [not_or,Classical.not_not] at hh;exact hh.2.2
   have hln:l[p+1]?.bind (λ c=>aD c.toNat)=none:=by rw [h117];rfl
   rw [hln];simp only;have hub:iz (l.drop p)=if eV (u:Int) then (u,6) else if 55296<=u/\u<=56319 then
     match bq l (p+6) with
     | some v=>if 56320<=v/\v<=57343 then (65536+1024*(u-55296)+(v-56320),12) else (0,0)
     | none=>(0,0)
    else (0,0):=by
    unfold iz;rw [hu0,hu,hT];have h6:bq (l.drop p) 6=bq l (p+6):=by
     have a1:=gR (l:=l) (a:=p+6) (by omega);have a2:=gR (l:=l.drop p) (a:=6) (by rw [List.length_drop];omega);rw [List.drop_drop] at a2;rw [← a2,a1]
    rw [h6]
    try rfl
   rw [hub];have hcs:0<aZ (u:Int) ↔ eV (u:Int)=true:=by
    rw [ec,nj]
    repeat' split
    all_goals omega
   by_cases hs:0<aZ (u:Int)
   ·rw [if_pos hs,if_pos (hcs.1 hs)];exact .inl ⟨rfl,by simp,by simp⟩
   ·have hncp:¬ eV (u:Int)=true:=λ e=>hs (hcs.2 e)
    have hrange:55296<=u/\u<=57343:=by
     have:=hncp;rw [ec] at this;omega
    rw [if_neg hs,if_neg hncp];by_cases hh:u<56320
    ·rw [if_pos hh,if_pos (show 55296<=u/\u<=56319 by omega)];cases hv:bq l (p+6) with
     | none=>exact .inr ⟨rfl,rfl⟩
     |some v =>
      simp only;by_cases hv2:56320<=v/\v<=57343
      ·rw [if_pos hv2,if_pos hv2];exact .inl ⟨rfl,by simp only [Prod.mk.injEq,and_true];omega,by simp⟩
      ·rw [if_neg hv2,if_neg hv2];exact .inr ⟨rfl,rfl⟩
    ·rw [if_neg hh,if_neg (show ¬ (55296<=u/\u<=56319) by omega)];exact .inr ⟨rfl,rfl⟩
  |none =>
   have hub:iz (l.drop p)=(0,0):=by unfold iz;rw [hu0,hu,hT]
   rw [hub];simp only;cases h1:l[p+1]? with
   | none=>exact .inr ⟨rfl,rfl⟩
   |some d =>
    simp only [Option.bind_some];cases hx:aD d.toNat with
    | none=>exact .inr ⟨rfl,rfl⟩
    | some x=>exact .inl ⟨rfl,by simp,by simp⟩
 ·have hn92:c.toNat≠92:=λ e=>h92 (UInt8.toNat_inj.1 (by simpa using e))
  have huN:bq l p=none:=by unfold bq;rw [if_pos (.inr (.inl (by rw [hc];simpa using h92)))]
  have hub:iz (l.drop p)=jh (l.drop p):=by unfold iz;rw [hu0,huN]
  rw [if_neg (by simpa using h92),hub,hq,if_neg hn92,ht];simp only;by_cases hlow:c.toNat<32∨c.toNat=34
  ·rw [if_pos hlow,if_pos (by rcases hlow with h | h;exact .inr (.inl h);exact .inr (.inr (.inl h)))];exact .inr ⟨rfl,by rw [if_neg (by omega)]⟩
  ·rw [if_neg hlow];have hnr:ef l (p:Int)=if (ak (l.drop p)).2=0 then (0,0,110) else (((ak (l.drop p)).1:Int),(p:Int)+(ak (l.drop p)).2,0):=by
    unfold ef;rw [if_neg (by omega),if_neg (by omega),Int.toNat_natCast]
   rw [hnr];by_cases h0:(ak (l.drop p)).2=0
   ·have h128:128<=c.toNat:=by
     rcases Nat.lt_or_ge c.toNat 128 with h | h
     ·rw [hd,jc h] at h0;simp at h0
     ·exact h
    rw [if_pos h0,if_pos (.inr (.inr (.inr h0)))];exact .inr ⟨rfl,by rw [if_pos h128]⟩
   ·rw [if_neg h0,if_neg (by rintro (h | h | h | h);exact hn92 h;exact hlow (.inl h);exact hlow (.inr h);exact h0 h)];exact .inl ⟨rfl,by simp,h0⟩
end
section
open Go.RowKit
attribute [local go_sem] aa ac ae ab
theorem oS:(Tryz.prog.info? 3).map (λ i=>(i.zero,i.size,i.bytes))=some (some (Zi Zq 0),1,8):=by kernel_rfl
def jo (l:List Int):List Value:=l.map (Value.int .i64)
def IS (w:World) (v:Value) (l:List Int):Prop:=∃ A cap,v=Zs A l.length cap/\l.length<=cap/\Rd w A (jo l)
theorem IS.of_own {w:World} {base:Nat} {e:TypeId} {v:Value} {l:List Int} {n:Nat} (hn:n=l.length) (h:w.ownsRow base e 1 v n (jo l)):IS w v l:=by
 subst hn;obtain ⟨A,cap,rfl,hc,hr⟩:=Rd.of_own h;exact ⟨A,cap,rfl,hc,hr⟩
theorem yJ {w:World} {A:Option Addr} {l:List UInt8} (h:Rd w A (aq l)):A=none->l.length=0:=by
 intro e;rcases Nat.eq_zero_or_pos l.length with h0 | h0
 ·exact h0
 ·obtain ⟨b,o,e2,_⟩:=h.some_ h0;rw [e] at e2;cases e2
theorem pO {w w':World} (h:Below w.heap.size w w'):w.grownBy w' none:=⟨h.os,h.tape,h.output,h.size,λ k hk _=>h.block k hk⟩
theorem dS {w w':World} {base:Nat} {e:TypeId} {size n:Nat} {v:Value} {xs:List Value} (h:w.ownsRow base e size v n xs) (hb:Below w.heap.size w w'):w'.ownsRow base e size v n xs :=
 h.kept (pO hb) (by cases v.ownBlock<;>simp)
def nf (l:List UInt8) (a:Nat) (w:World) (e:Ending) (w':World):Prop :=
 (∃ v,e=.returned (.tuple #[v,Zi Zq (bZ l a).2.1,Zi Zq (bZ l a).2.2])/\((bZ l a).2.2=0->w'.ownsRow w.heap.size 3 1 v ((aC l (a+1)).map Prod.fst).length (jo ((aC l (a+1)).map Prod.fst))))/\Below w.heap.size w w'
theorem jQ {l:List UInt8} {a p:Nat} {pre:List (Int × Int)} (ha:l[a]? = some 34) (hs:aC l (a+1)=pre) (hp:eW (a+1) pre=p) :
  bZ l a=if l[p]? = some 34 then (bv pre,(p:Int)+1,0) else ([],(p:Int),(fM l (p:Nat)).2.2):=by
 have hlt:=(List.getElem?_eq_some_iff.1 ha).1;unfold bZ;rw [if_neg (by omega),if_neg (by omega),Int.toNat_natCast,if_neg (by rw [ha];simp),hs,hp]
theorem vw (v:Value) (l:List UInt8) (a:Nat) (w:World) (hv:BS w v l) (hl:l.length<=4194304) (ha:l[a]? = some 34) :
  Calls Tryz.prog 142 #[v,Zi Zq a] w (nf l a w):=by
 obtain ⟨i0,hi,hz0,hz1,hz2⟩:=info_parts oS;have HBS:=aW hv;obtain ⟨A,cap,rfl,hcap,hr⟩:=hv;have halt:=(List.getElem?_eq_some_iff.1 ha).1;obtain ⟨b,o,rfl,hb⟩:=hr.some_ (by omega);have hxa:=BS.at_ (n:=0) (cap:=0) hr ha;have HA:=aW ha;have hane:((a:Int) == (l.length:Int))=false:=by simp;omega
 clear ha;go_enter Tryz.func142,Tryz.ntmps142;go_wp2;go_loopg [1,7] (l.length-a) (λ gk s1 s7 wr => ∃ (p:Nat) (pre:List (Int × Int)),a+1<=p/\p<=l.length/\gk=l.length+1-p/\s1=Zi Zq p/\wr.ownsRow w.heap.size 3 1 s7 pre.length (jo (pre.map Prod.fst))/\Below w.heap.size w wr /\
  Hid (aC l (a+1)=pre++aC l p/\eW (a+1) pre=p)/\pre.length<=p)
 case atStart=>exact ⟨a+1,[],by omega,by omega,by omega,by go_num,World.ownsRow_nil _ _ _ _,Below.refl _ _,aW ⟨rfl,rfl⟩,by simp⟩
 case round =>
  obtain ⟨p,pre,hp1,hp2,hgk,rfl,hown,hbw,HS,hpl⟩:=hrel;have HG:=aW hgk;clear hgk;have hrw:Rd wr (some ⟨b,o,none⟩) (aq l):=hr.below hbw;have hbr:b<wr.heap.size:=Nat.lt_of_lt_of_le hb hbw.size;have HRW:=aW hrw;by_cases hlt:p<l.length
  ·obtain ⟨c,hc⟩:∃ c,l[p]? = some c:=⟨_,List.getElem?_eq_getElem hlt⟩
   have hx:=BS.at_ (n:=0) (cap:=0) hrw hc;clear hrw;by_cases h34:c=34
   ·subst h34;have hq0:(qsS l p).2.2≠0:=by rw [qsS,hc];simp only;rw [if_neg (by decide),if_pos (by decide)];decide
    have hn:=ex (l:=l) (a:=p) (λ _=>hq0);have hQ:=jQ HA.out (by rw [HS.out.1,hn,List.append_nil]) HS.out.2;rw [if_pos hc] at hQ;have HQ:=aW hQ;have HSL:=aW (show aC l (a+1)=pre by rw [HS.out.1,hn,List.append_nil]);clear hq0 hn hQ hc hxa;go_wp2;go_ret3;refine ⟨⟨_,by rw [HQ.out];rfl,λ _=>?_⟩,hbw⟩;rw [HSL.out];simpa using hown
   ·have hne:((c.toNat:Int) == 34)=false:=by
     have:c.toNat≠34:=λ e=>h34 (UInt8.toNat_inj.1 (by simpa using e))
     simp;omega
    have hB:=kQ (Zs (some ⟨b,o+p,none⟩) (l.length-p) (cap-p)) (l.drop p) wr (BS.dropN (n:=0) HRW.out hcap p hp2) (by rw [List.length_drop];omega);have hW:=mv (Zs (some ⟨b,o,none⟩) l.length cap) l p;rw [hc] at hW;simp only at hW;have hcapp:¬ cap=p:=by omega
    rcases wk hc with ⟨h0,hq,hn0⟩ | ⟨hn0,herr⟩
    ·obtain ⟨⟨x,n⟩,hxn⟩:∃ r,rB2 (l.drop p)=r:=⟨_,rfl⟩
     rw [hxn] at hB hq hn0;simp only at hq hn0;have hqs:=fN hq hlt;obtain ⟨_,m',hm1,hm2,hm3,hm4,_⟩:=nR hq hlt;have hpn:p+n<=l.length:=by omega
     have HQS:=aW (show aC l (a+1)=(pre++[((x:Int),((p+n:Nat):Int))])++aC l (p+n)/\eW (a+1) (pre++[((x:Int),((p+n:Nat):Int))])=p+n from ⟨by rw [HS.out.1,hqs];simp,by rw [jP,Int.toNat_natCast]⟩);have HB:=aW hB;have hn0':((n:Int) == 0)=false:=by simp;omega
     clear hB hW hc h0 hq hqs hxn hm1 hm2 hm3 hm4 h34 hxa;go_wp2_with fail;refine HB.out.mono ?_;rintro e w1 ⟨rfl,hb1⟩;have hown1:=dS hown hb1;go_wp2_with (at_builtin;refine wpList_append_own _ rfl _ _ 176 rfl w.heap.size 3 i0 (Zi Zq 0) 1 8 Tryz.underlying176 hi hz0 hz1 hz2 rfl (by decide) _ _ _ rfl (hown1.alloc _) ⟨w1.heap.size,0,none⟩ 1 1 [Zi Zq x] rfl rfl (cell_one_new _ _ _) (by simp [Value.oneCell']) (by unfold maxLen;omega) (by omega) (by have:=hbw.size;have:=hb1.size;simp;omega) ?_;intro v' w2 hown2 hgr2 _);go_roundg (l.length+1-(p+n))
     case measure=>rw [HG.out];omega
     case rel =>
      have s1:=hbw.size;have s2:=hb1.size;refine ⟨p+n,pre++[((x:Int),((p+n:Nat):Int))],by omega,hpn,rfl,by go_num,?_,?_,HQS,by simp;omega⟩
      ·rw [List.length_append,List.length_singleton];have e:jo ((pre++[((x:Int),((p+n:Nat):Int))]).map Prod.fst)=jo (pre.map Prod.fst)++[Zi Zq x]:=by simp [jo]
       rw [e];exact hown2
      ·refine ((hbw.trans (hb1.mono s1)).alloc (by omega) _).grown hgr2 (by simp;omega) (λ k e=>?_);exact (hown1.lt k e).1
    ·obtain ⟨⟨x,n⟩,hxn⟩:∃ r,rB2 (l.drop p)=r:=⟨_,rfl⟩
     rw [hxn] at hB hn0;simp only at hn0;subst hn0;have hc0:(if 128<=c.toNat then (110:Int) else 7)≠0:=by split<;>decide
     have hn:=ex (l:=l) (a:=p) (λ _=>by rw [herr];exact hc0);have hQ:=jQ HA.out (by rw [HS.out.1,hn,List.append_nil]) HS.out.2;rw [if_neg (by rw [hc];simpa using h34)] at hQ;have hqs:fM l ((p:Nat):Int)=qsS l p:=by unfold fM;rw [if_neg (by omega),if_neg (by omega),Int.toNat_natCast]
     rw [hqs,herr] at hQ;obtain ⟨er,her⟩:∃ er:Int,(if 128<=c.toNat then (110:Int) else 7)=er:=⟨_,rfl⟩
     rw [her] at hQ hc0;rw [show (if 128<=c.toNat then (110:Int) else 7)=er from her] at hW;have HQ:=aW hQ;have HW:=aW hW;have HB:=aW hB;have HC0:=aW hc0;have HV:=aW (λ wx (h:Below w.heap.size w wx)=>HBS.out.below h);clear hB hW hc hn hQ hqs her hc0 herr hxn h34 hxa;go_wp2_with fail;refine HB.out.mono ?_;rintro e w1 ⟨rfl,hb1⟩;have HB1:=aW (hbw.trans (hb1.mono hbw.size));go_wp2_with fail;refine (HW.out w1 (HV.out w1 HB1.out) hl hp2).mono ?_;rintro e w2 ⟨rfl,rfl⟩;go_wp2;go_ret3;exact ⟨⟨_,by rw [HQ.out];rfl,λ h=>by rw [HQ.out] at h;exact absurd h HC0.out⟩,HB1.out⟩
  ·obtain rfl:p=l.length:=by omega
   have hn:=ex (l:=l) (a:=l.length) (λ h=>absurd h hlt);have hQ:=jQ HA.out (by rw [HS.out.1,hn,List.append_nil]) HS.out.2;rw [if_neg (by simp)] at hQ;have hqs:fM l ((l.length:Nat):Int)=(0,0,6):=by unfold fM;rw [if_neg (by omega),if_pos rfl]
   rw [hqs] at hQ;have HQ:=aW hQ;have hW:=mv (Zs (some ⟨b,o,none⟩) l.length cap) l l.length;rw [List.getElem?_eq_none (Nat.le_refl _)] at hW;simp only at hW;have hbs:BS wr (Zs (if cap=l.length then some ⟨b,o,none⟩ else some ⟨b,o+l.length,none⟩) (l.length-l.length) (cap-l.length)) (l.drop l.length):=by
    rw [List.drop_eq_nil_of_le (Nat.le_refl _)];exact ⟨_,_,by rw [Nat.sub_self];rfl,by simp,Rd.nil⟩
   have hB:=kQ _ (l.drop l.length) wr hbs (by simp);have hr0:rB2 (l.drop l.length)=(0,0):=by rw [List.drop_eq_nil_of_le (Nat.le_refl _)];decide
   rw [hr0,Nat.sub_self] at hB;have HW:=aW hW;have HB:=aW hB;have HV:=aW (λ wx (h:Below w.heap.size w wx)=>HBS.out.below h);clear hB hW hn hQ hqs hr0 hrw hxa hbs;by_cases hc6:cap=l.length
   ·rw [if_pos hc6,show cap-l.length=0 from by omega] at HB;rw [hc6] at HW HBS;have HV2:=aW (λ wx (h:Below w.heap.size w wx)=>HBS.out.below h);go_wp2_with fail;refine HB.out.mono ?_;rintro e w1 ⟨rfl,hb1⟩;have HB1:=aW (hbw.trans (hb1.mono hbw.size));go_wp2_with fail;refine (HW.out w1 (HV2.out w1 HB1.out) hl (Nat.le_refl _)).mono ?_;rintro e w2 ⟨rfl,rfl⟩;go_wp2;go_ret3;exact ⟨⟨_,by rw [HQ.out];rfl,λ h=>by rw [HQ.out] at h;cases h⟩,HB1.out⟩
   ·rw [if_neg hc6] at HB;go_wp2_with fail;refine HB.out.mono ?_;rintro e w1 ⟨rfl,hb1⟩;have HB1:=aW (hbw.trans (hb1.mono hbw.size));go_wp2_with fail;refine (HW.out w1 (HV.out w1 HB1.out) hl (Nat.le_refl _)).mono ?_;rintro e w2 ⟨rfl,rfl⟩;go_wp2;go_ret3;exact ⟨⟨_,by rw [HQ.out];rfl,λ h=>by rw [HQ.out] at h;cases h⟩,HB1.out⟩
theorem uI {xs:List Int} {i:Nat} {x:Int} (h:xs[i]? = some x):(jo xs)[i]? = some (Zi Zq x):=by unfold jo;rw [List.getElem?_map,h];rfl
theorem tG (v:Value) (cs:List Nat) (w:World) (hv:IS w v (cs.map λ n:Nat=>(n:Int))) (hl:cs.length<=4194304) (hcp:∀ c ∈ cs,eV (c:Int)=true) :
  Calls Tryz.prog 143 #[v] w λ e w'=>e=.returned (.tuple #[Zt ⟨(cs.flatMap ah).toArray⟩,.bool true])/\Below w.heap.size w w':=by
 obtain ⟨i0,hi,hz0,hz1,hz2⟩:=info_parts lP;obtain ⟨A,cap,rfl,hcap,hr⟩:=hv;rw [List.length_map] at hcap ⊢;obtain ⟨n,hn⟩:∃ n,cs.length=n:=⟨_,rfl⟩
 rw [hn] at hl hcap ⊢;have HN:=aW hn;have HC:=aW hcp;clear hn hcp;go_enter Tryz.func143,Tryz.ntmps143;go_wp2;go_loopg [4,5] n (λ gk s4 s5 wr => ∃ k:Nat,k<=n/\gk=n-k/\s5=Zi Zq k/\wr.ownsRow w.heap.size 5 1 s4 ((cs.take k).flatMap ah).length (aq ((cs.take k).flatMap ah))/\Below w.heap.size w wr/\((cs.take k).flatMap ah).length<=4*k)
 case atStart=>exact ⟨0,Nat.zero_le _,rfl,rfl,World.ownsRow_nil _ _ _ _,Below.refl _ _,by simp⟩
 case round =>
  obtain ⟨k,hk,hgk,rfl,hown,hbw,hlen4⟩:=hrel;have HG:=aW hgk;clear hgk;by_cases hlt:k<n
  ·obtain ⟨c,hc⟩:∃ c,cs[k]? = some c:=⟨_,List.getElem?_eq_getElem (by rw [HN.out];exact hlt)⟩
   have hcc:=HC.out c (List.mem_of_getElem? hc);have hrange:(c:Int)<=1114111:=by have:=hcc;unfold eV at this;have:=of_decide_eq_true this;omega
   obtain ⟨b,o,e,hb,hxs⟩:=hr (by
    intro e;have:cs.length=0:=by simpa [jo] using congrArg List.length e
    rw [HN.out] at this;omega)
   subst e;have hx:wr.cell? ⟨b,o+k,none⟩=some (Zi Zq c):=by
    have h1:(jo (cs.map λ n:Nat=>(n:Int)))[k]? = some (Zi Zq c):=uI (by rw [List.getElem?_map,hc];rfl);obtain ⟨h2,h3⟩:=List.getElem?_eq_some_iff.1 h1;exact (hbw.cell (p:=⟨b,o+k,none⟩) hb).trans (by rw [hxs k h2,h3])
   have HI:=aW (show ∀ w,Calls Tryz.prog 180 #[Zi Zq c] w λ e w'=>e=.returned (.bool true)/\w=w' from λ w=>by have:=lp c w;rw [hcc] at this;exact this);have hB:=mq (c:Int) wr (by omega) hrange;rw [Int.toNat_natCast] at hB;have hcl:(ah c).length<=4:=by unfold ah;(repeat' split)<;>simp
   have htk:(cs.take (k+1)).flatMap ah=(cs.take k).flatMap ah++ah c:=by rw [List.take_add_one,hc];simp
   obtain ⟨u,hu⟩:∃ u,ah c=u:=⟨_,rfl⟩
   rw [hu] at hB hcl htk;have HTK:=aW htk;have HB:=aW hB;obtain ⟨pre,hpre⟩:∃ pre,(cs.take k).flatMap ah=pre:=⟨_,rfl⟩
   rw [hpre] at hown hlen4;have HPRE:=aW hpre;clear hB hcc hrange hc htk hu hpre hxs;go_wp2_with fail;refine (HI.out _).mono ?_;rintro e w1 ⟨rfl,rfl⟩;go_wp2_with fail;refine HB.out.mono ?_;rintro e w2 ⟨v2,rfl,hv2,hb2⟩;obtain ⟨A2,c2,rfl,hc2,hr2⟩:=hv2;have hown2:=dS hown hb2;go_wp2_with (at_builtin;refine bD _ rfl _ _ 67 rfl w.heap.size 5 i0 (Zi .u8 0) 1 1 Tryz.underlying67 hi hz0 hz1 hz2 rfl (by decide) _ _ _ rfl hown2 A2 u.length c2 (yJ hr2) (aq u) rfl (by rw [av];omega) hr2 (j2 u) (by unfold maxLen;omega) (by omega) (by have:=hbw.size;have:=hb2.size;omega) ?_;intro v' w3 hown3 hgr3 _);go_roundg (n-(k+1))
   case measure=>rw [HG.out];omega
   case rel =>
    have s1:=hbw.size;have s2:=hb2.size;refine ⟨k+1,hlt,rfl,by go_num,?_,?_,by rw [HTK.out,HPRE.out,List.length_append];omega⟩
    ·rw [HTK.out,HPRE.out,gh,List.length_append];exact hown3
    ·exact (hbw.trans (hb2.mono s1)).grown hgr3 (by omega) (λ k e=>(hown2.lt k e).1)
  ·obtain rfl:k=n:=by omega
   have hbs:=BS.of_own hown;have hconv:=hbs.conv;have htk:cs.take k=cs:=List.take_of_length_le (by rw [HN.out];exact Nat.le_refl _);rw [htk] at hconv hown;have HCV:=aW htk;clear htk hbs hlen4;go_wp2;go_ret2;exact ⟨rfl,hbw⟩
end
end Go.Proofs.YtgmnmnnoahdjnaaGreatDoor
