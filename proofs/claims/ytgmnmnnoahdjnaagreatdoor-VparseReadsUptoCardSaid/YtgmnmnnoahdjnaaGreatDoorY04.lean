import Derived.Test.YtgmnmnnoahdjnaaGreatDoorProg
import Derived.Test.YtgmnmnnoahdjnaaGreatDoorY02
import Derived.Test.YtgmnmnnoahdjnaaGreatDoorY01
open Go.Value renaming int → Zi, slice → Zs, string → Zt, pointer → Zp
open Go.IntKind renaming i64 → Zq
set_option maxRecDepth 100000
set_option maxHeartbeats 16000000
set_option linter.unusedVariables false
set_option linter.unusedSimpArgs false
namespace Go.Proofs.YtgmnmnnoahdjnaaGreatDoor
section
open Go.RowKit
attribute [local go_sem] aa ac ae
structure GOK (w:World):Prop where
 lt:1<w.heap.size
 c0:w.cell? ⟨1,0,none⟩=some (Zi Zq 0)
 c1:w.cell? ⟨1,1,none⟩=some (Zi Zq 0)
theorem GOK.below {B:Nat} {w w':World} (h:GOK w) (hb:Below B w w') (hB:1<B):GOK w' :=
 ⟨Nat.lt_of_lt_of_le h.lt hb.size,(hb.cell (p:=⟨1,0,none⟩) hB).trans h.c0,(hb.cell (p:=⟨1,1,none⟩) hB).trans h.c1⟩
theorem GOK.keep {w w':World} (h:GOK w) (hb:Below w.heap.size w w'):GOK w':=h.below hb h.lt
theorem GOK.alloc {w:World} (h:GOK w) (o:Obj):GOK (w.alloc o):=h.keep ((Below.refl w.heap.size w).alloc (Nat.le_refl _) o)
theorem GOK.drewN {w:World} (h:GOK w) (n:Nat):GOK (w.drewN n):=⟨h.lt,h.c0,h.c1⟩
theorem eN (p:Int) (w:World) :
  Calls Tryz.prog 210 #[Zi Zq p] w λ e w'=>e=.returned (Zi Zq (aZ p))/\w=w':=by
 go_enter Tryz.func210,Tryz.ntmps210;go_wp2
 all_goals go_ret
 all_goals exact ⟨cX (by rw [nj];repeat' split<;>omega),rfl⟩
theorem pu (p:Int) (w:World) :
  Calls Tryz.prog 223 #[Zi Zq p] w λ e w'=>e=.returned (Zi Zq (aZ p))/\w=w':=by
 go_enter Tryz.func223,Tryz.ntmps223;go_wp2_with (go_at_call 210;refine (eN _ _).mono ?_;rintro e w' ⟨rfl,rfl⟩);go_ret;exact ⟨rfl,rfl⟩
theorem gu (w:World) :
  Calls Tryz.prog 240 #[] w λ e w'=>e=.returned (.agg #[Zi Zq 0,Zi Zq 0,Zi Zq 7,Zi Zq 0,Zi Zq 5,Zi Zq 192,Zi Zq 4,Zi Zq 224,Zi Zq 3,Zi Zq 240])/\Below w.heap.size w w':=by
 go_enter Tryz.func240,Tryz.ntmps240;go_wp2;go_returns;exact ⟨rfl,by go_grown⟩
def dM (c k:Nat):Prop:=(2<=k->¬ c / 128=0)/\(3<=k->¬ c / 32=6)/\(4<=k->¬ c / 16=14)/\(5<=k->¬ c / 8=30)
theorem dU (c:Nat) (w:World) (hG:GOK w) (hc:c<256) :
  Calls Tryz.prog 225 #[Zi .u8 c] w λ e w'=>e=.returned (.tuple #[.agg #[Zi Zq (aL c).1,Zi Zq (aL c).2.1],Zi Zq (aL c).2.2])/\Below w.heap.size w w':=by
 have HG:=hG;obtain ⟨hg,h0,h1⟩:=hG;go_enter Tryz.func225,Tryz.ntmps225;go_wp2;go_step3;go_wp2;go_step3;go_wp2_with (go_at_call 240;refine (gu _).mono ?_;rintro e w' ⟨rfl,hb⟩);go_loopw [5,10] (λ s i wr => ∃ k:Nat,k<=5/\i=Zi Zq k/\s=Zi Zq 0/\Blk wr w.heap.size 271 #[Zi Zq 0,Zi Zq 0]/\Blk wr (w.heap.size+1) 271 #[Zi Zq 0,Zi Zq 0]/\GOK wr/\Below w.heap.size w wr/\dM c k)
  (λ _ i _=>5-(intOf i).toNat)
 case atStart =>
  have b1:=(Blk.new (w.alloc (.cells #[Zi Zq 0,Zi Zq 0] 271)) 271 #[Zi Zq 0,Zi Zq 0]).keep hb;rw [World.size_alloc] at b1;exact ⟨0,by omega,rfl,rfl,((Blk.new w 271 _).alloc _).keep hb,b1,((HG.alloc _).alloc _).keep hb,
   (((Below.refl _ w).alloc (Nat.le_refl _) _).alloc (by simp) _).trans (hb.mono (by simp;omega)),by simp [dM]⟩
 case round =>
  obtain ⟨k,hk,rfl,rfl,b2,b4,hGr,hbr,hno⟩:=hrel;clear hb h0 h1 hg;have hs:=b4.lt;obtain ⟨h2,h2f,_⟩:=b2.rules;obtain ⟨h4,h4f,_⟩:=b4.rules;obtain ⟨hg,h0,h1⟩:=hGr;have HN:=aW hno;clear hno;rcases (by omega:k=0∨k=1∨k=2∨k=3∨k=4∨k=5) with rfl | rfl | rfl | rfl | rfl | rfl
  ·go_wp2;go_quiet (fail);go_wp2;go_roundw
   case rel=>exact ⟨1,by omega,rfl,rfl,(b2.alloc _).drewN _,(b4.alloc _).drewN _,(GOK.alloc ⟨hg,h0,h1⟩ _).drewN _,(by repeat (first | exact hbr | apply aj | (refine Below.setCell ?_ (by first | (simp;done) | (simp;omega) | omega) _) | (refine Below.alloc ?_ (by first | (simp;done) | (simp;omega) | omega) _))),by simp [dM]⟩
   case measure=>simp [intOf]
  ·go_wp2;go_quiet (fail);go_wp2
   ·have hh:c / 128=0:=by
     have h:=‹((c:Int) / 128 == 0)=true›;simp at h;omega
    rw [Exit.noGoto_ret];refine bodyPost_ret (v:=.tuple #[.agg #[Zi Zq 7,Zi Zq 0],Zi Zq 1]) (by simp only [results,Tryz.results225];go_simp) rfl ⟨?_,(by repeat (first | exact hbr | apply aj | (refine Below.setCell ?_ (by first | (simp;done) | (simp;omega) | omega) _) | (refine Below.alloc ?_ (by first | (simp;done) | (simp;omega) | omega) _)))⟩;have hno:=HN.out;simp only [dM] at hno;have hs:aL c=(7,0,1):=by simp only [aL];rw [if_pos hh]
    rw [hs];rfl
   ·have hh:¬ c / 128=0:=by
     have h:=‹((c:Int) / 128 == 0)=false›;simp at h;omega
    go_roundw
    case rel=>exact ⟨2,by omega,rfl,rfl,(b2.alloc _).drewN _,(b4.alloc _).drewN _,(GOK.alloc ⟨hg,h0,h1⟩ _).drewN _,(by repeat (first | exact hbr | apply aj | (refine Below.setCell ?_ (by first | (simp;done) | (simp;omega) | omega) _) | (refine Below.alloc ?_ (by first | (simp;done) | (simp;omega) | omega) _))),by have hno:=HN.out;simp only [dM] at hno ⊢;omega⟩
    case measure=>simp [intOf]
  ·go_wp2;go_quiet (fail);go_wp2
   ·have hh:c / 32=6:=by
     have h:=‹((c:Int) / 32 == 6)=true›;simp at h;omega
    rw [Exit.noGoto_ret];refine bodyPost_ret (v:=.tuple #[.agg #[Zi Zq 5,Zi Zq 192],Zi Zq 2]) (by simp only [results,Tryz.results225];go_simp) rfl ⟨?_,(by repeat (first | exact hbr | apply aj | (refine Below.setCell ?_ (by first | (simp;done) | (simp;omega) | omega) _) | (refine Below.alloc ?_ (by first | (simp;done) | (simp;omega) | omega) _)))⟩;have hno:=HN.out;simp only [dM] at hno;have hs:aL c=(5,192,2):=by simp only [aL];rw [if_neg (by omega)];rw [if_pos hh]
    rw [hs];rfl
   ·have hh:¬ c / 32=6:=by
     have h:=‹((c:Int) / 32 == 6)=false›;simp at h;omega
    go_roundw
    case rel=>exact ⟨3,by omega,rfl,rfl,(b2.alloc _).drewN _,(b4.alloc _).drewN _,(GOK.alloc ⟨hg,h0,h1⟩ _).drewN _,(by repeat (first | exact hbr | apply aj | (refine Below.setCell ?_ (by first | (simp;done) | (simp;omega) | omega) _) | (refine Below.alloc ?_ (by first | (simp;done) | (simp;omega) | omega) _))),by have hno:=HN.out;simp only [dM] at hno ⊢;omega⟩
    case measure=>simp [intOf]
  ·go_wp2;go_quiet (fail);go_wp2
   ·have hh:c / 16=14:=by
     have h:=‹((c:Int) / 16 == 14)=true›;simp at h;omega
    rw [Exit.noGoto_ret];refine bodyPost_ret (v:=.tuple #[.agg #[Zi Zq 4,Zi Zq 224],Zi Zq 3]) (by simp only [results,Tryz.results225];go_simp) rfl ⟨?_,(by repeat (first | exact hbr | apply aj | (refine Below.setCell ?_ (by first | (simp;done) | (simp;omega) | omega) _) | (refine Below.alloc ?_ (by first | (simp;done) | (simp;omega) | omega) _)))⟩;have hno:=HN.out;simp only [dM] at hno;have hs:aL c=(4,224,3):=by simp only [aL];rw [if_neg (by omega)];rw [if_neg (by omega)];rw [if_pos hh]
    rw [hs];rfl
   ·have hh:¬ c / 16=14:=by
     have h:=‹((c:Int) / 16 == 14)=false›;simp at h;omega
    go_roundw
    case rel=>exact ⟨4,by omega,rfl,rfl,(b2.alloc _).drewN _,(b4.alloc _).drewN _,(GOK.alloc ⟨hg,h0,h1⟩ _).drewN _,(by repeat (first | exact hbr | apply aj | (refine Below.setCell ?_ (by first | (simp;done) | (simp;omega) | omega) _) | (refine Below.alloc ?_ (by first | (simp;done) | (simp;omega) | omega) _))),by have hno:=HN.out;simp only [dM] at hno ⊢;omega⟩
    case measure=>simp [intOf]
  ·go_wp2;go_quiet (fail);go_wp2
   ·have hh:c / 8=30:=by
     have h:=‹((c:Int) / 8 == 30)=true›;simp at h;omega
    rw [Exit.noGoto_ret];refine bodyPost_ret (v:=.tuple #[.agg #[Zi Zq 3,Zi Zq 240],Zi Zq 4]) (by simp only [results,Tryz.results225];go_simp) rfl ⟨?_,(by repeat (first | exact hbr | apply aj | (refine Below.setCell ?_ (by first | (simp;done) | (simp;omega) | omega) _) | (refine Below.alloc ?_ (by first | (simp;done) | (simp;omega) | omega) _)))⟩;have hno:=HN.out;simp only [dM] at hno;have hs:aL c=(3,240,4):=by simp only [aL];rw [if_neg (by omega)];rw [if_neg (by omega)];rw [if_neg (by omega)];rw [if_pos hh]
    rw [hs];rfl
   ·have hh:¬ c / 8=30:=by
     have h:=‹((c:Int) / 8 == 30)=false›;simp at h;omega
    go_roundw
    case rel=>exact ⟨5,by omega,rfl,rfl,(b2.alloc _).drewN _,(b4.alloc _).drewN _,(GOK.alloc ⟨hg,h0,h1⟩ _).drewN _,(by repeat (first | exact hbr | apply aj | (refine Below.setCell ?_ (by first | (simp;done) | (simp;omega) | omega) _) | (refine Below.alloc ?_ (by first | (simp;done) | (simp;omega) | omega) _))),by have hno:=HN.out;simp only [dM] at hno ⊢;omega⟩
    case measure=>simp [intOf]
  ·go_wp2;rw [Exit.noGoto_ret];refine bodyPost_ret (v:=.tuple #[.agg #[Zi Zq 0,Zi Zq 0],Zi Zq 0]) (by simp only [results,Tryz.results225];go_simp) rfl ⟨?_,(by repeat (first | exact hbr | apply aj | (refine Below.setCell ?_ (by first | (simp;done) | (simp;omega) | omega) _) | (refine Below.alloc ?_ (by first | (simp;done) | (simp;omega) | omega) _)))⟩;have hno:=HN.out;simp only [dM] at hno;have hs:aL c=(0,0,0):=by simp only [aL];rw [if_neg (by omega),if_neg (by omega),if_neg (by omega),if_neg (by omega)]
   rw [hs];rfl
def dk (l:List UInt8) (p:Nat) (k:Nat):Nat:=((l.drop 1).take k).foldl (λ p c=>p*64+c.toNat % 64) p
def cm (l:List UInt8) (k:Nat):Bool:=!((l.drop 1).take k).any (λ c=>c.toNat / 64 != 2)
theorem iH {l:List UInt8} {p k:Nat} {c:UInt8} (h:l[k+1]? = some c):dk l p (k+1)=dk l p k*64+c.toNat % 64:=by
 unfold dk;have:(l.drop 1)[k]? = some c:=by rw [List.getElem?_drop,Nat.add_comm];exact h
 rw [List.take_add_one,this];simp
theorem fG {l:List UInt8} {k:Nat} {c:UInt8} (h:l[k+1]? = some c):cm l (k+1)=(cm l k && c.toNat / 64 == 2):=by
 unfold cm;have:(l.drop 1)[k]? = some c:=by rw [List.getElem?_drop,Nat.add_comm];exact h
 rw [List.take_add_one,this];simp [bne,Bool.not_not]
theorem ie {l:List UInt8} {k n:Nat} (h:k<=n) (hf:cm l k=false):cm l n=false:=by
 induction n with
 |zero =>
  obtain rfl:k=0:=by omega
  exact hf
 |succ n ih =>
  rcases Nat.lt_or_ge n k with h1 | h1
  ·obtain rfl:k=n+1:=by omega
   exact hf
  ·rcases hl:l[n+1]? with _ | c
   ·have h2:cm l (n+1)=cm l n:=by
     unfold cm;have:(l.drop 1).length<=n:=by
      have:=List.getElem?_eq_none_iff.1 hl;simp;omega
     rw [List.take_of_length_le (by omega),List.take_of_length_le this]
    rw [h2];exact ih h1
   ·rw [fG hl,ih h1];rfl
theorem lh (l:List UInt8) (p k:Nat):dk l p k<(p+1)*64 ^ k:=by
 unfold dk;generalize hm:(l.drop 1).take k=m;have hk:m.length<=k:=by rw [← hm];exact List.length_take_le _ _
 clear hm;have key:∀ (m:List UInt8) (p:Nat),m.foldl (λ p c=>p*64+c.toNat % 64) p<(p+1)*64 ^ m.length:=by
  intro m
  induction m with
  | nil=>intro p;simp
  |cons c m ih =>
   intro p;rw [List.foldl_cons,List.length_cons,Nat.pow_succ];refine Nat.lt_of_lt_of_le (ih _) ?_;have:p*64+c.toNat % 64+1<=(p+1)*64:=by omega
   calc (p*64+c.toNat % 64+1)*64 ^ m.length<=((p+1)*64)*64 ^ m.length:=Nat.mul_le_mul_right _ this
    _=(p+1)*(64 ^ m.length*64):=by rw [Nat.mul_assoc,Nat.mul_comm 64]
 exact Nat.lt_of_lt_of_le (key m p) (Nat.mul_le_mul_left _ (Nat.pow_le_pow_right (by omega) hk))
theorem yn (b o cap:Nat) (l:List UInt8) (c0:UInt8) (r:List UInt8) (w:World) (hl:l=c0::r) (hG:GOK w) (hb:b<w.heap.size)
  (hx:∀ i c,l[i]? = some c->w.cell? ⟨b,o+i,none⟩=some (Zi .u8 c.toNat)) (hcap:l.length<=cap) (hlen:l.length<=4194304) (hsz:aL c0.toNat=(5,192,2)) :
  Calls Tryz.prog 213 #[Zs (some ⟨b,o,none⟩) l.length cap] w λ e w'=>e=.returned (.tuple #[Zi Zq (bG l).1,Zi Zq (bG l).2])/\Below w.heap.size w w':=by
 have hc0:w.cell? ⟨b,o,none⟩=some (Zi .u8 c0.toNat):=hx 0 c0 (by rw [hl];rfl);have hlt:=c0.toNat_lt;have hpos:0<l.length:=by rw [hl];simp
 have hns:bG l=if l.length<2 then (0,0) else if cm l 1=false then (0,0) else if bJ (dk l (c0.toNat % 2 ^ 5) 1)≠2 then (0,0) else (dk l (c0.toNat % 2 ^ 5) 1,2):=by
  subst hl;simp only [bG,List.headD_cons,hsz,cm,dk];simp
 have HL:=aW hl;have HS:=aW hns;have HZ:=aW hsz;have HX:=aW hx;clear hl hns hsz hx;by_cases hn:l.length<2
 ·rw [show bG l=(0,0) from by rw [HS.out,if_pos hn]];go_enter Tryz.func213,Tryz.ntmps213;go_wp2_with (go_at_call 225;refine (dU _ _ hG (by omega)).mono ?_;rintro e w1 ⟨rfl,hb1⟩;rw [HZ.out];have hz1:=hb1.size;obtain ⟨hg,h0,h1⟩:=hG.keep hb1);go_ret2;exact ⟨rfl,(by repeat (first | exact hb1 | apply aj | (refine Below.setCell ?_ (by first | (simp;done) | (simp;omega) | omega) _) | (refine Below.alloc ?_ (by first | (simp;done) | (simp;omega) | omega) _)))⟩
 ·have hnl:(2:Nat)<=l.length:=by omega
  have hcl:(2:Nat)<=cap:=by omega
  clear hn;go_enter Tryz.func213,Tryz.ntmps213;go_wp2_with (go_at_call 225;refine (dU _ _ hG (by omega)).mono ?_;rintro e w1 ⟨rfl,hb1⟩;rw [HZ.out];have hz1:=hb1.size;obtain ⟨hg,h0,h1⟩:=hG.keep hb1;have hc1:w1.cell? ⟨b,o,none⟩=some (Zi .u8 c0.toNat):=(hb1.cell hb).trans hc0;have hsz:b<w1.heap.size:=Nat.lt_of_lt_of_le hb hb1.size);go_quiet (fail);go_wp2;have hm:bits BinOp.and IntKind.i64 (c0.toNat:Int) 31=((c0.toNat % 2 ^ 5:Nat):Int):=im c0.toNat 5 (by omega) (by decide);go_loop [6,38] (λ p i => ∃ k:Nat,k<=1/\i=Zi Zq k/\p=Zi Zq (dk l (c0.toNat % 2 ^ 5) k)/\cm l k=true) (λ _ i=>1-(intOf i).toNat)
  case atStart=>exact ⟨0,by omega,rfl,by rw [hm];simp [dk],by simp [cm]⟩
  case round =>
   obtain ⟨k,hk,rfl,rfl,hok⟩:=hrel;clear hm;have hgl:=lh l (c0.toNat % 2 ^ 5) k;have hgb:dk l (c0.toNat % 2 ^ 5) k<8388608:=by
    refine Nat.lt_of_lt_of_le hgl ?_;have h1:64 ^ k<=64 ^ 1:=Nat.pow_le_pow_right (by omega) hk;have h2:c0.toNat % 2 ^ 5+1<=32:=by have:=Nat.mod_lt c0.toNat (show 0<2 ^ 5 by decide);omega
    calc (c0.toNat % 2 ^ 5+1)*64 ^ k<=32*64 ^ 1:=Nat.mul_le_mul h2 h1
     _<=8388608:=by decide
   clear hgl;have HO:=aW hok;clear hok;by_cases hk1:k<1
   ·obtain ⟨c,hc⟩:∃ c,l[k+1]? = some c:=⟨l[k+1]'(by omega),List.getElem?_eq_getElem _⟩
    have hck:w1.cell? ⟨b,o+1+k,none⟩=some (Zi .u8 c.toNat):=(hb1.cell hb).trans (by rw [Nat.add_assoc,Nat.add_comm 1 k];exact HX.out _ _ hc);have hG:=aW (iH (p:=c0.toNat % 2 ^ 5) hc);have hC:=aW (fG hc);have HC:=aW hc;clear hc;have hlt2:=c.toNat_lt;obtain ⟨p,hp⟩:∃ p,dk l (c0.toNat % 2 ^ 5) k=p:=⟨_,rfl⟩
    rw [hp] at hgb hG ⊢;have HP:=aW hp;clear hp;have hj:=aW (lN p (c.toNat % 64) 6 (by omega) (by omega));go_wp2
    ·have hh:¬ c.toNat / 64=2:=by
      have h:=‹((c.toNat:Int) / 64 != 2)=true›;simp at h;omega
     go_ret2;refine ⟨?_,(by repeat (first | exact hb1 | apply aj | (refine Below.setCell ?_ (by first | (simp;done) | (simp;omega) | omega) _) | (refine Below.alloc ?_ (by first | (simp;done) | (simp;omega) | omega) _)))⟩;have hf:cm l 1=false:=ie (k:=k+1) (by omega) (by rw [hC.out];simp [hh]);rw [HS.out,if_neg (by omega),if_pos hf];rfl
    ·have hh:c.toNat / 64=2:=by
      have h:=‹((c.toNat:Int) / 64 != 2)=false›;simp at h;omega
     go_round
     case rel=>exact ⟨k+1,by omega,by go_num,by rw [hG.out,← hj.out];go_num,by rw [hC.out,HO.out];simp [hh]⟩
     case measure=>simp [intOf];omega
   ·obtain rfl:k=1:=by omega
    obtain ⟨p,hp⟩:∃ p,dk l (c0.toNat % 2 ^ 5) 1=p:=⟨_,rfl⟩
    have HS2:Hid (bG l=if bJ p≠2 then (0,0) else (p,2)):=by
     have:=HS.out;rw [if_neg (by omega),if_neg (by rw [HO.out];simp),hp] at this;exact this
    rw [hp] at hgb ⊢;clear hp;go_wp2_with (go_at_call 210;refine (eN _ _).mono ?_;rintro e w' ⟨rfl,rfl⟩)
    ·have hh:bJ p≠2:=by
      have h:=‹(aZ (p:Int) != 2)=true›;intro he;rw [(br p 2).2 he] at h;simp at h
     go_ret2;exact ⟨by rw [HS2.out,if_pos hh];rfl,(by repeat (first | exact hb1 | apply aj | (refine Below.setCell ?_ (by first | (simp;done) | (simp;omega) | omega) _) | (refine Below.alloc ?_ (by first | (simp;done) | (simp;omega) | omega) _)))⟩
    ·have hh:bJ p=2:=by
      have h:=‹(aZ (p:Int) != 2)=false›;exact (br p 2).1 (by simpa using h)
     go_ret2;exact ⟨by rw [HS2.out,if_neg (by simp [hh])];rfl,(by repeat (first | exact hb1 | apply aj | (refine Below.setCell ?_ (by first | (simp;done) | (simp;omega) | omega) _) | (refine Below.alloc ?_ (by first | (simp;done) | (simp;omega) | omega) _)))⟩
theorem yo (b o cap:Nat) (l:List UInt8) (c0:UInt8) (r:List UInt8) (w:World) (hl:l=c0::r) (hG:GOK w) (hb:b<w.heap.size)
  (hx:∀ i c,l[i]? = some c->w.cell? ⟨b,o+i,none⟩=some (Zi .u8 c.toNat)) (hcap:l.length<=cap) (hlen:l.length<=4194304) (hsz:aL c0.toNat=(4,224,3)) :
  Calls Tryz.prog 213 #[Zs (some ⟨b,o,none⟩) l.length cap] w λ e w'=>e=.returned (.tuple #[Zi Zq (bG l).1,Zi Zq (bG l).2])/\Below w.heap.size w w':=by
 have hc0:w.cell? ⟨b,o,none⟩=some (Zi .u8 c0.toNat):=hx 0 c0 (by rw [hl];rfl);have hlt:=c0.toNat_lt;have hpos:0<l.length:=by rw [hl];simp
 have hns:bG l=if l.length<3 then (0,0) else if cm l 2=false then (0,0) else if bJ (dk l (c0.toNat % 2 ^ 4) 2)≠3 then (0,0) else (dk l (c0.toNat % 2 ^ 4) 2,3):=by
  subst hl;simp only [bG,List.headD_cons,hsz,cm,dk];simp
 have HL:=aW hl;have HS:=aW hns;have HZ:=aW hsz;have HX:=aW hx;clear hl hns hsz hx;by_cases hn:l.length<3
 ·rw [show bG l=(0,0) from by rw [HS.out,if_pos hn]];go_enter Tryz.func213,Tryz.ntmps213;go_wp2_with (go_at_call 225;refine (dU _ _ hG (by omega)).mono ?_;rintro e w1 ⟨rfl,hb1⟩;rw [HZ.out];have hz1:=hb1.size;obtain ⟨hg,h0,h1⟩:=hG.keep hb1);go_ret2;exact ⟨rfl,(by repeat (first | exact hb1 | apply aj | (refine Below.setCell ?_ (by first | (simp;done) | (simp;omega) | omega) _) | (refine Below.alloc ?_ (by first | (simp;done) | (simp;omega) | omega) _)))⟩
 ·have hnl:(3:Nat)<=l.length:=by omega
  have hcl:(3:Nat)<=cap:=by omega
  clear hn;go_enter Tryz.func213,Tryz.ntmps213;go_wp2_with (go_at_call 225;refine (dU _ _ hG (by omega)).mono ?_;rintro e w1 ⟨rfl,hb1⟩;rw [HZ.out];have hz1:=hb1.size;obtain ⟨hg,h0,h1⟩:=hG.keep hb1;have hc1:w1.cell? ⟨b,o,none⟩=some (Zi .u8 c0.toNat):=(hb1.cell hb).trans hc0;have hsz:b<w1.heap.size:=Nat.lt_of_lt_of_le hb hb1.size);go_quiet (fail);go_wp2;have hm:bits BinOp.and IntKind.i64 (c0.toNat:Int) 15=((c0.toNat % 2 ^ 4:Nat):Int):=im c0.toNat 4 (by omega) (by decide);go_loop [6,38] (λ p i => ∃ k:Nat,k<=2/\i=Zi Zq k/\p=Zi Zq (dk l (c0.toNat % 2 ^ 4) k)/\cm l k=true) (λ _ i=>2-(intOf i).toNat)
  case atStart=>exact ⟨0,by omega,rfl,by rw [hm];simp [dk],by simp [cm]⟩
  case round =>
   obtain ⟨k,hk,rfl,rfl,hok⟩:=hrel;clear hm;have hgl:=lh l (c0.toNat % 2 ^ 4) k;have hgb:dk l (c0.toNat % 2 ^ 4) k<8388608:=by
    refine Nat.lt_of_lt_of_le hgl ?_;have h1:64 ^ k<=64 ^ 2:=Nat.pow_le_pow_right (by omega) hk;have h2:c0.toNat % 2 ^ 4+1<=16:=by have:=Nat.mod_lt c0.toNat (show 0<2 ^ 4 by decide);omega
    calc (c0.toNat % 2 ^ 4+1)*64 ^ k<=16*64 ^ 2:=Nat.mul_le_mul h2 h1
     _<=8388608:=by decide
   clear hgl;have HO:=aW hok;clear hok;by_cases hk1:k<2
   ·obtain ⟨c,hc⟩:∃ c,l[k+1]? = some c:=⟨l[k+1]'(by omega),List.getElem?_eq_getElem _⟩
    have hck:w1.cell? ⟨b,o+1+k,none⟩=some (Zi .u8 c.toNat):=(hb1.cell hb).trans (by rw [Nat.add_assoc,Nat.add_comm 1 k];exact HX.out _ _ hc);have hG:=aW (iH (p:=c0.toNat % 2 ^ 4) hc);have hC:=aW (fG hc);have HC:=aW hc;clear hc;have hlt2:=c.toNat_lt;obtain ⟨p,hp⟩:∃ p,dk l (c0.toNat % 2 ^ 4) k=p:=⟨_,rfl⟩
    rw [hp] at hgb hG ⊢;have HP:=aW hp;clear hp;have hj:=aW (lN p (c.toNat % 64) 6 (by omega) (by omega));go_wp2
    ·have hh:¬ c.toNat / 64=2:=by
      have h:=‹((c.toNat:Int) / 64 != 2)=true›;simp at h;omega
     go_ret2;refine ⟨?_,(by repeat (first | exact hb1 | apply aj | (refine Below.setCell ?_ (by first | (simp;done) | (simp;omega) | omega) _) | (refine Below.alloc ?_ (by first | (simp;done) | (simp;omega) | omega) _)))⟩;have hf:cm l 2=false:=ie (k:=k+1) (by omega) (by rw [hC.out];simp [hh]);rw [HS.out,if_neg (by omega),if_pos hf];rfl
    ·have hh:c.toNat / 64=2:=by
      have h:=‹((c.toNat:Int) / 64 != 2)=false›;simp at h;omega
     go_round
     case rel=>exact ⟨k+1,by omega,by go_num,by rw [hG.out,← hj.out];go_num,by rw [hC.out,HO.out];simp [hh]⟩
     case measure=>simp [intOf];omega
   ·obtain rfl:k=2:=by omega
    obtain ⟨p,hp⟩:∃ p,dk l (c0.toNat % 2 ^ 4) 2=p:=⟨_,rfl⟩
    have HS2:Hid (bG l=if bJ p≠3 then (0,0) else (p,3)):=by
     have:=HS.out;rw [if_neg (by omega),if_neg (by rw [HO.out];simp),hp] at this;exact this
    rw [hp] at hgb ⊢;clear hp;go_wp2_with (go_at_call 210;refine (eN _ _).mono ?_;rintro e w' ⟨rfl,rfl⟩)
    ·have hh:bJ p≠3:=by
      have h:=‹(aZ (p:Int) != 3)=true›;intro he;rw [(br p 3).2 he] at h;simp at h
     go_ret2;exact ⟨by rw [HS2.out,if_pos hh];rfl,(by repeat (first | exact hb1 | apply aj | (refine Below.setCell ?_ (by first | (simp;done) | (simp;omega) | omega) _) | (refine Below.alloc ?_ (by first | (simp;done) | (simp;omega) | omega) _)))⟩
    ·have hh:bJ p=3:=by
      have h:=‹(aZ (p:Int) != 3)=false›;exact (br p 3).1 (by simpa using h)
     go_ret2;exact ⟨by rw [HS2.out,if_neg (by simp [hh])];rfl,(by repeat (first | exact hb1 | apply aj | (refine Below.setCell ?_ (by first | (simp;done) | (simp;omega) | omega) _) | (refine Below.alloc ?_ (by first | (simp;done) | (simp;omega) | omega) _)))⟩
theorem yp (b o cap:Nat) (l:List UInt8) (c0:UInt8) (r:List UInt8) (w:World) (hl:l=c0::r) (hG:GOK w) (hb:b<w.heap.size)
  (hx:∀ i c,l[i]? = some c->w.cell? ⟨b,o+i,none⟩=some (Zi .u8 c.toNat)) (hcap:l.length<=cap) (hlen:l.length<=4194304) (hsz:aL c0.toNat=(3,240,4)) :
  Calls Tryz.prog 213 #[Zs (some ⟨b,o,none⟩) l.length cap] w λ e w'=>e=.returned (.tuple #[Zi Zq (bG l).1,Zi Zq (bG l).2])/\Below w.heap.size w w':=by
 have hc0:w.cell? ⟨b,o,none⟩=some (Zi .u8 c0.toNat):=hx 0 c0 (by rw [hl];rfl);have hlt:=c0.toNat_lt;have hpos:0<l.length:=by rw [hl];simp
 have hns:bG l=if l.length<4 then (0,0) else if cm l 3=false then (0,0) else if bJ (dk l (c0.toNat % 2 ^ 3) 3)≠4 then (0,0) else (dk l (c0.toNat % 2 ^ 3) 3,4):=by
  subst hl;simp only [bG,List.headD_cons,hsz,cm,dk];simp
 have HL:=aW hl;have HS:=aW hns;have HZ:=aW hsz;have HX:=aW hx;clear hl hns hsz hx;by_cases hn:l.length<4
 ·rw [show bG l=(0,0) from by rw [HS.out,if_pos hn]];go_enter Tryz.func213,Tryz.ntmps213;go_wp2_with (go_at_call 225;refine (dU _ _ hG (by omega)).mono ?_;rintro e w1 ⟨rfl,hb1⟩;rw [HZ.out];have hz1:=hb1.size;obtain ⟨hg,h0,h1⟩:=hG.keep hb1);go_ret2;exact ⟨rfl,(by repeat (first | exact hb1 | apply aj | (refine Below.setCell ?_ (by first | (simp;done) | (simp;omega) | omega) _) | (refine Below.alloc ?_ (by first | (simp;done) | (simp;omega) | omega) _)))⟩
 ·have hnl:(4:Nat)<=l.length:=by omega
  have hcl:(4:Nat)<=cap:=by omega
  clear hn;go_enter Tryz.func213,Tryz.ntmps213;go_wp2_with (go_at_call 225;refine (dU _ _ hG (by omega)).mono ?_;rintro e w1 ⟨rfl,hb1⟩;rw [HZ.out];have hz1:=hb1.size;obtain ⟨hg,h0,h1⟩:=hG.keep hb1;have hc1:w1.cell? ⟨b,o,none⟩=some (Zi .u8 c0.toNat):=(hb1.cell hb).trans hc0;have hsz:b<w1.heap.size:=Nat.lt_of_lt_of_le hb hb1.size);go_quiet (fail);go_wp2;have hm:bits BinOp.and IntKind.i64 (c0.toNat:Int) 7=((c0.toNat % 2 ^ 3:Nat):Int):=im c0.toNat 3 (by omega) (by decide);go_loop [6,38] (λ p i => ∃ k:Nat,k<=3/\i=Zi Zq k/\p=Zi Zq (dk l (c0.toNat % 2 ^ 3) k)/\cm l k=true) (λ _ i=>3-(intOf i).toNat)
  case atStart=>exact ⟨0,by omega,rfl,by rw [hm];simp [dk],by simp [cm]⟩
  case round =>
   obtain ⟨k,hk,rfl,rfl,hok⟩:=hrel;clear hm;have hgl:=lh l (c0.toNat % 2 ^ 3) k;have hgb:dk l (c0.toNat % 2 ^ 3) k<8388608:=by
    refine Nat.lt_of_lt_of_le hgl ?_;have h1:64 ^ k<=64 ^ 3:=Nat.pow_le_pow_right (by omega) hk;have h2:c0.toNat % 2 ^ 3+1<=8:=by have:=Nat.mod_lt c0.toNat (show 0<2 ^ 3 by decide);omega
    calc (c0.toNat % 2 ^ 3+1)*64 ^ k<=8*64 ^ 3:=Nat.mul_le_mul h2 h1
     _<=8388608:=by decide
   clear hgl;have HO:=aW hok;clear hok;by_cases hk1:k<3
   ·obtain ⟨c,hc⟩:∃ c,l[k+1]? = some c:=⟨l[k+1]'(by omega),List.getElem?_eq_getElem _⟩
    have hck:w1.cell? ⟨b,o+1+k,none⟩=some (Zi .u8 c.toNat):=(hb1.cell hb).trans (by rw [Nat.add_assoc,Nat.add_comm 1 k];exact HX.out _ _ hc);have hG:=aW (iH (p:=c0.toNat % 2 ^ 3) hc);have hC:=aW (fG hc);have HC:=aW hc;clear hc;have hlt2:=c.toNat_lt;obtain ⟨p,hp⟩:∃ p,dk l (c0.toNat % 2 ^ 3) k=p:=⟨_,rfl⟩
    rw [hp] at hgb hG ⊢;have HP:=aW hp;clear hp;have hj:=aW (lN p (c.toNat % 64) 6 (by omega) (by omega));go_wp2
    ·have hh:¬ c.toNat / 64=2:=by
      have h:=‹((c.toNat:Int) / 64 != 2)=true›;simp at h;omega
     go_ret2;refine ⟨?_,(by repeat (first | exact hb1 | apply aj | (refine Below.setCell ?_ (by first | (simp;done) | (simp;omega) | omega) _) | (refine Below.alloc ?_ (by first | (simp;done) | (simp;omega) | omega) _)))⟩;have hf:cm l 3=false:=ie (k:=k+1) (by omega) (by rw [hC.out];simp [hh]);rw [HS.out,if_neg (by omega),if_pos hf];rfl
    ·have hh:c.toNat / 64=2:=by
      have h:=‹((c.toNat:Int) / 64 != 2)=false›;simp at h;omega
     go_round
     case rel=>exact ⟨k+1,by omega,by go_num,by rw [hG.out,← hj.out];go_num,by rw [hC.out,HO.out];simp [hh]⟩
     case measure=>simp [intOf];omega
   ·obtain rfl:k=3:=by omega
    obtain ⟨p,hp⟩:∃ p,dk l (c0.toNat % 2 ^ 3) 3=p:=⟨_,rfl⟩
    have HS2:Hid (bG l=if bJ p≠4 then (0,0) else (p,4)):=by
     have:=HS.out;rw [if_neg (by omega),if_neg (by rw [HO.out];simp),hp] at this;exact this
    rw [hp] at hgb ⊢;clear hp;go_wp2_with (go_at_call 210;refine (eN _ _).mono ?_;rintro e w' ⟨rfl,rfl⟩)
    ·have hh:bJ p≠4:=by
      have h:=‹(aZ (p:Int) != 4)=true›;intro he;rw [(br p 4).2 he] at h;simp at h
     go_ret2;exact ⟨by rw [HS2.out,if_pos hh];rfl,(by repeat (first | exact hb1 | apply aj | (refine Below.setCell ?_ (by first | (simp;done) | (simp;omega) | omega) _) | (refine Below.alloc ?_ (by first | (simp;done) | (simp;omega) | omega) _)))⟩
    ·have hh:bJ p=4:=by
      have h:=‹(aZ (p:Int) != 4)=false›;exact (br p 4).1 (by simpa using h)
     go_ret2;exact ⟨by rw [HS2.out,if_neg (by simp [hh])];rfl,(by repeat (first | exact hb1 | apply aj | (refine Below.setCell ?_ (by first | (simp;done) | (simp;omega) | omega) _) | (refine Below.alloc ?_ (by first | (simp;done) | (simp;omega) | omega) _)))⟩
theorem ym (b o cap:Nat) (l:List UInt8) (c0:UInt8) (r:List UInt8) (w:World) (hl:l=c0::r) (hG:GOK w) (hb:b<w.heap.size)
  (hx:∀ i c,l[i]? = some c->w.cell? ⟨b,o+i,none⟩=some (Zi .u8 c.toNat)) (hcap:l.length<=cap) (hlen:l.length<=4194304) (hsz:aL c0.toNat=(7,0,1)) :
  Calls Tryz.prog 213 #[Zs (some ⟨b,o,none⟩) l.length cap] w λ e w'=>e=.returned (.tuple #[Zi Zq (bG l).1,Zi Zq (bG l).2])/\Below w.heap.size w w':=by
 have hc0:w.cell? ⟨b,o,none⟩=some (Zi .u8 c0.toNat):=hx 0 c0 (by rw [hl];rfl);have hlt:=c0.toNat_lt;have hpos:0<l.length:=by rw [hl];simp
 have h128:c0.toNat / 128=0:=by
  simp only [aL] at hsz;by_cases h:c0.toNat / 128=0
  ·exact h
  ·rw [if_neg h] at hsz;repeat' split at hsz
   all_goals simp at hsz
 have hns:bG l=(c0.toNat,1):=by
  rw [p6 l (by rw [hl];simp)];subst hl;rw [iD ((ok1 _ _).2 (by omega))];simp [a5]
 have HZ:=aW hsz;have h7:c0.toNat<128:=by omega
 rw [hns];clear hl hns hsz hx h128;have hm:bits BinOp.and IntKind.i64 (c0.toNat:Int) 127=(c0.toNat:Int):=by
  rw [show (127:Int)=((2 ^ 7-1:Nat):Int) from rfl,im c0.toNat 7 (by omega) (by decide)];omega
 have HM:=aW hm;clear hm;go_enter Tryz.func213,Tryz.ntmps213;go_wp2_with (go_at_call 225;refine (dU _ _ hG (by omega)).mono ?_;rintro e w1 ⟨rfl,hb1⟩;rw [HZ.out];have hz1:=hb1.size;obtain ⟨hg,h0,h1⟩:=hG.keep hb1;have hc1:w1.cell? ⟨b,o,none⟩=some (Zi .u8 c0.toNat):=(hb1.cell hb).trans hc0;have hsz:b<w1.heap.size:=Nat.lt_of_lt_of_le hb hb1.size);have HC:=aW (show aZ (c0.toNat:Int)=1 from (br c0.toNat 1).2 ((bN _ _).2 (by omega)));go_quiet (fail);go_wp2
 all_goals
  refine wp_loop_rounds 1 ?_;rw [rounds_succ,HM.out];go_wp2_with (go_at_call 210;refine (eN _ _).mono ?_;rintro e w' ⟨rfl,rfl⟩;rw [HC.out]);go_ret2;exact ⟨rfl,(by repeat (first | exact hb1 | apply aj | (refine Below.setCell ?_ (by first | (simp;done) | (simp;omega) | omega) _) | (refine Below.alloc ?_ (by first | (simp;done) | (simp;omega) | omega) _)))⟩
theorem yl (b o cap:Nat) (l:List UInt8) (c0:UInt8) (r:List UInt8) (w:World) (hl:l=c0::r) (hG:GOK w) (hb:b<w.heap.size)
  (hx:∀ i c,l[i]? = some c->w.cell? ⟨b,o+i,none⟩=some (Zi .u8 c.toNat)) (hsz:aL c0.toNat=(0,0,0)) :
  Calls Tryz.prog 213 #[Zs (some ⟨b,o,none⟩) l.length cap] w λ e w'=>e=.returned (.tuple #[Zi Zq (bG l).1,Zi Zq (bG l).2])/\Below w.heap.size w w':=by
 have hc0:w.cell? ⟨b,o,none⟩=some (Zi .u8 c0.toNat):=hx 0 c0 (by rw [hl];rfl);have hlt:=c0.toNat_lt;have hpos:0<l.length:=by rw [hl];simp
 have hns:bG l=(0,0):=by
  subst hl;simp [bG,hsz]
 have HZ:=aW hsz;rw [hns];clear hl hns hsz hx;go_enter Tryz.func213,Tryz.ntmps213;go_wp2_with (go_at_call 225;refine (dU _ _ hG (by omega)).mono ?_;rintro e w1 ⟨rfl,hb1⟩;rw [HZ.out];have hz1:=hb1.size;obtain ⟨hg,h0,h1⟩:=hG.keep hb1);go_ret2;exact ⟨rfl,(by repeat (first | exact hb1 | apply aj | (refine Below.setCell ?_ (by first | (simp;done) | (simp;omega) | omega) _) | (refine Below.alloc ?_ (by first | (simp;done) | (simp;omega) | omega) _)))⟩
theorem p7 (b o cap:Nat) (l:List UInt8) (w:World) (hl:l≠[]) (hG:GOK w) (hb:b<w.heap.size)
  (hx:∀ i c,l[i]? = some c->w.cell? ⟨b,o+i,none⟩=some (Zi .u8 c.toNat)) (hcap:l.length<=cap) (hlen:l.length<=4194304) :
  Calls Tryz.prog 213 #[Zs (some ⟨b,o,none⟩) l.length cap] w λ e w'=>e=.returned (.tuple #[Zi Zq (ak l).1,Zi Zq (ak l).2])/\Below w.heap.size w w':=by
 rw [← p6 l hl];obtain ⟨c0,r,hr⟩:=List.exists_cons_of_ne_nil hl;have hs:aL c0.toNat=(7,0,1)∨aL c0.toNat=(5,192,2)∨aL c0.toNat=(4,224,3)∨aL c0.toNat=(3,240,4)∨aL c0.toNat=(0,0,0):=by
  unfold aL;repeat' split
  all_goals simp
 rcases hs with h | h | h | h | h
 ·exact ym b o cap l c0 r w hr hG hb hx hcap hlen h
 ·exact yn b o cap l c0 r w hr hG hb hx hcap hlen h
 ·exact yo b o cap l c0 r w hr hG hb hx hcap hlen h
 ·exact yp b o cap l c0 r w hr hG hb hx hcap hlen h
 ·exact yl b o cap l c0 r w hr hG hb hx h
def ef (l:List UInt8) (at_:Int):Int × Int × Int :=
 if at_<0∨(l.length:Int)<at_ then (0,0,2) else if at_=l.length then (0,0,6)
 else if (ak (l.drop at_.toNat)).2=0 then (0,0,110) else ((ak (l.drop at_.toNat)).1,at_+(ak (l.drop at_.toNat)).2,0)
theorem t0 (A:Option Addr) (cap:Nat) (l:List UInt8) (at_:Int) (w:World) (hG:GOK w) (hr:Rd w A (aq l)) (hcap:l.length<=cap) (hlen:l.length<=4194304) :
  Calls Tryz.prog 209 #[Zs A l.length cap,Zi Zq at_] w λ e w'=>e=.returned (.tuple #[Zi Zq (ef l at_).1,Zi Zq (ef l at_).2.1,Zi Zq (ef l at_).2.2])/\Below w.heap.size w w':=by
 by_cases h1:at_<0∨(l.length:Int)<at_
 ·rw [show ef l at_=(0,0,2) from by rw [ef,if_pos h1]];go_enter Tryz.func209,Tryz.ntmps209;rcases h1 with h1 | h1
  ·go_wp2;go_ret3;exact ⟨rfl,Below.refl _ _⟩
  ·have h0:¬ at_<0:=by omega
   go_wp2;go_ret3;exact ⟨rfl,Below.refl _ _⟩
 ·by_cases h2:at_=l.length
  ·rw [show ef l at_=(0,0,6) from by rw [ef,if_neg h1,if_pos h2]];subst h2;go_enter Tryz.func209,Tryz.ntmps209;go_wp2;go_ret3;exact ⟨rfl,Below.refl _ _⟩
  ·obtain ⟨n,rfl⟩:=Int.eq_ofNat_of_zero_le (show 0<=at_ by omega);have hn:n<l.length:=by omega
   have hne:l≠[]:=by intro e;simp [e] at hn
   have hd:l.drop n≠[]:=by intro e;have:=congrArg List.length e;simp at this;omega
   obtain ⟨b,o,cap',hv,_,hb,hx⟩:=BS.some_ (w:=w) (v:=Zs A l.length cap) (l:=l) ⟨A,cap,rfl,hcap,hr⟩ hne;obtain ⟨rfl,rfl⟩:A=some ⟨b,o,none⟩/\cap=cap':=by simpa using hv
   have hR:Hid (ef l (n:Int)=if (ak (l.drop n)).2=0 then (0,0,110) else (((ak (l.drop n)).1:Int),(n:Int)+(ak (l.drop n)).2,0)):=by
    unfold ef;rw [if_neg h1,if_neg h2,Int.toNat_natCast];exact rfl
   have hcall:=p7 b (o+n) (cap-n) (l.drop n) w hd hG hb (λ i c hi=>by
    have:=hx (n+i) c (by rw [← hi,List.getElem?_drop]);rw [← this,Nat.add_assoc]) (by simp;omega) (by simp;omega)
   rw [List.length_drop] at hcall;obtain ⟨⟨p,m⟩,hp⟩:∃ q,ak (l.drop n)=q:=⟨_,rfl⟩
   rw [hp] at hcall hR;have HC:=aW hcall;have HB:=aW hp;clear hcall hp h1 h2 hx hr hv;have hcn:¬ cap=n:=by omega
   have hm4:m<=4:=by
    have h4:=lA (l.drop n);rw [HB.out] at h4;exact h4
   by_cases hm:m=0
   ·subst hm;rw [show ef l (n:Int)=(0,0,110) from by rw [hR.out,if_pos rfl]];go_enter Tryz.func209,Tryz.ntmps209;go_wp2_with (go_at_call 213;refine HC.out.mono ?_;rintro e w1 ⟨rfl,hb1⟩);go_ret3;exact ⟨rfl,hb1⟩
   ·have hmb:((m:Int) == 0)=false:=by simp;exact hm
    rw [show ef l (n:Int)=((p:Int),(n:Int)+m,0) from by rw [hR.out,if_neg hm]];go_enter Tryz.func209,Tryz.ntmps209;go_wp2_with (go_at_call 213;refine HC.out.mono ?_;rintro e w1 ⟨rfl,hb1⟩);go_ret3;exact ⟨rfl,hb1⟩
end
section
open Go.RowKit Go.Shelf
attribute [local go_sem] aa ac ae ab Oper.semAt_some
/-- p.bytes(): the point and its size are boxed;the function value captures the boxes -/
theorem sV (p:Int) (w:World) :
  Calls Tryz.prog 224 #[Zi Zq p] w λ e w'=>e=.returned (.func (.func 239) #[] #[Zp (some ⟨w.heap.size+1,0,none⟩),Zp (some ⟨w.heap.size,0,none⟩)]) /\
   (w.alloc (.cells #[Zi Zq p] 248)).alloc (.cells #[Zi Zq (aZ p)] 3)=w':=by
 go_enter Tryz.func224,Tryz.ntmps224;go_wp2_with (go_at_call 210;refine (eN _ _).mono ?_;rintro e w' ⟨rfl,rfl⟩);go_ret;exact ⟨rfl,rfl⟩
theorem gg (q mark k a:Nat) (hm:mark=2 ^ k*a) (hq:q<2 ^ k) (h:mark+q<256) :
  bits .or .i64 (q:Int) (mark:Int) % 256=((UInt8.ofNat (mark+q)).toNat:Int):=by
 rw [lO _ _ (by omega) (by omega),Nat.or_comm,hm,← Nat.two_pow_add_eq_or_of_lt hq,← hm,UInt8.toNat_ofNat_of_lt' (by simpa [UInt8.size] using h)];omega
theorem gc (q:Nat) (hq:q<1099511627776) :
  bits .or .i64 (bits .and .i64 (q:Int) 63) 128 % 256=((UInt8.ofNat (128+q % 64)).toNat:Int):=by
 have h:=im q 6 (by omega) (by decide);rw [show ((2 ^ 6-1:Nat):Int)=63 from rfl] at h;rw [h,show (128:Int)=((128:Nat):Int) from rfl];exact gg (q % 2 ^ 6) 128 7 1 rfl (by omega) (by omega)
def KpB (Bn Bp:Nat):World->World->Prop:=aO λ k=>k=Bn∨k=Bp
theorem ue (Bn Bp:Nat) (p:Nat) (l:Nat) (hp:0<=p/\p<128) (J Jx:List UInt8->World->Prop) (W:World)
  (hJ:∀ s A B,Below A.heap.size A B->J s A->J s B)
  (hY:∀ pre x W1,J pre W1->pre++[x] <+: ah p->YieldAt Fence.wide 1 Tryz.prog l #[Zi .u8 x.toNat] W1 λ e W' =>
   (e=.returned (.bool true)/\J (pre++[x]) W'/\KpB Bn Bp W1 W')∨(e=.returned (.bool false)/\Jx (pre++[x]) W'/\KpB Bn Bp W1 W'))
  (hn:Blk W Bn 3 #[Zi Zq (1:Nat)]) (hpB:Blk W Bp 248 #[Zi Zq p]) (h0:J [] W) :
  CallsIn Fence.wide 2 Tryz.prog 239 #[.func (.yield l) #[] #[],Zp (some ⟨Bn,0,none⟩),Zp (some ⟨Bp,0,none⟩)] W λ e W'=>(∃ v,e=.returned v) /\
   ((∃ xs,xs=ah p/\J xs W')∨(∃ pre,pre <+: ah p/\Jx pre W')):=by
 have hbytes:ah p=[UInt8.ofNat (p)]:=by
  unfold ah;rw [if_pos (by omega)]
 have HY:=aW hY;have HJ:=aW hJ;clear hY hJ;refine callsIn_of_wp Tryz.func239 rfl trivial ?_ rfl;simp only [Tryz.ntmps239,List.size_toArray,List.length_cons,List.length_nil,Nat.reduceAdd,Nat.reduceSub,Array.replicate_succ,Array.replicate_zero,List.push_toArray,List.append_toArray,List.nil_append,List.cons_append];obtain ⟨c1,f1,l1⟩:=hn.rules;have HB:=aW hbytes;clear hbytes;gi_wp2
 gi_loopw [4] (λ k wr => ∃ j:Nat,j<=1/\k=Zi Zq (0-(j:Int))/\J ((ah p).take j) wr/\Blk wr Bn 3 #[Zi Zq (1:Nat)]/\Blk wr Bp 248 #[Zi Zq p])
  (λ k wr=>(intOf k+1).toNat)
 case atStart=>exact ⟨0,by omega,by simp,h0,hn,hpB⟩
 case round =>
  obtain ⟨j,hj,rfl,hJs,bn,bp⟩:=hrel;clear hn hpB h0 c1 f1 l1;obtain ⟨c1,f1,l1⟩:=bn.rules;obtain ⟨c2,f2,l2⟩:=bp.rules;have hw6:IntKind.i64.wrap 0=0:=by decide
  have hw1:IntKind.i64.wrap 0=0:=by decide
  rcases (by omega:j=0∨j=1) with rfl | rfl
  ·have hv:(bits BinOp.or IntKind.i64 (p:Int) 0) % 256=((UInt8.ofNat p).toNat:Int):=by have:=gg p 0 7 0 rfl (by omega) (by omega);rw [Nat.zero_add] at this;exact_mod_cast this
   have hpre:(ah p).take 0++[UInt8.ofNat p]=(ah p).take 1:=by rw [HB.out];rfl
   obtain ⟨x,hx⟩:∃ x,UInt8.ofNat p=x:=⟨_,rfl⟩
   rw [hx] at hv hpre;clear hx;have HP:=aW hpre;clear hpre;gi_wp2;refine wpIn_wide.2 ?_;go_region_held3 (λ w'=>w'.cell? ⟨Bn,0,none⟩=some (Zi Zq (1:Nat))/\w'.cell? ⟨Bp,0,none⟩=some (Zi Zq p)) (go_keep) ((go_at_call 240;refine (gu _).mono ?_;rintro e w' ⟨rfl,hb⟩;obtain ⟨c1',f1',l1'⟩:=(bn.drew.keep hb).rules;obtain ⟨c2',f2',l2'⟩:=(bp.drew.keep hb).rules));have hbel:Below wr.heap.size wr w':=(Below.refl wr.heap.size wr).drew.trans hb;obtain ⟨fn,tmps,assign,body,hy,hR⟩:=HY.out _ x w' (HJ.out _ _ _ hbel hJs) (by rw [HP.out];exact List.take_prefix _ _);have bn2:=bn.keep hbel;have bp2:=bp.keep hbel;clear hbel hb;gi_wp2;refine hR.mono ?_;rintro e W3 (⟨rfl,hJ3,hk3⟩ | ⟨rfl,hJx3,hk3⟩)
   ·have bn3:=hk3.blk bn2 (.inl rfl);have bp3:=hk3.blk bp2 (.inr rfl);rw [HP.out] at hJ3;gi_wp2;go_roundw
    case rel=>exact ⟨1,by omega,by simp,hJ3,bn3,bp3⟩
    case measure=>simp [intOf]
   ·gi_wp2;refine bodyPost_ret (results_none rfl _ _ _) rfl ?_;exact ⟨⟨_,rfl⟩,.inr ⟨_,by rw [HP.out];exact List.take_prefix _ _,hJx3⟩⟩
  ·gi_wp2;go_end0;exact ⟨⟨_,rfl⟩,.inl ⟨_,rfl,by have:=hJs;rw [HB.out] at this ⊢;exact this⟩⟩
theorem uf (Bn Bp:Nat) (p:Nat) (l:Nat) (hp:128<=p/\p<2048) (J Jx:List UInt8->World->Prop) (W:World)
  (hJ:∀ s A B,Below A.heap.size A B->J s A->J s B)
  (hY:∀ pre x W1,J pre W1->pre++[x] <+: ah p->YieldAt Fence.wide 1 Tryz.prog l #[Zi .u8 x.toNat] W1 λ e W' =>
   (e=.returned (.bool true)/\J (pre++[x]) W'/\KpB Bn Bp W1 W')∨(e=.returned (.bool false)/\Jx (pre++[x]) W'/\KpB Bn Bp W1 W'))
  (hn:Blk W Bn 3 #[Zi Zq (2:Nat)]) (hpB:Blk W Bp 248 #[Zi Zq p]) (h0:J [] W) :
  CallsIn Fence.wide 2 Tryz.prog 239 #[.func (.yield l) #[] #[],Zp (some ⟨Bn,0,none⟩),Zp (some ⟨Bp,0,none⟩)] W λ e W'=>(∃ v,e=.returned v) /\
   ((∃ xs,xs=ah p/\J xs W')∨(∃ pre,pre <+: ah p/\Jx pre W')):=by
 have hbytes:ah p=[UInt8.ofNat (192+p / 64),UInt8.ofNat (128+p % 64)]:=by
  unfold ah;rw [if_neg (by omega)];rw [if_pos (by omega)]
 have HY:=aW hY;have HJ:=aW hJ;clear hY hJ;refine callsIn_of_wp Tryz.func239 rfl trivial ?_ rfl;simp only [Tryz.ntmps239,List.size_toArray,List.length_cons,List.length_nil,Nat.reduceAdd,Nat.reduceSub,Array.replicate_succ,Array.replicate_zero,List.push_toArray,List.append_toArray,List.nil_append,List.cons_append];obtain ⟨c1,f1,l1⟩:=hn.rules;have HB:=aW hbytes;clear hbytes;gi_wp2
 gi_loopw [4] (λ k wr => ∃ j:Nat,j<=2/\k=Zi Zq (1-(j:Int))/\J ((ah p).take j) wr/\Blk wr Bn 3 #[Zi Zq (2:Nat)]/\Blk wr Bp 248 #[Zi Zq p])
  (λ k wr=>(intOf k+1).toNat)
 case atStart=>exact ⟨0,by omega,by simp,h0,hn,hpB⟩
 case round =>
  obtain ⟨j,hj,rfl,hJs,bn,bp⟩:=hrel;clear hn hpB h0 c1 f1 l1;obtain ⟨c1,f1,l1⟩:=bn.rules;obtain ⟨c2,f2,l2⟩:=bp.rules;have hw6:IntKind.i64.wrap 6=6:=by decide
  have hw1:IntKind.i64.wrap 1=1:=by decide
  rcases (by omega:j=0∨j=1∨j=2) with rfl | rfl | rfl
  ·have hv:bits BinOp.or IntKind.i64 ((p:Int) / 64) 192 % 256=((UInt8.ofNat (192+p / 64)).toNat:Int):=by
    have h:=gg (p / 64) 192 6 3 rfl (by omega) (by omega);rw [Int.natCast_ediv] at h;exact h
   have hpre:(ah p).take 0++[UInt8.ofNat (192+p / 64)]=(ah p).take 1:=by rw [HB.out];rfl
   obtain ⟨x,hx⟩:∃ x,UInt8.ofNat (192+p / 64)=x:=⟨_,rfl⟩
   rw [hx] at hv hpre;clear hx;have HP:=aW hpre;clear hpre;gi_wp2;refine wpIn_wide.2 ?_;go_region_held3 (λ w'=>w'.cell? ⟨Bn,0,none⟩=some (Zi Zq (2:Nat))/\w'.cell? ⟨Bp,0,none⟩=some (Zi Zq p)) (go_keep) ((go_at_call 240;refine (gu _).mono ?_;rintro e w' ⟨rfl,hb⟩;obtain ⟨c1',f1',l1'⟩:=(bn.drew.keep hb).rules;obtain ⟨c2',f2',l2'⟩:=(bp.drew.keep hb).rules));have hbel:Below wr.heap.size wr w':=(Below.refl wr.heap.size wr).drew.trans hb;obtain ⟨fn,tmps,assign,body,hy,hR⟩:=HY.out _ x w' (HJ.out _ _ _ hbel hJs) (by rw [HP.out];exact List.take_prefix _ _);have bn2:=bn.keep hbel;have bp2:=bp.keep hbel;clear hbel hb;gi_wp2;refine hR.mono ?_;rintro e W3 (⟨rfl,hJ3,hk3⟩ | ⟨rfl,hJx3,hk3⟩)
   ·have bn3:=hk3.blk bn2 (.inl rfl);have bp3:=hk3.blk bp2 (.inr rfl);rw [HP.out] at hJ3;gi_wp2;go_roundw
    case rel=>exact ⟨1,by omega,by simp,hJ3,bn3,bp3⟩
    case measure=>simp [intOf]
   ·gi_wp2;refine bodyPost_ret (results_none rfl _ _ _) rfl ?_;exact ⟨⟨_,rfl⟩,.inr ⟨_,by rw [HP.out];exact List.take_prefix _ _,hJx3⟩⟩
  ·have hv:bits BinOp.or IntKind.i64 (bits BinOp.and IntKind.i64 (p:Int) 63) 128 % 256=((UInt8.ofNat (128+p % 64)).toNat:Int):=by
    have h:=gc (p) (by omega);exact h
   have hpre:(ah p).take 1++[UInt8.ofNat (128+p % 64)]=(ah p).take 2:=by rw [HB.out];rfl
   obtain ⟨x,hx⟩:∃ x,UInt8.ofNat (128+p % 64)=x:=⟨_,rfl⟩
   rw [hx] at hv hpre;clear hx;have HP:=aW hpre;clear hpre;obtain ⟨fn,tmps,assign,body,hy,hR⟩:=HY.out _ x wr hJs (by rw [HP.out];exact List.take_prefix _ _);have bn2:=bn;have bp2:=bp;gi_wp2;refine hR.mono ?_;rintro e W3 (⟨rfl,hJ3,hk3⟩ | ⟨rfl,hJx3,hk3⟩)
   ·have bn3:=hk3.blk bn2 (.inl rfl);have bp3:=hk3.blk bp2 (.inr rfl);rw [HP.out] at hJ3;gi_wp2;go_roundw
    case rel=>exact ⟨2,by omega,by simp,hJ3,bn3,bp3⟩
    case measure=>simp [intOf]
   ·gi_wp2;refine bodyPost_ret (results_none rfl _ _ _) rfl ?_;exact ⟨⟨_,rfl⟩,.inr ⟨_,by rw [HP.out];exact List.take_prefix _ _,hJx3⟩⟩
  ·gi_wp2;go_end0;exact ⟨⟨_,rfl⟩,.inl ⟨_,rfl,by have:=hJs;rw [HB.out] at this ⊢;exact this⟩⟩
theorem ug (Bn Bp:Nat) (p:Nat) (l:Nat) (hp:2048<=p/\p<65536) (J Jx:List UInt8->World->Prop) (W:World)
  (hJ:∀ s A B,Below A.heap.size A B->J s A->J s B)
  (hY:∀ pre x W1,J pre W1->pre++[x] <+: ah p->YieldAt Fence.wide 1 Tryz.prog l #[Zi .u8 x.toNat] W1 λ e W' =>
   (e=.returned (.bool true)/\J (pre++[x]) W'/\KpB Bn Bp W1 W')∨(e=.returned (.bool false)/\Jx (pre++[x]) W'/\KpB Bn Bp W1 W'))
  (hn:Blk W Bn 3 #[Zi Zq (3:Nat)]) (hpB:Blk W Bp 248 #[Zi Zq p]) (h0:J [] W) :
  CallsIn Fence.wide 2 Tryz.prog 239 #[.func (.yield l) #[] #[],Zp (some ⟨Bn,0,none⟩),Zp (some ⟨Bp,0,none⟩)] W λ e W'=>(∃ v,e=.returned v) /\
   ((∃ xs,xs=ah p/\J xs W')∨(∃ pre,pre <+: ah p/\Jx pre W')):=by
 have hbytes:ah p=[UInt8.ofNat (224+p / 4096),UInt8.ofNat (128+p / 64 % 64),UInt8.ofNat (128+p % 64)]:=by
  unfold ah;rw [if_neg (by omega)];rw [if_neg (by omega)];rw [if_pos (by omega)]
 have HY:=aW hY;have HJ:=aW hJ;clear hY hJ;refine callsIn_of_wp Tryz.func239 rfl trivial ?_ rfl;simp only [Tryz.ntmps239,List.size_toArray,List.length_cons,List.length_nil,Nat.reduceAdd,Nat.reduceSub,Array.replicate_succ,Array.replicate_zero,List.push_toArray,List.append_toArray,List.nil_append,List.cons_append];obtain ⟨c1,f1,l1⟩:=hn.rules;have HB:=aW hbytes;clear hbytes;gi_wp2
 gi_loopw [4] (λ k wr => ∃ j:Nat,j<=3/\k=Zi Zq (2-(j:Int))/\J ((ah p).take j) wr/\Blk wr Bn 3 #[Zi Zq (3:Nat)]/\Blk wr Bp 248 #[Zi Zq p])
  (λ k wr=>(intOf k+1).toNat)
 case atStart=>exact ⟨0,by omega,by simp,h0,hn,hpB⟩
 case round =>
  obtain ⟨j,hj,rfl,hJs,bn,bp⟩:=hrel;clear hn hpB h0 c1 f1 l1;obtain ⟨c1,f1,l1⟩:=bn.rules;obtain ⟨c2,f2,l2⟩:=bp.rules;have hw6:IntKind.i64.wrap 12=12:=by decide
  have hw1:IntKind.i64.wrap 2=2:=by decide
  rcases (by omega:j=0∨j=1∨j=2∨j=3) with rfl | rfl | rfl | rfl
  ·have hv:bits BinOp.or IntKind.i64 ((p:Int) / 4096) 224 % 256=((UInt8.ofNat (224+p / 4096)).toNat:Int):=by
    have h:=gg (p / 4096) 224 5 7 rfl (by omega) (by omega);rw [Int.natCast_ediv] at h;exact h
   have hpre:(ah p).take 0++[UInt8.ofNat (224+p / 4096)]=(ah p).take 1:=by rw [HB.out];rfl
   obtain ⟨x,hx⟩:∃ x,UInt8.ofNat (224+p / 4096)=x:=⟨_,rfl⟩
   rw [hx] at hv hpre;clear hx;have HP:=aW hpre;clear hpre;gi_wp2;refine wpIn_wide.2 ?_;go_region_held3 (λ w'=>w'.cell? ⟨Bn,0,none⟩=some (Zi Zq (3:Nat))/\w'.cell? ⟨Bp,0,none⟩=some (Zi Zq p)) (go_keep) ((go_at_call 240;refine (gu _).mono ?_;rintro e w' ⟨rfl,hb⟩;obtain ⟨c1',f1',l1'⟩:=(bn.drew.keep hb).rules;obtain ⟨c2',f2',l2'⟩:=(bp.drew.keep hb).rules));have hbel:Below wr.heap.size wr w':=(Below.refl wr.heap.size wr).drew.trans hb;obtain ⟨fn,tmps,assign,body,hy,hR⟩:=HY.out _ x w' (HJ.out _ _ _ hbel hJs) (by rw [HP.out];exact List.take_prefix _ _);have bn2:=bn.keep hbel;have bp2:=bp.keep hbel;clear hbel hb;gi_wp2;refine hR.mono ?_;rintro e W3 (⟨rfl,hJ3,hk3⟩ | ⟨rfl,hJx3,hk3⟩)
   ·have bn3:=hk3.blk bn2 (.inl rfl);have bp3:=hk3.blk bp2 (.inr rfl);rw [HP.out] at hJ3;gi_wp2;go_roundw
    case rel=>exact ⟨1,by omega,by simp,hJ3,bn3,bp3⟩
    case measure=>simp [intOf]
   ·gi_wp2;refine bodyPost_ret (results_none rfl _ _ _) rfl ?_;exact ⟨⟨_,rfl⟩,.inr ⟨_,by rw [HP.out];exact List.take_prefix _ _,hJx3⟩⟩
  ·have hv:bits BinOp.or IntKind.i64 (bits BinOp.and IntKind.i64 ((p:Int) / 64) 63) 128 % 256=((UInt8.ofNat (128+p / 64 % 64)).toNat:Int):=by
    have h:=gc (p / 64) (by omega);rw [Int.natCast_ediv] at h;exact h
   have hpre:(ah p).take 1++[UInt8.ofNat (128+p / 64 % 64)]=(ah p).take 2:=by rw [HB.out];rfl
   obtain ⟨x,hx⟩:∃ x,UInt8.ofNat (128+p / 64 % 64)=x:=⟨_,rfl⟩
   rw [hx] at hv hpre;clear hx;have HP:=aW hpre;clear hpre;obtain ⟨fn,tmps,assign,body,hy,hR⟩:=HY.out _ x wr hJs (by rw [HP.out];exact List.take_prefix _ _);have bn2:=bn;have bp2:=bp;gi_wp2;refine hR.mono ?_;rintro e W3 (⟨rfl,hJ3,hk3⟩ | ⟨rfl,hJx3,hk3⟩)
   ·have bn3:=hk3.blk bn2 (.inl rfl);have bp3:=hk3.blk bp2 (.inr rfl);rw [HP.out] at hJ3;gi_wp2;go_roundw
    case rel=>exact ⟨2,by omega,by simp,hJ3,bn3,bp3⟩
    case measure=>simp [intOf]
   ·gi_wp2;refine bodyPost_ret (results_none rfl _ _ _) rfl ?_;exact ⟨⟨_,rfl⟩,.inr ⟨_,by rw [HP.out];exact List.take_prefix _ _,hJx3⟩⟩
  ·have hv:bits BinOp.or IntKind.i64 (bits BinOp.and IntKind.i64 (p:Int) 63) 128 % 256=((UInt8.ofNat (128+p % 64)).toNat:Int):=by
    have h:=gc (p) (by omega);exact h
   have hpre:(ah p).take 2++[UInt8.ofNat (128+p % 64)]=(ah p).take 3:=by rw [HB.out];rfl
   obtain ⟨x,hx⟩:∃ x,UInt8.ofNat (128+p % 64)=x:=⟨_,rfl⟩
   rw [hx] at hv hpre;clear hx;have HP:=aW hpre;clear hpre;obtain ⟨fn,tmps,assign,body,hy,hR⟩:=HY.out _ x wr hJs (by rw [HP.out];exact List.take_prefix _ _);have bn2:=bn;have bp2:=bp;gi_wp2;refine hR.mono ?_;rintro e W3 (⟨rfl,hJ3,hk3⟩ | ⟨rfl,hJx3,hk3⟩)
   ·have bn3:=hk3.blk bn2 (.inl rfl);have bp3:=hk3.blk bp2 (.inr rfl);rw [HP.out] at hJ3;gi_wp2;go_roundw
    case rel=>exact ⟨3,by omega,by simp,hJ3,bn3,bp3⟩
    case measure=>simp [intOf]
   ·gi_wp2;refine bodyPost_ret (results_none rfl _ _ _) rfl ?_;exact ⟨⟨_,rfl⟩,.inr ⟨_,by rw [HP.out];exact List.take_prefix _ _,hJx3⟩⟩
  ·gi_wp2;go_end0;exact ⟨⟨_,rfl⟩,.inl ⟨_,rfl,by have:=hJs;rw [HB.out] at this ⊢;exact this⟩⟩
theorem uh (Bn Bp:Nat) (p:Nat) (l:Nat) (hp:65536<=p/\p<1114112) (J Jx:List UInt8->World->Prop) (W:World)
  (hJ:∀ s A B,Below A.heap.size A B->J s A->J s B)
  (hY:∀ pre x W1,J pre W1->pre++[x] <+: ah p->YieldAt Fence.wide 1 Tryz.prog l #[Zi .u8 x.toNat] W1 λ e W' =>
   (e=.returned (.bool true)/\J (pre++[x]) W'/\KpB Bn Bp W1 W')∨(e=.returned (.bool false)/\Jx (pre++[x]) W'/\KpB Bn Bp W1 W'))
  (hn:Blk W Bn 3 #[Zi Zq (4:Nat)]) (hpB:Blk W Bp 248 #[Zi Zq p]) (h0:J [] W) :
  CallsIn Fence.wide 2 Tryz.prog 239 #[.func (.yield l) #[] #[],Zp (some ⟨Bn,0,none⟩),Zp (some ⟨Bp,0,none⟩)] W λ e W'=>(∃ v,e=.returned v) /\
   ((∃ xs,xs=ah p/\J xs W')∨(∃ pre,pre <+: ah p/\Jx pre W')):=by
 have hbytes:ah p=[UInt8.ofNat (240+p / 262144),UInt8.ofNat (128+p / 4096 % 64),UInt8.ofNat (128+p / 64 % 64),UInt8.ofNat (128+p % 64)]:=by
  unfold ah;rw [if_neg (by omega)];rw [if_neg (by omega)];rw [if_neg (by omega)];skip
 have HY:=aW hY;have HJ:=aW hJ;clear hY hJ;refine callsIn_of_wp Tryz.func239 rfl trivial ?_ rfl;simp only [Tryz.ntmps239,List.size_toArray,List.length_cons,List.length_nil,Nat.reduceAdd,Nat.reduceSub,Array.replicate_succ,Array.replicate_zero,List.push_toArray,List.append_toArray,List.nil_append,List.cons_append];obtain ⟨c1,f1,l1⟩:=hn.rules;have HB:=aW hbytes;clear hbytes;gi_wp2
 gi_loopw [4] (λ k wr => ∃ j:Nat,j<=4/\k=Zi Zq (3-(j:Int))/\J ((ah p).take j) wr/\Blk wr Bn 3 #[Zi Zq (4:Nat)]/\Blk wr Bp 248 #[Zi Zq p])
  (λ k wr=>(intOf k+1).toNat)
 case atStart=>exact ⟨0,by omega,by simp,h0,hn,hpB⟩
 case round =>
  obtain ⟨j,hj,rfl,hJs,bn,bp⟩:=hrel;clear hn hpB h0 c1 f1 l1;obtain ⟨c1,f1,l1⟩:=bn.rules;obtain ⟨c2,f2,l2⟩:=bp.rules;have hw6:IntKind.i64.wrap 18=18:=by decide
  have hw1:IntKind.i64.wrap 3=3:=by decide
  rcases (by omega:j=0∨j=1∨j=2∨j=3∨j=4) with rfl | rfl | rfl | rfl | rfl
  ·have hv:bits BinOp.or IntKind.i64 ((p:Int) / 262144) 240 % 256=((UInt8.ofNat (240+p / 262144)).toNat:Int):=by
    have h:=gg (p / 262144) 240 4 15 rfl (by omega) (by omega);rw [Int.natCast_ediv] at h;exact h
   have hpre:(ah p).take 0++[UInt8.ofNat (240+p / 262144)]=(ah p).take 1:=by rw [HB.out];rfl
   obtain ⟨x,hx⟩:∃ x,UInt8.ofNat (240+p / 262144)=x:=⟨_,rfl⟩
   rw [hx] at hv hpre;clear hx;have HP:=aW hpre;clear hpre;gi_wp2;refine wpIn_wide.2 ?_;go_region_held3 (λ w'=>w'.cell? ⟨Bn,0,none⟩=some (Zi Zq (4:Nat))/\w'.cell? ⟨Bp,0,none⟩=some (Zi Zq p)) (go_keep) ((go_at_call 240;refine (gu _).mono ?_;rintro e w' ⟨rfl,hb⟩;obtain ⟨c1',f1',l1'⟩:=(bn.drew.keep hb).rules;obtain ⟨c2',f2',l2'⟩:=(bp.drew.keep hb).rules));have hbel:Below wr.heap.size wr w':=(Below.refl wr.heap.size wr).drew.trans hb;obtain ⟨fn,tmps,assign,body,hy,hR⟩:=HY.out _ x w' (HJ.out _ _ _ hbel hJs) (by rw [HP.out];exact List.take_prefix _ _);have bn2:=bn.keep hbel;have bp2:=bp.keep hbel;clear hbel hb;gi_wp2;refine hR.mono ?_;rintro e W3 (⟨rfl,hJ3,hk3⟩ | ⟨rfl,hJx3,hk3⟩)
   ·have bn3:=hk3.blk bn2 (.inl rfl);have bp3:=hk3.blk bp2 (.inr rfl);rw [HP.out] at hJ3;gi_wp2;go_roundw
    case rel=>exact ⟨1,by omega,by simp,hJ3,bn3,bp3⟩
    case measure=>simp [intOf]
   ·gi_wp2;refine bodyPost_ret (results_none rfl _ _ _) rfl ?_;exact ⟨⟨_,rfl⟩,.inr ⟨_,by rw [HP.out];exact List.take_prefix _ _,hJx3⟩⟩
  ·have hv:bits BinOp.or IntKind.i64 (bits BinOp.and IntKind.i64 ((p:Int) / 4096) 63) 128 % 256=((UInt8.ofNat (128+p / 4096 % 64)).toNat:Int):=by
    have h:=gc (p / 4096) (by omega);rw [Int.natCast_ediv] at h;exact h
   have hpre:(ah p).take 1++[UInt8.ofNat (128+p / 4096 % 64)]=(ah p).take 2:=by rw [HB.out];rfl
   obtain ⟨x,hx⟩:∃ x,UInt8.ofNat (128+p / 4096 % 64)=x:=⟨_,rfl⟩
   rw [hx] at hv hpre;clear hx;have HP:=aW hpre;clear hpre;obtain ⟨fn,tmps,assign,body,hy,hR⟩:=HY.out _ x wr hJs (by rw [HP.out];exact List.take_prefix _ _);have bn2:=bn;have bp2:=bp;gi_wp2;refine hR.mono ?_;rintro e W3 (⟨rfl,hJ3,hk3⟩ | ⟨rfl,hJx3,hk3⟩)
   ·have bn3:=hk3.blk bn2 (.inl rfl);have bp3:=hk3.blk bp2 (.inr rfl);rw [HP.out] at hJ3;gi_wp2;go_roundw
    case rel=>exact ⟨2,by omega,by simp,hJ3,bn3,bp3⟩
    case measure=>simp [intOf]
   ·gi_wp2;refine bodyPost_ret (results_none rfl _ _ _) rfl ?_;exact ⟨⟨_,rfl⟩,.inr ⟨_,by rw [HP.out];exact List.take_prefix _ _,hJx3⟩⟩
  ·have hv:bits BinOp.or IntKind.i64 (bits BinOp.and IntKind.i64 ((p:Int) / 64) 63) 128 % 256=((UInt8.ofNat (128+p / 64 % 64)).toNat:Int):=by
    have h:=gc (p / 64) (by omega);rw [Int.natCast_ediv] at h;exact h
   have hpre:(ah p).take 2++[UInt8.ofNat (128+p / 64 % 64)]=(ah p).take 3:=by rw [HB.out];rfl
   obtain ⟨x,hx⟩:∃ x,UInt8.ofNat (128+p / 64 % 64)=x:=⟨_,rfl⟩
   rw [hx] at hv hpre;clear hx;have HP:=aW hpre;clear hpre;obtain ⟨fn,tmps,assign,body,hy,hR⟩:=HY.out _ x wr hJs (by rw [HP.out];exact List.take_prefix _ _);have bn2:=bn;have bp2:=bp;gi_wp2;refine hR.mono ?_;rintro e W3 (⟨rfl,hJ3,hk3⟩ | ⟨rfl,hJx3,hk3⟩)
   ·have bn3:=hk3.blk bn2 (.inl rfl);have bp3:=hk3.blk bp2 (.inr rfl);rw [HP.out] at hJ3;gi_wp2;go_roundw
    case rel=>exact ⟨3,by omega,by simp,hJ3,bn3,bp3⟩
    case measure=>simp [intOf]
   ·gi_wp2;refine bodyPost_ret (results_none rfl _ _ _) rfl ?_;exact ⟨⟨_,rfl⟩,.inr ⟨_,by rw [HP.out];exact List.take_prefix _ _,hJx3⟩⟩
  ·have hv:bits BinOp.or IntKind.i64 (bits BinOp.and IntKind.i64 (p:Int) 63) 128 % 256=((UInt8.ofNat (128+p % 64)).toNat:Int):=by
    have h:=gc (p) (by omega);exact h
   have hpre:(ah p).take 3++[UInt8.ofNat (128+p % 64)]=(ah p).take 4:=by rw [HB.out];rfl
   obtain ⟨x,hx⟩:∃ x,UInt8.ofNat (128+p % 64)=x:=⟨_,rfl⟩
   rw [hx] at hv hpre;clear hx;have HP:=aW hpre;clear hpre;obtain ⟨fn,tmps,assign,body,hy,hR⟩:=HY.out _ x wr hJs (by rw [HP.out];exact List.take_prefix _ _);have bn2:=bn;have bp2:=bp;gi_wp2;refine hR.mono ?_;rintro e W3 (⟨rfl,hJ3,hk3⟩ | ⟨rfl,hJx3,hk3⟩)
   ·have bn3:=hk3.blk bn2 (.inl rfl);have bp3:=hk3.blk bp2 (.inr rfl);rw [HP.out] at hJ3;gi_wp2;go_roundw
    case rel=>exact ⟨4,by omega,by simp,hJ3,bn3,bp3⟩
    case measure=>simp [intOf]
   ·gi_wp2;refine bodyPost_ret (results_none rfl _ _ _) rfl ?_;exact ⟨⟨_,rfl⟩,.inr ⟨_,by rw [HP.out];exact List.take_prefix _ _,hJx3⟩⟩
  ·gi_wp2;go_end0;exact ⟨⟨_,rfl⟩,.inl ⟨_,rfl,by have:=hJs;rw [HB.out] at this ⊢;exact this⟩⟩
theorem pA {p:Nat} (h:bJ p≠0):(bJ p=1/\0<=p/\p<128)∨(bJ p=2/\128<=p/\p<2048)∨(bJ p=3/\2048<=p/\p<65536)∨(bJ p=4/\65536<=p/\p<1114112):=by
 have:=(bN p (bJ p)).1 rfl;omega
theorem sW (Bn Bp p:Nat) (w:World) (hp:bJ p≠0) (hn:Blk w Bn 3 #[Zi Zq (aZ p)]) (hpB:Blk w Bp 248 #[Zi Zq p]) :
  ng Fence.wide 2 Tryz.prog 239 #[Zp (some ⟨Bn,0,none⟩),Zp (some ⟨Bp,0,none⟩)] (λ x:UInt8=>#[Value.int .u8 x.toNat])
   (λ A B=>Below A.heap.size A B) (KpB Bn Bp) (λ pre x=>pre++[x] <+: ah p) (λ xs _=>xs=ah p) (λ pre _=>pre <+: ah p) w:=by
 intro l J Jx W hW hJ _ hY h0;have hn':=hn.keep hW;have hp':=hpB.keep hW;rcases pA hp with ⟨e,hb⟩ | ⟨e,hb⟩ | ⟨e,hb⟩ | ⟨e,hb⟩
 ·rw [(br p 1).2 e] at hn';exact ue Bn Bp p l hb J Jx W hJ hY hn' hp' h0
 ·rw [(br p 2).2 e] at hn';exact uf Bn Bp p l hb J Jx W hJ hY hn' hp' h0
 ·rw [(br p 3).2 e] at hn';exact ug Bn Bp p l hb J Jx W hJ hY hn' hp' h0
 ·rw [(br p 4).2 e] at hn';exact uh Bn Bp p l hb J Jx W hJ hY hn' hp' h0
theorem lP:(Tryz.prog.info? 5).map (λ i=>(i.zero,i.size,i.bytes))=some (some (Zi .u8 0),1,1):=by kernel_rfl
def zg (l:List UInt8) (w:World) (e:Ending) (w':World):Prop:=∃ v,e=.returned v/\BS w' v l/\Below w.heap.size w w'
theorem wT (A:Option Addr) (cap:Nat) (l:List UInt8) (p:Nat) (w:World) (hr:Rd w A (aq l)) (hlen:l.length<=4194304) (hp:bJ p≠0) :
  Calls Tryz.prog 211 #[Zs A l.length cap,Zi Zq p] w (zg (l++ah p) w):=by
 obtain ⟨i0,hi,hz0,hz1,hz2⟩:=info_parts lP;refine (callsIn_wide (n:=3)).1 ?_;refine callsIn_of_wp_marks Tryz.func211 rfl trivial ?_ rfl;simp only [Tryz.ntmps211,List.size_toArray,List.length_cons,List.length_nil,Nat.reduceAdd,Nat.reduceSub,Array.replicate_succ,Array.replicate_zero,List.push_toArray,List.append_toArray,List.nil_append,List.cons_append];refine wpIn_wide.2 ?_;have hmk:∀ W:World,(Instr.makeSlice 67 (Zi Zq (l.length:Int)) (Zi Zq ((l.length:Int)+4))).run Tryz.prog W=.ok (Zs (some ⟨W.heap.size,0,none⟩) l.length (l.length+4)) (W.alloc (.cells (madeCells #[Zi .u8 0] (l.length+4)) 5)):=λ W=>by
  have h:=run_make (P:=Tryz.prog) W 67 5 i0 (Zi .u8 0) (by simp [go_sem]) hi hz0 .i64 .i64 l.length (l.length+4) (by omega) (by omega) (by rw [hz2];omega) (by omega);rw [hz1] at h;have e2:((l.length:Int)+4).toNat=l.length+4:=by omega
  rw [e2,Int.toNat_natCast,Nat.mul_one] at h;exact h
 have hsz1:(Tryz.prog.info? 5).map (·.size)=some 1:=by kernel_rfl
 have hrB:=(hr.alloc (.cells (madeCells #[Zi .u8 0] (l.length+4)) 5)).alloc (.cells #[Zs (some ⟨w.heap.size,0,none⟩) l.length (l.length+4)] 67);have hR:=aW hrB;clear hrB;have hcur:Blk ((w.alloc (.cells (madeCells #[Zi .u8 0] (l.length+4)) 5)).alloc (.cells #[Zs (some ⟨w.heap.size,0,none⟩) l.length (l.length+4)] 67)) w.heap.size 5 (madeCells #[Zi .u8 0] (l.length+4)).toList.toArray:=by
  have:=(Blk.new w 5 (madeCells #[Zi .u8 0] (l.length+4))).alloc (.cells #[Zs (some ⟨w.heap.size,0,none⟩) l.length (l.length+4)] 67);simpa using this
 have hmc:(madeCells #[Zi .u8 0] (l.length+4)).toList.length=l.length+4:=by simp [size_madeCells]
 have HC:=aW hcur;clear hcur;go_wp2_with (refine mR (o:=⟨some 15,_,_,_,_,_⟩) rfl (.tmp 13) (.tmp 14) 67 67 rfl 5 Tryz.underlying67 hsz1 w.heap.size l.length (l.length+4) A l.length cap rfl rfl (madeCells #[Zi .u8 0] (l.length+4)).toList 5 HC.out (aq l) hR.out (av l) (by rw [av];exact Nat.le_refl _) (by rw [av,hmc];omega) (j2 l) ?c1);intro w2 hrow hgr;have hbox:Boxed w2 (w.heap.size+1) 67 (Zs (some ⟨w.heap.size,0,none⟩) l.length (l.length+4)):=by
  have:=(Boxed.new (w.alloc (.cells (madeCells #[Zi .u8 0] (l.length+4)) 5)) 67 (Zs (some ⟨w.heap.size,0,none⟩) l.length (l.length+4))).kept hgr (by simp);simpa using this
 have hown:w2.ownsRow w.heap.size 5 1 (Zs (some ⟨w.heap.size,0,none⟩) l.length (l.length+4)) l.length (aq l) :=
  ⟨by simp [av],.inr ⟨w.heap.size,_,_,rfl,Nat.le_refl _,hrow,by omega,by unfold maxLen;omega,by simp [av,hmc],by simp [av]⟩⟩
 have hbel:Below w.heap.size w w2:=(((Below.refl _ w).alloc (Nat.le_refl _) _).alloc (by simp) _).grown hgr (by simp;omega) (λ k e=>by cases e;exact Nat.le_refl _);have hs2:w.heap.size+2<=w2.heap.size:=by have:=hgr.size;simp at this;omega
 clear hR HC hrow hgr hmk hmc;have hcell:=hbox.cell;go_wp2_with (go_at_call 224;refine (sV _ _).mono ?_;rintro e w' ⟨rfl,rfl⟩);have hbn:Blk ((w2.alloc (.cells #[Zi Zq p] 248)).alloc (.cells #[Zi Zq (aZ p)] 3)) (w2.heap.size+1) 3 #[Zi Zq (aZ p)]:=by
  have:=Blk.new (w2.alloc (.cells #[Zi Zq p] 248)) 3 #[Zi Zq (aZ p)];rwa [World.size_alloc] at this
 have hbp:Blk ((w2.alloc (.cells #[Zi Zq p] 248)).alloc (.cells #[Zi Zq (aZ p)] 3)) w2.heap.size 248 #[Zi Zq p]:=(Blk.new w2 248 _).alloc _;obtain ⟨Wr,hWr⟩:∃ Wr,(w2.alloc (.cells #[Zi Zq p] 248)).alloc (.cells #[Zi Zq (aZ p)] 3)=Wr:=⟨_,rfl⟩
 have hboxr:Boxed Wr (w.heap.size+1) 67 (Zs (some ⟨w.heap.size,0,none⟩) l.length (l.length+4)):=by rw [← hWr];exact (hbox.alloc _).alloc _
 have hownr:Wr.ownsRow w.heap.size 5 1 (Zs (some ⟨w.heap.size,0,none⟩) l.length (l.length+4)) l.length (aq l):=by rw [← hWr];exact (hown.alloc _).alloc _
 have hbelr:Below w.heap.size w Wr:=by rw [← hWr];exact (hbel.alloc (by omega) _).alloc (by simp;omega) _
 have hsr:Wr.heap.size=w2.heap.size+2:=by rw [← hWr];simp
 rw [hWr] at hbn hbp ⊢;obtain ⟨N2,hN2⟩:∃ N2,w2.heap.size=N2:=⟨_,rfl⟩
 rw [hN2] at hbn hbp hsr hs2 ⊢;clear hWr hbox hown hbel hcell hN2 w2;have hcpl:=eF p;refine (wpIn_wide (n:=3)).1 ?_;refine sQ rfl (by omega) (gf:=239) (lb:=#[Zp (some ⟨N2+1,0,none⟩),Zp (some ⟨N2,0,none⟩)]) rfl trivial (enters_of Tryz.func239 (by kernel_rfl) rfl)
  (sW (N2+1) N2 p Wr hp hbn hbp) (Below.refl _ _) (λ _=>rfl)
  (λ A B k o hs hk ho _=>(hs.block k (Array.getElem?_eq_some_iff.1 ho).1).trans ho)
  (λ h k=>h.trans k) (λ W k o o' hk _ _=>aO.putObj (N:=Wr.heap.size) (by intro j hj;omega) W k o' hk)
  (λ _ _ _ _ _ _ _ _ h=>h) (λ _ _ _ _ _ _ _ _ h=>h)
  (λ pre W=>(∃ v,Boxed W (w.heap.size+1) 67 v/\W.ownsRow w.heap.size 5 1 v (l.length+pre.length) (aq (l++pre)))/\Below w.heap.size w W/\Blk W (N2+1) 3 #[Zi Zq (aZ p)]/\Blk W N2 248 #[Zi Zq p])
  (λ _ _ _=>False) ?hIS (λ _ _ _ _ _ h=>h) ?hIp (λ _ _ _ _ _ _ _ _ _ h=>h) ?h0
  (λ x=>{ tmps:=#[Zs A l.length cap,Zi Zq p,undef,undef,Zs none 0 0,Zp (some ⟨w.heap.size+1,0,none⟩),Zi .u8 x.toNat,Zs A l.length cap,Zi Zq l.length,Zs A l.length cap,Zi Zq l.length,Zi Zq (l.length+4),
   Zs (some ⟨w.heap.size,0,none⟩) l.length (l.length+4),Zs (some ⟨w.heap.size,0,none⟩) l.length (l.length+4),Zs A l.length cap,Zi Zq (aq l).length,Zi Zq p,
   .func (.func 239) #[] #[Zp (some ⟨N2+1,0,none⟩),Zp (some ⟨N2,0,none⟩)],Zi .u8 x.toNat,undef,undef,undef,undef,undef],defers:=[] }) ?assign ?body ?done ?stop
 case hIS =>
  rintro s A' B' hs ⟨⟨v,hv,ho⟩,hb,h1,h2⟩;have hg:A'.grownBy B' none:=⟨hs.os,hs.tape,hs.output,hs.size,λ k hk _=>hs.block k hk⟩
  exact ⟨⟨v,hv.kept hg (by simp),ho.kept hg (by cases v.ownBlock<;>simp)⟩,hb.trans (hs.mono hb.size),h1.keep hs,h2.keep hs⟩
 case hIp =>
  rintro s W k o o' hk ho hc ⟨⟨v,hv,hr⟩,hb,h1,h2⟩;exact ⟨⟨v,Blk.putObj o' hv ho hc,ownsRow_putObj hr o' ho hc⟩,bj hb k o' (by have:=hbelr.size;omega),h1.putObj o' ho hc,h2.putObj o' ho hc⟩
 case h0 =>
  intro o o';exact ⟨⟨_,(hboxr.alloc o).alloc o',by simpa using (hownr.alloc o).alloc o'⟩,(hbelr.alloc hbelr.size o).alloc (by have:=hbelr.size;simp;omega) o',(hbn.alloc o).alloc o',(hbp.alloc o).alloc o'⟩
 case assign =>
  intro k x W K hK;gi_wp2;exact hK
 case body =>
  rintro k pre x W ⟨⟨v,hv,hrow⟩,hB,h1,h2⟩ hadm;have hpl:pre.length+1<=4:=by have:=hadm.length_le;simp at this;omega
  have hc:=hv.cell;have hlt:=hv.lt;gi_wp2_with (gi_at_builtin;refine wpListIn_append_own _ rfl _ _ 67 rfl w.heap.size 5 i0 (Zi .u8 0) 1 1 Tryz.underlying67 hi hz0 hz1 hz2 rfl (by decide) _ _ _ rfl (hrow.alloc _) ⟨W.heap.size,0,none⟩ 1 1 [Zi .u8 x.toNat] rfl rfl (cell_one_new _ _ _) (by simp [Value.oneCell']) (by unfold maxLen;omega) (by omega) (by have:=hB.size;simp;omega) ?_;intro v' w1 hown' hgrow _;obtain ⟨g',cap',rfl⟩:=ownsRow_succ hown';obtain ⟨hv1,hv2,hr2,hk2,hb2⟩:=hv.appended (by decide) hrow hB.size (by omega) hown' hgrow;have hc1:=hv1.cell;have hf1:=hv1.frozen);have h1':Blk (w1.setCell ⟨w.heap.size+1,0,none⟩ (Zs (some ⟨g',0,none⟩) (l.length+pre.length+1) cap')) (N2+1) 3 #[Zi Zq (aZ p)] :=
   ((h1.alloc _).grown hgrow (dq hrow h1 (by decide))).far (by simp;omega) _
  have h2':Blk (w1.setCell ⟨w.heap.size+1,0,none⟩ (Zs (some ⟨g',0,none⟩) (l.length+pre.length+1) cap')) N2 248 #[Zi Zq p] :=
   ((h2.alloc _).grown hgrow (dq hrow h2 (by decide))).far (by simp;omega) _
  refine ⟨hk2.from _,⟨hb2.size,?_⟩,⟨_,hv2,?_⟩,hB.trans hb2,h1',h2'⟩
  ·rintro k (rfl | rfl)
   ·exact io h1 h1'
   ·exact io h2 h2'
  ·have e:aq (l++(pre++[x]))=aq (l++pre)++[Zi .u8 x.toNat]:=by rw [← List.append_assoc,gh];rfl
   rw [e,List.length_append,List.length_singleton,← Nat.add_assoc];exact hr2
 case done =>
  rintro D ys W hD rfl ⟨⟨v,hv,hrow⟩,hB,_,_⟩ hK;have hc:=hv.cell;go_wp2;refine ⟨by simp,.inl ⟨_,_,rfl,run_takeDeferred hK,?_⟩⟩;refine ⟨_,results_tmp rfl _ _ _,v,rfl,?_,bj hB D _ (by have:=hbelr.size;omega)⟩;have ho:=ownsRow_putObj hrow (.deferred none) hK rfl;rw [← List.length_append] at ho;exact BS.of_own ho
 case stop =>
  rintro D c pre W _ _ h _;exact h.elim
def oH (l:List UInt8) (p:Int) (w:World) (e:Ending) (w':World):Prop :=
 if aZ p=0 then e=.returned (.tuple #[Zs none 0 0,Zi Zq 110])/\w=w'
 else ∃ v,e=.returned (.tuple #[v,Zi Zq 0])/\BS w' v (l++ah p.toNat)/\Below w.heap.size w w'
theorem we (A:Option Addr) (cap:Nat) (l:List UInt8) (p:Int) (w:World) (hr:Rd w A (aq l)) (hlen:l.length<=4194304) :
  Calls Tryz.prog 195 #[Zs A l.length cap,Zi Zq p] w (oH l p w):=by
 by_cases h0:aZ p=0
 ·have HC:=aW h0;clear h0;go_enter Tryz.func195,Tryz.ntmps195;go_wp2_with (go_at_call 210;refine (eN _ _).mono ?_;rintro e w' ⟨rfl,rfl⟩;rw [HC.out]);go_ret2;rw [oH,if_pos HC.out];exact ⟨rfl,rfl⟩
 ·have hp:0<=p:=by
   unfold aZ at h0;by_cases h:p<0
   ·rw [if_pos h] at h0;simp at h0
   ·omega
  obtain ⟨n,rfl⟩:=Int.eq_ofNat_of_zero_le hp;have hl:bJ n≠0:=λ e=>h0 ((br n 0).2 e)
  have hb:(aZ (n:Int) == 0)=false:=by simp;exact h0
  have HC:=aW h0;have HL:=aW hl;clear h0 hl;go_enter Tryz.func195,Tryz.ntmps195;go_wp2_with (first | (go_at_call 210;refine (eN _ _).mono ?_;rintro e w' ⟨rfl,rfl⟩) | (go_at_call 211;refine (wT A cap l n _ hr hlen HL.out).mono ?_;rintro e w' ⟨v,rfl,hv,hbel⟩));go_ret2;rw [oH,if_neg HC.out];exact ⟨v,rfl,by rw [Int.toNat_natCast];exact hv,hbel⟩
end
end Go.Proofs.YtgmnmnnoahdjnaaGreatDoor
