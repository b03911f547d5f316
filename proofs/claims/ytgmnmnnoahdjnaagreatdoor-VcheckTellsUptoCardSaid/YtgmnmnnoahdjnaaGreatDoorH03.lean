import Derived.Test.YtgmnmnnoahdjnaaGreatDoorProg
import Derived.Test.YtgmnmnnoahdjnaaGreatDoorH02
import Derived.Test.YtgmnmnnoahdjnaaGreatDoorH01
open Go.Value renaming int → Zi, slice → Zs, string → Zt, pointer → Zp
open Go.IntKind renaming i64 → Zq
set_option maxRecDepth 100000
set_option maxHeartbeats 16000000
set_option linter.unusedVariables false
set_option linter.unusedSimpArgs false
namespace Go.Proofs.YtgmnmnnoahdjnaaGreatDoor
section
open Go.RowKit
attribute [local go_sem] ab ae af
structure GOK (w:World):Prop where
 lt:1<w.heap.size
 c0:w.cell? ⟨1,0,none⟩=some (Zi Zq 0)
 c1:w.cell? ⟨1,1,none⟩=some (Zi Zq 0)
theorem GOK.below {B:Nat} {w w':World} (h:GOK w) (hb:Below B w w') (hB:1<B):GOK w' :=
 ⟨Nat.lt_of_lt_of_le h.lt hb.size,(hb.cell (p:=⟨1,0,none⟩) hB).trans h.c0,(hb.cell (p:=⟨1,1,none⟩) hB).trans h.c1⟩
theorem GOK.keep {w w':World} (h:GOK w) (hb:Below w.heap.size w w'):GOK w':=h.below hb h.lt
theorem GOK.alloc {w:World} (h:GOK w) (o:Obj):GOK (w.alloc o):=h.keep ((Below.refl w.heap.size w).alloc (Nat.le_refl _) o)
theorem GOK.drewN {w:World} (h:GOK w) (n:Nat):GOK (w.drewN n):=⟨h.lt,h.c0,h.c1⟩
theorem dW (p:Int) (w:World) :
  Calls Tryz.prog 210 #[Zi Zq p] w λ e w'=>e=.returned (Zi Zq (aL p))/\w=w':=by
 go_enter Tryz.func210,Tryz.ntmps210;go_wp2
 all_goals go_ret
 all_goals exact ⟨gH (by rw [qT];repeat' split<;>omega),rfl⟩
theorem nh (p:Int) (w:World) :
  Calls Tryz.prog 223 #[Zi Zq p] w λ e w'=>e=.returned (Zi Zq (aL p))/\w=w':=by
 go_enter Tryz.func223,Tryz.ntmps223;go_wp2_with (go_at_call 210;refine (dW _ _).mono ?_;rintro e w' ⟨rfl,rfl⟩);go_ret;exact ⟨rfl,rfl⟩
theorem eZ (w:World) :
  Calls Tryz.prog 240 #[] w λ e w'=>e=.returned (.agg #[Zi Zq 0,Zi Zq 0,Zi Zq 7,Zi Zq 0,Zi Zq 5,Zi Zq 192,Zi Zq 4,Zi Zq 224,Zi Zq 3,Zi Zq 240])/\Below w.heap.size w w':=by
 go_enter Tryz.func240,Tryz.ntmps240;go_wp2;go_returns;exact ⟨rfl,by go_grown⟩
def cW (c k:Nat):Prop:=(2<=k->¬ c / 128=0)/\(3<=k->¬ c / 32=6)/\(4<=k->¬ c / 16=14)/\(5<=k->¬ c / 8=30)
theorem de (c:Nat) (w:World) (hG:GOK w) (hc:c<256) :
  Calls Tryz.prog 225 #[Zi .u8 c] w λ e w'=>e=.returned (.tuple #[.agg #[Zi Zq (aE c).1,Zi Zq (aE c).2.1],Zi Zq (aE c).2.2])/\Below w.heap.size w w':=by
 have HG:=hG;obtain ⟨hg,h0,h1⟩:=hG;go_enter Tryz.func225,Tryz.ntmps225;go_wp2;go_step3;go_wp2;go_step3;go_wp2_with (go_at_call 240;refine (eZ _).mono ?_;rintro e w' ⟨rfl,hb⟩);go_loopw [5,10] (λ s i wr => ∃ k:Nat,k<=5/\i=Zi Zq k/\s=Zi Zq 0/\Blk wr w.heap.size 271 #[Zi Zq 0,Zi Zq 0]/\Blk wr (w.heap.size+1) 271 #[Zi Zq 0,Zi Zq 0]/\GOK wr/\Below w.heap.size w wr/\cW c k)
  (λ _ i _=>5-(intOf i).toNat)
 case atStart =>
  have b1:=(Blk.new (w.alloc (.cells #[Zi Zq 0,Zi Zq 0] 271)) 271 #[Zi Zq 0,Zi Zq 0]).keep hb;rw [World.size_alloc] at b1;exact ⟨0,by omega,rfl,rfl,((Blk.new w 271 _).alloc _).keep hb,b1,((HG.alloc _).alloc _).keep hb,
   (((Below.refl _ w).alloc (Nat.le_refl _) _).alloc (by simp) _).trans (hb.mono (by simp;omega)),by simp [cW]⟩
 case round =>
  obtain ⟨k,hk,rfl,rfl,b2,b4,hGr,hbr,hno⟩:=hrel;clear hb h0 h1 hg;have hs:=b4.lt;obtain ⟨h2,h2f,_⟩:=b2.rules;obtain ⟨h4,h4f,_⟩:=b4.rules;obtain ⟨hg,h0,h1⟩:=hGr;have HN:=aW hno;clear hno;rcases (by omega:k=0∨k=1∨k=2∨k=3∨k=4∨k=5) with rfl | rfl | rfl | rfl | rfl | rfl
  ·go_wp2;go_quiet (fail);go_wp2;go_roundw
   case rel=>exact ⟨1,by omega,rfl,rfl,(b2.alloc _).drewN _,(b4.alloc _).drewN _,(GOK.alloc ⟨hg,h0,h1⟩ _).drewN _,(by repeat (first | exact hbr | apply ah | (refine Below.setCell ?_ (by first | (simp;done) | (simp;omega) | omega) _) | (refine Below.alloc ?_ (by first | (simp;done) | (simp;omega) | omega) _))),by simp [cW]⟩
   case measure=>simp [intOf]
  ·go_wp2;go_quiet (fail);go_wp2
   ·have hh:c / 128=0:=by
     have h:=‹((c:Int) / 128 == 0)=true›;simp at h;omega
    rw [Exit.noGoto_ret];refine bodyPost_ret (v:=.tuple #[.agg #[Zi Zq 7,Zi Zq 0],Zi Zq 1]) (by simp only [results,Tryz.results225];go_simp) rfl ⟨?_,(by repeat (first | exact hbr | apply ah | (refine Below.setCell ?_ (by first | (simp;done) | (simp;omega) | omega) _) | (refine Below.alloc ?_ (by first | (simp;done) | (simp;omega) | omega) _)))⟩;have hno:=HN.out;simp only [cW] at hno;have hs:aE c=(7,0,1):=by simp only [aE];rw [if_pos hh]
    rw [hs];rfl
   ·have hh:¬ c / 128=0:=by
     have h:=‹((c:Int) / 128 == 0)=false›;simp at h;omega
    go_roundw
    case rel=>exact ⟨2,by omega,rfl,rfl,(b2.alloc _).drewN _,(b4.alloc _).drewN _,(GOK.alloc ⟨hg,h0,h1⟩ _).drewN _,(by repeat (first | exact hbr | apply ah | (refine Below.setCell ?_ (by first | (simp;done) | (simp;omega) | omega) _) | (refine Below.alloc ?_ (by first | (simp;done) | (simp;omega) | omega) _))),by have hno:=HN.out;simp only [cW] at hno ⊢;omega⟩
    case measure=>simp [intOf]
  ·go_wp2;go_quiet (fail);go_wp2
   ·have hh:c / 32=6:=by
     have h:=‹((c:Int) / 32 == 6)=true›;simp at h;omega
    rw [Exit.noGoto_ret];refine bodyPost_ret (v:=.tuple #[.agg #[Zi Zq 5,Zi Zq 192],Zi Zq 2]) (by simp only [results,Tryz.results225];go_simp) rfl ⟨?_,(by repeat (first | exact hbr | apply ah | (refine Below.setCell ?_ (by first | (simp;done) | (simp;omega) | omega) _) | (refine Below.alloc ?_ (by first | (simp;done) | (simp;omega) | omega) _)))⟩;have hno:=HN.out;simp only [cW] at hno;have hs:aE c=(5,192,2):=by simp only [aE];rw [if_neg (by omega)];rw [if_pos hh]
    rw [hs];rfl
   ·have hh:¬ c / 32=6:=by
     have h:=‹((c:Int) / 32 == 6)=false›;simp at h;omega
    go_roundw
    case rel=>exact ⟨3,by omega,rfl,rfl,(b2.alloc _).drewN _,(b4.alloc _).drewN _,(GOK.alloc ⟨hg,h0,h1⟩ _).drewN _,(by repeat (first | exact hbr | apply ah | (refine Below.setCell ?_ (by first | (simp;done) | (simp;omega) | omega) _) | (refine Below.alloc ?_ (by first | (simp;done) | (simp;omega) | omega) _))),by have hno:=HN.out;simp only [cW] at hno ⊢;omega⟩
    case measure=>simp [intOf]
  ·go_wp2;go_quiet (fail);go_wp2
   ·have hh:c / 16=14:=by
     have h:=‹((c:Int) / 16 == 14)=true›;simp at h;omega
    rw [Exit.noGoto_ret];refine bodyPost_ret (v:=.tuple #[.agg #[Zi Zq 4,Zi Zq 224],Zi Zq 3]) (by simp only [results,Tryz.results225];go_simp) rfl ⟨?_,(by repeat (first | exact hbr | apply ah | (refine Below.setCell ?_ (by first | (simp;done) | (simp;omega) | omega) _) | (refine Below.alloc ?_ (by first | (simp;done) | (simp;omega) | omega) _)))⟩;have hno:=HN.out;simp only [cW] at hno;have hs:aE c=(4,224,3):=by simp only [aE];rw [if_neg (by omega)];rw [if_neg (by omega)];rw [if_pos hh]
    rw [hs];rfl
   ·have hh:¬ c / 16=14:=by
     have h:=‹((c:Int) / 16 == 14)=false›;simp at h;omega
    go_roundw
    case rel=>exact ⟨4,by omega,rfl,rfl,(b2.alloc _).drewN _,(b4.alloc _).drewN _,(GOK.alloc ⟨hg,h0,h1⟩ _).drewN _,(by repeat (first | exact hbr | apply ah | (refine Below.setCell ?_ (by first | (simp;done) | (simp;omega) | omega) _) | (refine Below.alloc ?_ (by first | (simp;done) | (simp;omega) | omega) _))),by have hno:=HN.out;simp only [cW] at hno ⊢;omega⟩
    case measure=>simp [intOf]
  ·go_wp2;go_quiet (fail);go_wp2
   ·have hh:c / 8=30:=by
     have h:=‹((c:Int) / 8 == 30)=true›;simp at h;omega
    rw [Exit.noGoto_ret];refine bodyPost_ret (v:=.tuple #[.agg #[Zi Zq 3,Zi Zq 240],Zi Zq 4]) (by simp only [results,Tryz.results225];go_simp) rfl ⟨?_,(by repeat (first | exact hbr | apply ah | (refine Below.setCell ?_ (by first | (simp;done) | (simp;omega) | omega) _) | (refine Below.alloc ?_ (by first | (simp;done) | (simp;omega) | omega) _)))⟩;have hno:=HN.out;simp only [cW] at hno;have hs:aE c=(3,240,4):=by simp only [aE];rw [if_neg (by omega)];rw [if_neg (by omega)];rw [if_neg (by omega)];rw [if_pos hh]
    rw [hs];rfl
   ·have hh:¬ c / 8=30:=by
     have h:=‹((c:Int) / 8 == 30)=false›;simp at h;omega
    go_roundw
    case rel=>exact ⟨5,by omega,rfl,rfl,(b2.alloc _).drewN _,(b4.alloc _).drewN _,(GOK.alloc ⟨hg,h0,h1⟩ _).drewN _,(by repeat (first | exact hbr | apply ah | (refine Below.setCell ?_ (by first | (simp;done) | (simp;omega) | omega) _) | (refine Below.alloc ?_ (by first | (simp;done) | (simp;omega) | omega) _))),by have hno:=HN.out;simp only [cW] at hno ⊢;omega⟩
    case measure=>simp [intOf]
  ·go_wp2;rw [Exit.noGoto_ret];refine bodyPost_ret (v:=.tuple #[.agg #[Zi Zq 0,Zi Zq 0],Zi Zq 0]) (by simp only [results,Tryz.results225];go_simp) rfl ⟨?_,(by repeat (first | exact hbr | apply ah | (refine Below.setCell ?_ (by first | (simp;done) | (simp;omega) | omega) _) | (refine Below.alloc ?_ (by first | (simp;done) | (simp;omega) | omega) _)))⟩;have hno:=HN.out;simp only [cW] at hno;have hs:aE c=(0,0,0):=by simp only [aE];rw [if_neg (by omega),if_neg (by omega),if_neg (by omega),if_neg (by omega)]
   rw [hs];rfl
def cH (l:List UInt8) (p:Nat) (k:Nat):Nat:=((l.drop 1).take k).foldl (λ p c=>p*64+c.toNat % 64) p
def bL (l:List UInt8) (k:Nat):Bool:=!((l.drop 1).take k).any (λ c=>c.toNat / 64 != 2)
theorem gw {l:List UInt8} {p k:Nat} {c:UInt8} (h:l[k+1]? = some c):cH l p (k+1)=cH l p k*64+c.toNat % 64:=by
 unfold cH;have:(l.drop 1)[k]? = some c:=by rw [List.getElem?_drop,Nat.add_comm];exact h
 rw [List.take_add_one,this];simp
theorem ez {l:List UInt8} {k:Nat} {c:UInt8} (h:l[k+1]? = some c):bL l (k+1)=(bL l k && c.toNat / 64 == 2):=by
 unfold bL;have:(l.drop 1)[k]? = some c:=by rw [List.getElem?_drop,Nat.add_comm];exact h
 rw [List.take_add_one,this];simp [bne,Bool.not_not]
theorem fK {l:List UInt8} {k n:Nat} (h:k<=n) (hf:bL l k=false):bL l n=false:=by
 induction n with
 |zero =>
  obtain rfl:k=0:=by omega
  exact hf
 |succ n ih =>
  rcases Nat.lt_or_ge n k with h1 | h1
  ·obtain rfl:k=n+1:=by omega
   exact hf
  ·rcases hl:l[n+1]? with _ | c
   ·have h2:bL l (n+1)=bL l n:=by
     unfold bL;have:(l.drop 1).length<=n:=by
      have:=List.getElem?_eq_none_iff.1 hl;simp;omega
     rw [List.take_of_length_le (by omega),List.take_of_length_le this]
    rw [h2];exact ih h1
   ·rw [ez hl,ih h1];rfl
theorem jS (l:List UInt8) (p k:Nat):cH l p k<(p+1)*64 ^ k:=by
 unfold cH;generalize hm:(l.drop 1).take k=m;have hk:m.length<=k:=by rw [← hm];exact List.length_take_le _ _
 clear hm;have key:∀ (m:List UInt8) (p:Nat),m.foldl (λ p c=>p*64+c.toNat % 64) p<(p+1)*64 ^ m.length:=by
  intro m
  induction m with
  | nil=>intro p;simp
  |cons c m ih =>
   intro p;rw [List.foldl_cons,List.length_cons,Nat.pow_succ];refine Nat.lt_of_lt_of_le (ih _) ?_;have:p*64+c.toNat % 64+1<=(p+1)*64:=by omega
   calc (p*64+c.toNat % 64+1)*64 ^ m.length<=((p+1)*64)*64 ^ m.length:=Nat.mul_le_mul_right _ this
    _=(p+1)*(64 ^ m.length*64):=by rw [Nat.mul_assoc,Nat.mul_comm 64]
 exact Nat.lt_of_lt_of_le (key m p) (Nat.mul_le_mul_left _ (Nat.pow_le_pow_right (by omega) hk))
theorem wM (b o cap:Nat) (l:List UInt8) (c0:UInt8) (r:List UInt8) (w:World) (hl:l=c0::r) (hG:GOK w) (hb:b<w.heap.size)
  (hx:∀ i c,l[i]? = some c->w.cell? ⟨b,o+i,none⟩=some (Zi .u8 c.toNat)) (hcap:l.length<=cap) (hlen:l.length<=4194304) (hsz:aE c0.toNat=(5,192,2)) :
  Calls Tryz.prog 213 #[Zs (some ⟨b,o,none⟩) l.length cap] w λ e w'=>e=.returned (.tuple #[Zi Zq (bh l).1,Zi Zq (bh l).2])/\Below w.heap.size w w':=by
 have hc0:w.cell? ⟨b,o,none⟩=some (Zi .u8 c0.toNat):=hx 0 c0 (by rw [hl];rfl);have hlt:=c0.toNat_lt;have hpos:0<l.length:=by rw [hl];simp
 have hns:bh l=if l.length<2 then (0,0) else if bL l 1=false then (0,0) else if br (cH l (c0.toNat % 2 ^ 5) 1)≠2 then (0,0) else (cH l (c0.toNat % 2 ^ 5) 1,2):=by
  subst hl;simp only [bh,List.headD_cons,hsz,bL,cH];simp
 have HL:=aW hl;have HS:=aW hns;have HZ:=aW hsz;have HX:=aW hx;clear hl hns hsz hx;by_cases hn:l.length<2
 ·rw [show bh l=(0,0) from by rw [HS.out,if_pos hn]];go_enter Tryz.func213,Tryz.ntmps213;go_wp2_with (go_at_call 225;refine (de _ _ hG (by omega)).mono ?_;rintro e w1 ⟨rfl,hb1⟩;rw [HZ.out];have hz1:=hb1.size;obtain ⟨hg,h0,h1⟩:=hG.keep hb1);go_ret2;exact ⟨rfl,(by repeat (first | exact hb1 | apply ah | (refine Below.setCell ?_ (by first | (simp;done) | (simp;omega) | omega) _) | (refine Below.alloc ?_ (by first | (simp;done) | (simp;omega) | omega) _)))⟩
 ·have hnl:(2:Nat)<=l.length:=by omega
  have hcl:(2:Nat)<=cap:=by omega
  clear hn;go_enter Tryz.func213,Tryz.ntmps213;go_wp2_with (go_at_call 225;refine (de _ _ hG (by omega)).mono ?_;rintro e w1 ⟨rfl,hb1⟩;rw [HZ.out];have hz1:=hb1.size;obtain ⟨hg,h0,h1⟩:=hG.keep hb1;have hc1:w1.cell? ⟨b,o,none⟩=some (Zi .u8 c0.toNat):=(hb1.cell hb).trans hc0;have hsz:b<w1.heap.size:=Nat.lt_of_lt_of_le hb hb1.size);go_quiet (fail);go_wp2;have hm:bits BinOp.and IntKind.i64 (c0.toNat:Int) 31=((c0.toNat % 2 ^ 5:Nat):Int):=fR c0.toNat 5 (by omega) (by decide);go_loop [6,38] (λ p i => ∃ k:Nat,k<=1/\i=Zi Zq k/\p=Zi Zq (cH l (c0.toNat % 2 ^ 5) k)/\bL l k=true) (λ _ i=>1-(intOf i).toNat)
  case atStart=>exact ⟨0,by omega,rfl,by rw [hm];simp [cH],by simp [bL]⟩
  case round =>
   obtain ⟨k,hk,rfl,rfl,hok⟩:=hrel;clear hm;have hgl:=jS l (c0.toNat % 2 ^ 5) k;have hgb:cH l (c0.toNat % 2 ^ 5) k<8388608:=by
    refine Nat.lt_of_lt_of_le hgl ?_;have h1:64 ^ k<=64 ^ 1:=Nat.pow_le_pow_right (by omega) hk;have h2:c0.toNat % 2 ^ 5+1<=32:=by have:=Nat.mod_lt c0.toNat (show 0<2 ^ 5 by decide);omega
    calc (c0.toNat % 2 ^ 5+1)*64 ^ k<=32*64 ^ 1:=Nat.mul_le_mul h2 h1
     _<=8388608:=by decide
   clear hgl;have HO:=aW hok;clear hok;by_cases hk1:k<1
   ·obtain ⟨c,hc⟩:∃ c,l[k+1]? = some c:=⟨l[k+1]'(by omega),List.getElem?_eq_getElem _⟩
    have hck:w1.cell? ⟨b,o+1+k,none⟩=some (Zi .u8 c.toNat):=(hb1.cell hb).trans (by rw [Nat.add_assoc,Nat.add_comm 1 k];exact HX.out _ _ hc);have hG:=aW (gw (p:=c0.toNat % 2 ^ 5) hc);have hC:=aW (ez hc);have HC:=aW hc;clear hc;have hlt2:=c.toNat_lt;obtain ⟨p,hp⟩:∃ p,cH l (c0.toNat % 2 ^ 5) k=p:=⟨_,rfl⟩
    rw [hp] at hgb hG ⊢;have HP:=aW hp;clear hp;have hj:=aW (kr p (c.toNat % 64) 6 (by omega) (by omega));go_wp2
    ·have hh:¬ c.toNat / 64=2:=by
      have h:=‹((c.toNat:Int) / 64 != 2)=true›;simp at h;omega
     go_ret2;refine ⟨?_,(by repeat (first | exact hb1 | apply ah | (refine Below.setCell ?_ (by first | (simp;done) | (simp;omega) | omega) _) | (refine Below.alloc ?_ (by first | (simp;done) | (simp;omega) | omega) _)))⟩;have hf:bL l 1=false:=fK (k:=k+1) (by omega) (by rw [hC.out];simp [hh]);rw [HS.out,if_neg (by omega),if_pos hf];rfl
    ·have hh:c.toNat / 64=2:=by
      have h:=‹((c.toNat:Int) / 64 != 2)=false›;simp at h;omega
     go_round
     case rel=>exact ⟨k+1,by omega,by go_num,by rw [hG.out,← hj.out];go_num,by rw [hC.out,HO.out];simp [hh]⟩
     case measure=>simp [intOf];omega
   ·obtain rfl:k=1:=by omega
    obtain ⟨p,hp⟩:∃ p,cH l (c0.toNat % 2 ^ 5) 1=p:=⟨_,rfl⟩
    have HS2:Hid (bh l=if br p≠2 then (0,0) else (p,2)):=by
     have:=HS.out;rw [if_neg (by omega),if_neg (by rw [HO.out];simp),hp] at this;exact this
    rw [hp] at hgb ⊢;clear hp;go_wp2_with (go_at_call 210;refine (dW _ _).mono ?_;rintro e w' ⟨rfl,rfl⟩)
    ·have hh:br p≠2:=by
      have h:=‹(aL (p:Int) != 2)=true›;intro he;rw [(a9 p 2).2 he] at h;simp at h
     go_ret2;exact ⟨by rw [HS2.out,if_pos hh];rfl,(by repeat (first | exact hb1 | apply ah | (refine Below.setCell ?_ (by first | (simp;done) | (simp;omega) | omega) _) | (refine Below.alloc ?_ (by first | (simp;done) | (simp;omega) | omega) _)))⟩
    ·have hh:br p=2:=by
      have h:=‹(aL (p:Int) != 2)=false›;exact (a9 p 2).1 (by simpa using h)
     go_ret2;exact ⟨by rw [HS2.out,if_neg (by simp [hh])];rfl,(by repeat (first | exact hb1 | apply ah | (refine Below.setCell ?_ (by first | (simp;done) | (simp;omega) | omega) _) | (refine Below.alloc ?_ (by first | (simp;done) | (simp;omega) | omega) _)))⟩
theorem wN (b o cap:Nat) (l:List UInt8) (c0:UInt8) (r:List UInt8) (w:World) (hl:l=c0::r) (hG:GOK w) (hb:b<w.heap.size)
  (hx:∀ i c,l[i]? = some c->w.cell? ⟨b,o+i,none⟩=some (Zi .u8 c.toNat)) (hcap:l.length<=cap) (hlen:l.length<=4194304) (hsz:aE c0.toNat=(4,224,3)) :
  Calls Tryz.prog 213 #[Zs (some ⟨b,o,none⟩) l.length cap] w λ e w'=>e=.returned (.tuple #[Zi Zq (bh l).1,Zi Zq (bh l).2])/\Below w.heap.size w w':=by
 have hc0:w.cell? ⟨b,o,none⟩=some (Zi .u8 c0.toNat):=hx 0 c0 (by rw [hl];rfl);have hlt:=c0.toNat_lt;have hpos:0<l.length:=by rw [hl];simp
 have hns:bh l=if l.length<3 then (0,0) else if bL l 2=false then (0,0) else if br (cH l (c0.toNat % 2 ^ 4) 2)≠3 then (0,0) else (cH l (c0.toNat % 2 ^ 4) 2,3):=by
  subst hl;simp only [bh,List.headD_cons,hsz,bL,cH];simp
 have HL:=aW hl;have HS:=aW hns;have HZ:=aW hsz;have HX:=aW hx;clear hl hns hsz hx;by_cases hn:l.length<3
 ·rw [show bh l=(0,0) from by rw [HS.out,if_pos hn]];go_enter Tryz.func213,Tryz.ntmps213;go_wp2_with (go_at_call 225;refine (de _ _ hG (by omega)).mono ?_;rintro e w1 ⟨rfl,hb1⟩;rw [HZ.out];have hz1:=hb1.size;obtain ⟨hg,h0,h1⟩:=hG.keep hb1);go_ret2;exact ⟨rfl,(by repeat (first | exact hb1 | apply ah | (refine Below.setCell ?_ (by first | (simp;done) | (simp;omega) | omega) _) | (refine Below.alloc ?_ (by first | (simp;done) | (simp;omega) | omega) _)))⟩
 ·have hnl:(3:Nat)<=l.length:=by omega
  have hcl:(3:Nat)<=cap:=by omega
  clear hn;go_enter Tryz.func213,Tryz.ntmps213;go_wp2_with (go_at_call 225;refine (de _ _ hG (by omega)).mono ?_;rintro e w1 ⟨rfl,hb1⟩;rw [HZ.out];have hz1:=hb1.size;obtain ⟨hg,h0,h1⟩:=hG.keep hb1;have hc1:w1.cell? ⟨b,o,none⟩=some (Zi .u8 c0.toNat):=(hb1.cell hb).trans hc0;have hsz:b<w1.heap.size:=Nat.lt_of_lt_of_le hb hb1.size);go_quiet (fail);go_wp2;have hm:bits BinOp.and IntKind.i64 (c0.toNat:Int) 15=((c0.toNat % 2 ^ 4:Nat):Int):=fR c0.toNat 4 (by omega) (by decide);go_loop [6,38] (λ p i => ∃ k:Nat,k<=2/\i=Zi Zq k/\p=Zi Zq (cH l (c0.toNat % 2 ^ 4) k)/\bL l k=true) (λ _ i=>2-(intOf i).toNat)
  case atStart=>exact ⟨0,by omega,rfl,by rw [hm];simp [cH],by simp [bL]⟩
  case round =>
   obtain ⟨k,hk,rfl,rfl,hok⟩:=hrel;clear hm;have hgl:=jS l (c0.toNat % 2 ^ 4) k;have hgb:cH l (c0.toNat % 2 ^ 4) k<8388608:=by
    refine Nat.lt_of_lt_of_le hgl ?_;have h1:64 ^ k<=64 ^ 2:=Nat.pow_le_pow_right (by omega) hk;have h2:c0.toNat % 2 ^ 4+1<=16:=by have:=Nat.mod_lt c0.toNat (show 0<2 ^ 4 by decide);omega
    calc (c0.toNat % 2 ^ 4+1)*64 ^ k<=16*64 ^ 2:=Nat.mul_le_mul h2 h1
     _<=8388608:=by decide
   clear hgl;have HO:=aW hok;clear hok;by_cases hk1:k<2
   ·obtain ⟨c,hc⟩:∃ c,l[k+1]? = some c:=⟨l[k+1]'(by omega),List.getElem?_eq_getElem _⟩
    have hck:w1.cell? ⟨b,o+1+k,none⟩=some (Zi .u8 c.toNat):=(hb1.cell hb).trans (by rw [Nat.add_assoc,Nat.add_comm 1 k];exact HX.out _ _ hc);have hG:=aW (gw (p:=c0.toNat % 2 ^ 4) hc);have hC:=aW (ez hc);have HC:=aW hc;clear hc;have hlt2:=c.toNat_lt;obtain ⟨p,hp⟩:∃ p,cH l (c0.toNat % 2 ^ 4) k=p:=⟨_,rfl⟩
    rw [hp] at hgb hG ⊢;have HP:=aW hp;clear hp;have hj:=aW (kr p (c.toNat % 64) 6 (by omega) (by omega));go_wp2
    ·have hh:¬ c.toNat / 64=2:=by
      have h:=‹((c.toNat:Int) / 64 != 2)=true›;simp at h;omega
     go_ret2;refine ⟨?_,(by repeat (first | exact hb1 | apply ah | (refine Below.setCell ?_ (by first | (simp;done) | (simp;omega) | omega) _) | (refine Below.alloc ?_ (by first | (simp;done) | (simp;omega) | omega) _)))⟩;have hf:bL l 2=false:=fK (k:=k+1) (by omega) (by rw [hC.out];simp [hh]);rw [HS.out,if_neg (by omega),if_pos hf];rfl
    ·have hh:c.toNat / 64=2:=by
      have h:=‹((c.toNat:Int) / 64 != 2)=false›;simp at h;omega
     go_round
     case rel=>exact ⟨k+1,by omega,by go_num,by rw [hG.out,← hj.out];go_num,by rw [hC.out,HO.out];simp [hh]⟩
     case measure=>simp [intOf];omega
   ·obtain rfl:k=2:=by omega
    obtain ⟨p,hp⟩:∃ p,cH l (c0.toNat % 2 ^ 4) 2=p:=⟨_,rfl⟩
    have HS2:Hid (bh l=if br p≠3 then (0,0) else (p,3)):=by
     have:=HS.out;rw [if_neg (by omega),if_neg (by rw [HO.out];simp),hp] at this;exact this
    rw [hp] at hgb ⊢;clear hp;go_wp2_with (go_at_call 210;refine (dW _ _).mono ?_;rintro e w' ⟨rfl,rfl⟩)
    ·have hh:br p≠3:=by
      have h:=‹(aL (p:Int) != 3)=true›;intro he;rw [(a9 p 3).2 he] at h;simp at h
     go_ret2;exact ⟨by rw [HS2.out,if_pos hh];rfl,(by repeat (first | exact hb1 | apply ah | (refine Below.setCell ?_ (by first | (simp;done) | (simp;omega) | omega) _) | (refine Below.alloc ?_ (by first | (simp;done) | (simp;omega) | omega) _)))⟩
    ·have hh:br p=3:=by
      have h:=‹(aL (p:Int) != 3)=false›;exact (a9 p 3).1 (by simpa using h)
     go_ret2;exact ⟨by rw [HS2.out,if_neg (by simp [hh])];rfl,(by repeat (first | exact hb1 | apply ah | (refine Below.setCell ?_ (by first | (simp;done) | (simp;omega) | omega) _) | (refine Below.alloc ?_ (by first | (simp;done) | (simp;omega) | omega) _)))⟩
theorem wO (b o cap:Nat) (l:List UInt8) (c0:UInt8) (r:List UInt8) (w:World) (hl:l=c0::r) (hG:GOK w) (hb:b<w.heap.size)
  (hx:∀ i c,l[i]? = some c->w.cell? ⟨b,o+i,none⟩=some (Zi .u8 c.toNat)) (hcap:l.length<=cap) (hlen:l.length<=4194304) (hsz:aE c0.toNat=(3,240,4)) :
  Calls Tryz.prog 213 #[Zs (some ⟨b,o,none⟩) l.length cap] w λ e w'=>e=.returned (.tuple #[Zi Zq (bh l).1,Zi Zq (bh l).2])/\Below w.heap.size w w':=by
 have hc0:w.cell? ⟨b,o,none⟩=some (Zi .u8 c0.toNat):=hx 0 c0 (by rw [hl];rfl);have hlt:=c0.toNat_lt;have hpos:0<l.length:=by rw [hl];simp
 have hns:bh l=if l.length<4 then (0,0) else if bL l 3=false then (0,0) else if br (cH l (c0.toNat % 2 ^ 3) 3)≠4 then (0,0) else (cH l (c0.toNat % 2 ^ 3) 3,4):=by
  subst hl;simp only [bh,List.headD_cons,hsz,bL,cH];simp
 have HL:=aW hl;have HS:=aW hns;have HZ:=aW hsz;have HX:=aW hx;clear hl hns hsz hx;by_cases hn:l.length<4
 ·rw [show bh l=(0,0) from by rw [HS.out,if_pos hn]];go_enter Tryz.func213,Tryz.ntmps213;go_wp2_with (go_at_call 225;refine (de _ _ hG (by omega)).mono ?_;rintro e w1 ⟨rfl,hb1⟩;rw [HZ.out];have hz1:=hb1.size;obtain ⟨hg,h0,h1⟩:=hG.keep hb1);go_ret2;exact ⟨rfl,(by repeat (first | exact hb1 | apply ah | (refine Below.setCell ?_ (by first | (simp;done) | (simp;omega) | omega) _) | (refine Below.alloc ?_ (by first | (simp;done) | (simp;omega) | omega) _)))⟩
 ·have hnl:(4:Nat)<=l.length:=by omega
  have hcl:(4:Nat)<=cap:=by omega
  clear hn;go_enter Tryz.func213,Tryz.ntmps213;go_wp2_with (go_at_call 225;refine (de _ _ hG (by omega)).mono ?_;rintro e w1 ⟨rfl,hb1⟩;rw [HZ.out];have hz1:=hb1.size;obtain ⟨hg,h0,h1⟩:=hG.keep hb1;have hc1:w1.cell? ⟨b,o,none⟩=some (Zi .u8 c0.toNat):=(hb1.cell hb).trans hc0;have hsz:b<w1.heap.size:=Nat.lt_of_lt_of_le hb hb1.size);go_quiet (fail);go_wp2;have hm:bits BinOp.and IntKind.i64 (c0.toNat:Int) 7=((c0.toNat % 2 ^ 3:Nat):Int):=fR c0.toNat 3 (by omega) (by decide);go_loop [6,38] (λ p i => ∃ k:Nat,k<=3/\i=Zi Zq k/\p=Zi Zq (cH l (c0.toNat % 2 ^ 3) k)/\bL l k=true) (λ _ i=>3-(intOf i).toNat)
  case atStart=>exact ⟨0,by omega,rfl,by rw [hm];simp [cH],by simp [bL]⟩
  case round =>
   obtain ⟨k,hk,rfl,rfl,hok⟩:=hrel;clear hm;have hgl:=jS l (c0.toNat % 2 ^ 3) k;have hgb:cH l (c0.toNat % 2 ^ 3) k<8388608:=by
    refine Nat.lt_of_lt_of_le hgl ?_;have h1:64 ^ k<=64 ^ 3:=Nat.pow_le_pow_right (by omega) hk;have h2:c0.toNat % 2 ^ 3+1<=8:=by have:=Nat.mod_lt c0.toNat (show 0<2 ^ 3 by decide);omega
    calc (c0.toNat % 2 ^ 3+1)*64 ^ k<=8*64 ^ 3:=Nat.mul_le_mul h2 h1
     _<=8388608:=by decide
   clear hgl;have HO:=aW hok;clear hok;by_cases hk1:k<3
   ·obtain ⟨c,hc⟩:∃ c,l[k+1]? = some c:=⟨l[k+1]'(by omega),List.getElem?_eq_getElem _⟩
    have hck:w1.cell? ⟨b,o+1+k,none⟩=some (Zi .u8 c.toNat):=(hb1.cell hb).trans (by rw [Nat.add_assoc,Nat.add_comm 1 k];exact HX.out _ _ hc);have hG:=aW (gw (p:=c0.toNat % 2 ^ 3) hc);have hC:=aW (ez hc);have HC:=aW hc;clear hc;have hlt2:=c.toNat_lt;obtain ⟨p,hp⟩:∃ p,cH l (c0.toNat % 2 ^ 3) k=p:=⟨_,rfl⟩
    rw [hp] at hgb hG ⊢;have HP:=aW hp;clear hp;have hj:=aW (kr p (c.toNat % 64) 6 (by omega) (by omega));go_wp2
    ·have hh:¬ c.toNat / 64=2:=by
      have h:=‹((c.toNat:Int) / 64 != 2)=true›;simp at h;omega
     go_ret2;refine ⟨?_,(by repeat (first | exact hb1 | apply ah | (refine Below.setCell ?_ (by first | (simp;done) | (simp;omega) | omega) _) | (refine Below.alloc ?_ (by first | (simp;done) | (simp;omega) | omega) _)))⟩;have hf:bL l 3=false:=fK (k:=k+1) (by omega) (by rw [hC.out];simp [hh]);rw [HS.out,if_neg (by omega),if_pos hf];rfl
    ·have hh:c.toNat / 64=2:=by
      have h:=‹((c.toNat:Int) / 64 != 2)=false›;simp at h;omega
     go_round
     case rel=>exact ⟨k+1,by omega,by go_num,by rw [hG.out,← hj.out];go_num,by rw [hC.out,HO.out];simp [hh]⟩
     case measure=>simp [intOf];omega
   ·obtain rfl:k=3:=by omega
    obtain ⟨p,hp⟩:∃ p,cH l (c0.toNat % 2 ^ 3) 3=p:=⟨_,rfl⟩
    have HS2:Hid (bh l=if br p≠4 then (0,0) else (p,4)):=by
     have:=HS.out;rw [if_neg (by omega),if_neg (by rw [HO.out];simp),hp] at this;exact this
    rw [hp] at hgb ⊢;clear hp;go_wp2_with (go_at_call 210;refine (dW _ _).mono ?_;rintro e w' ⟨rfl,rfl⟩)
    ·have hh:br p≠4:=by
      have h:=‹(aL (p:Int) != 4)=true›;intro he;rw [(a9 p 4).2 he] at h;simp at h
     go_ret2;exact ⟨by rw [HS2.out,if_pos hh];rfl,(by repeat (first | exact hb1 | apply ah | (refine Below.setCell ?_ (by first | (simp;done) | (simp;omega) | omega) _) | (refine Below.alloc ?_ (by first | (simp;done) | (simp;omega) | omega) _)))⟩
    ·have hh:br p=4:=by
      have h:=‹(aL (p:Int) != 4)=false›;exact (a9 p 4).1 (by simpa using h)
     go_ret2;exact ⟨by rw [HS2.out,if_neg (by simp [hh])];rfl,(by repeat (first | exact hb1 | apply ah | (refine Below.setCell ?_ (by first | (simp;done) | (simp;omega) | omega) _) | (refine Below.alloc ?_ (by first | (simp;done) | (simp;omega) | omega) _)))⟩
theorem wL (b o cap:Nat) (l:List UInt8) (c0:UInt8) (r:List UInt8) (w:World) (hl:l=c0::r) (hG:GOK w) (hb:b<w.heap.size)
  (hx:∀ i c,l[i]? = some c->w.cell? ⟨b,o+i,none⟩=some (Zi .u8 c.toNat)) (hcap:l.length<=cap) (hlen:l.length<=4194304) (hsz:aE c0.toNat=(7,0,1)) :
  Calls Tryz.prog 213 #[Zs (some ⟨b,o,none⟩) l.length cap] w λ e w'=>e=.returned (.tuple #[Zi Zq (bh l).1,Zi Zq (bh l).2])/\Below w.heap.size w w':=by
 have hc0:w.cell? ⟨b,o,none⟩=some (Zi .u8 c0.toNat):=hx 0 c0 (by rw [hl];rfl);have hlt:=c0.toNat_lt;have hpos:0<l.length:=by rw [hl];simp
 have h128:c0.toNat / 128=0:=by
  simp only [aE] at hsz;by_cases h:c0.toNat / 128=0
  ·exact h
  ·rw [if_neg h] at hsz;repeat' split at hsz
   all_goals simp at hsz
 have hns:bh l=(c0.toNat,1):=by
  rw [n9 l (by rw [hl];simp)];subst hl;rw [mp ((ok1 _ _).2 (by omega))];simp [bw]
 have HZ:=aW hsz;have h7:c0.toNat<128:=by omega
 rw [hns];clear hl hns hsz hx h128;have hm:bits BinOp.and IntKind.i64 (c0.toNat:Int) 127=(c0.toNat:Int):=by
  rw [show (127:Int)=((2 ^ 7-1:Nat):Int) from rfl,fR c0.toNat 7 (by omega) (by decide)];omega
 have HM:=aW hm;clear hm;go_enter Tryz.func213,Tryz.ntmps213;go_wp2_with (go_at_call 225;refine (de _ _ hG (by omega)).mono ?_;rintro e w1 ⟨rfl,hb1⟩;rw [HZ.out];have hz1:=hb1.size;obtain ⟨hg,h0,h1⟩:=hG.keep hb1;have hc1:w1.cell? ⟨b,o,none⟩=some (Zi .u8 c0.toNat):=(hb1.cell hb).trans hc0;have hsz:b<w1.heap.size:=Nat.lt_of_lt_of_le hb hb1.size);have HC:=aW (show aL (c0.toNat:Int)=1 from (a9 c0.toNat 1).2 ((bC _ _).2 (by omega)));go_quiet (fail);go_wp2
 all_goals
  refine wp_loop_rounds 1 ?_;rw [rounds_succ,HM.out];go_wp2_with (go_at_call 210;refine (dW _ _).mono ?_;rintro e w' ⟨rfl,rfl⟩;rw [HC.out]);go_ret2;exact ⟨rfl,(by repeat (first | exact hb1 | apply ah | (refine Below.setCell ?_ (by first | (simp;done) | (simp;omega) | omega) _) | (refine Below.alloc ?_ (by first | (simp;done) | (simp;omega) | omega) _)))⟩
theorem wK (b o cap:Nat) (l:List UInt8) (c0:UInt8) (r:List UInt8) (w:World) (hl:l=c0::r) (hG:GOK w) (hb:b<w.heap.size)
  (hx:∀ i c,l[i]? = some c->w.cell? ⟨b,o+i,none⟩=some (Zi .u8 c.toNat)) (hsz:aE c0.toNat=(0,0,0)) :
  Calls Tryz.prog 213 #[Zs (some ⟨b,o,none⟩) l.length cap] w λ e w'=>e=.returned (.tuple #[Zi Zq (bh l).1,Zi Zq (bh l).2])/\Below w.heap.size w w':=by
 have hc0:w.cell? ⟨b,o,none⟩=some (Zi .u8 c0.toNat):=hx 0 c0 (by rw [hl];rfl);have hlt:=c0.toNat_lt;have hpos:0<l.length:=by rw [hl];simp
 have hns:bh l=(0,0):=by
  subst hl;simp [bh,hsz]
 have HZ:=aW hsz;rw [hns];clear hl hns hsz hx;go_enter Tryz.func213,Tryz.ntmps213;go_wp2_with (go_at_call 225;refine (de _ _ hG (by omega)).mono ?_;rintro e w1 ⟨rfl,hb1⟩;rw [HZ.out];have hz1:=hb1.size;obtain ⟨hg,h0,h1⟩:=hG.keep hb1);go_ret2;exact ⟨rfl,(by repeat (first | exact hb1 | apply ah | (refine Below.setCell ?_ (by first | (simp;done) | (simp;omega) | omega) _) | (refine Below.alloc ?_ (by first | (simp;done) | (simp;omega) | omega) _)))⟩
theorem od (b o cap:Nat) (l:List UInt8) (w:World) (hl:l≠[]) (hG:GOK w) (hb:b<w.heap.size)
  (hx:∀ i c,l[i]? = some c->w.cell? ⟨b,o+i,none⟩=some (Zi .u8 c.toNat)) (hcap:l.length<=cap) (hlen:l.length<=4194304) :
  Calls Tryz.prog 213 #[Zs (some ⟨b,o,none⟩) l.length cap] w λ e w'=>e=.returned (.tuple #[Zi Zq (au l).1,Zi Zq (au l).2])/\Below w.heap.size w w':=by
 rw [← n9 l hl];obtain ⟨c0,r,hr⟩:=List.exists_cons_of_ne_nil hl;have hs:aE c0.toNat=(7,0,1)∨aE c0.toNat=(5,192,2)∨aE c0.toNat=(4,224,3)∨aE c0.toNat=(3,240,4)∨aE c0.toNat=(0,0,0):=by
  unfold aE;repeat' split
  all_goals simp
 rcases hs with h | h | h | h | h
 ·exact wL b o cap l c0 r w hr hG hb hx hcap hlen h
 ·exact wM b o cap l c0 r w hr hG hb hx hcap hlen h
 ·exact wN b o cap l c0 r w hr hG hb hx hcap hlen h
 ·exact wO b o cap l c0 r w hr hG hb hx hcap hlen h
 ·exact wK b o cap l c0 r w hr hG hb hx h
def d5 (l:List UInt8) (at_:Int):Int × Int × Int :=
 if at_<0∨(l.length:Int)<at_ then (0,0,2) else if at_=l.length then (0,0,6)
 else if (au (l.drop at_.toNat)).2=0 then (0,0,110) else ((au (l.drop at_.toNat)).1,at_+(au (l.drop at_.toNat)).2,0)
theorem rV (A:Option Addr) (cap:Nat) (l:List UInt8) (at_:Int) (w:World) (hG:GOK w) (hr:Rd w A (aq l)) (hcap:l.length<=cap) (hlen:l.length<=4194304) :
  Calls Tryz.prog 209 #[Zs A l.length cap,Zi Zq at_] w λ e w'=>e=.returned (.tuple #[Zi Zq (d5 l at_).1,Zi Zq (d5 l at_).2.1,Zi Zq (d5 l at_).2.2])/\Below w.heap.size w w':=by
 by_cases h1:at_<0∨(l.length:Int)<at_
 ·rw [show d5 l at_=(0,0,2) from by rw [d5,if_pos h1]];go_enter Tryz.func209,Tryz.ntmps209;rcases h1 with h1 | h1
  ·go_wp2;go_ret3;exact ⟨rfl,Below.refl _ _⟩
  ·have h0:¬ at_<0:=by omega
   go_wp2;go_ret3;exact ⟨rfl,Below.refl _ _⟩
 ·by_cases h2:at_=l.length
  ·rw [show d5 l at_=(0,0,6) from by rw [d5,if_neg h1,if_pos h2]];subst h2;go_enter Tryz.func209,Tryz.ntmps209;go_wp2;go_ret3;exact ⟨rfl,Below.refl _ _⟩
  ·obtain ⟨n,rfl⟩:=Int.eq_ofNat_of_zero_le (show 0<=at_ by omega);have hn:n<l.length:=by omega
   have hne:l≠[]:=by intro e;simp [e] at hn
   have hd:l.drop n≠[]:=by intro e;have:=congrArg List.length e;simp at this;omega
   obtain ⟨b,o,cap',hv,_,hb,hx⟩:=BS.some_ (w:=w) (v:=Zs A l.length cap) (l:=l) ⟨A,cap,rfl,hcap,hr⟩ hne;obtain ⟨rfl,rfl⟩:A=some ⟨b,o,none⟩/\cap=cap':=by simpa using hv
   have hR:Hid (d5 l (n:Int)=if (au (l.drop n)).2=0 then (0,0,110) else (((au (l.drop n)).1:Int),(n:Int)+(au (l.drop n)).2,0)):=by
    unfold d5;rw [if_neg h1,if_neg h2,Int.toNat_natCast];exact rfl
   have hcall:=od b (o+n) (cap-n) (l.drop n) w hd hG hb (λ i c hi=>by
    have:=hx (n+i) c (by rw [← hi,List.getElem?_drop]);rw [← this,Nat.add_assoc]) (by simp;omega) (by simp;omega)
   rw [List.length_drop] at hcall;obtain ⟨⟨p,m⟩,hp⟩:∃ q,au (l.drop n)=q:=⟨_,rfl⟩
   rw [hp] at hcall hR;have HC:=aW hcall;have HB:=aW hp;clear hcall hp h1 h2 hx hr hv;have hcn:¬ cap=n:=by omega
   have hm4:m<=4:=by
    have h4:=j4 (l.drop n);rw [HB.out] at h4;exact h4
   by_cases hm:m=0
   ·subst hm;rw [show d5 l (n:Int)=(0,0,110) from by rw [hR.out,if_pos rfl]];go_enter Tryz.func209,Tryz.ntmps209;go_wp2_with (go_at_call 213;refine HC.out.mono ?_;rintro e w1 ⟨rfl,hb1⟩);go_ret3;exact ⟨rfl,hb1⟩
   ·have hmb:((m:Int) == 0)=false:=by simp;exact hm
    rw [show d5 l (n:Int)=((p:Int),(n:Int)+m,0) from by rw [hR.out,if_neg hm]];go_enter Tryz.func209,Tryz.ntmps209;go_wp2_with (go_at_call 213;refine HC.out.mono ?_;rintro e w1 ⟨rfl,hb1⟩);go_ret3;exact ⟨rfl,hb1⟩
end
end Go.Proofs.YtgmnmnnoahdjnaaGreatDoor
