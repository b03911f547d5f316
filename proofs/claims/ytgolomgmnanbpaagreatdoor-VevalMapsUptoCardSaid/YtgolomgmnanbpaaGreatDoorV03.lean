import Derived.Test.YtgolomgmnanbpaaGreatDoorProg
import Derived.Test.YtgolomgmnanbpaaGreatDoorV02
import Derived.Test.YtgolomgmnanbpaaGreatDoorV01
import Derived.Deep.DeepCutAuto
open Go.Value renaming int → Zi, slice → Zs, string → Zt, pointer → Zp
open Go.IntKind renaming i64 → Zq
set_option maxRecDepth 100000
set_option maxHeartbeats 16000000
set_option linter.unusedVariables false
set_option linter.unusedSimpArgs false
namespace Go.Proofs.YtgolomgmnanbpaaGreatDoor
open Go.RowKit
attribute [local go_sem] aa ac ae
structure GOK (w:World):Prop where
 lt:2<w.heap.size
 c0:w.cell? ⟨2,0,none⟩=some (Zi Zq 0)
 c1:w.cell? ⟨2,1,none⟩=some (Zi Zq 0)
theorem GOK.below {B:Nat} {w w':World} (h:GOK w) (hb:Below B w w') (hB:2<B):GOK w' :=
 ⟨Nat.lt_of_lt_of_le h.lt hb.size,(hb.cell (p:=⟨2,0,none⟩) hB).trans h.c0,(hb.cell (p:=⟨2,1,none⟩) hB).trans h.c1⟩
theorem GOK.keep {w w':World} (h:GOK w) (hb:Below w.heap.size w w'):GOK w':=h.below hb h.lt
theorem GOK.alloc {w:World} (h:GOK w) (o:Obj):GOK (w.alloc o):=h.keep ((Below.refl w.heap.size w).alloc (Nat.le_refl _) o)
theorem GOK.drewN {w:World} (h:GOK w) (n:Nat):GOK (w.drewN n):=⟨h.lt,h.c0,h.c1⟩
theorem gw (p:Int) (w:World) :
  Calls Tryz.prog 200 #[Zi Zq p] w λ e w'=>e=.returned (Zi Zq (dC p))/\w=w':=by
 go_enter Tryz.func200,Tryz.ntmps200;go_wp2
 all_goals go_ret
 all_goals exact ⟨mi (by rw [qn];repeat' split<;>omega),rfl⟩
theorem qS (w:World) :
  Calls Tryz.prog 206 #[] w λ e w'=>e=.returned (.agg #[Zi Zq 0,Zi Zq 0,Zi Zq 7,Zi Zq 0,Zi Zq 5,Zi Zq 192,Zi Zq 4,Zi Zq 224,Zi Zq 3,Zi Zq 240])/\Below w.heap.size w w':=by
 go_enter Tryz.func206,Tryz.ntmps206;go_wp2;go_returns;exact ⟨rfl,by go_grown⟩
def cT (c k:Nat):Prop:=(2<=k->¬ c / 128=0)/\(3<=k->¬ c / 32=6)/\(4<=k->¬ c / 16=14)/\(5<=k->¬ c / 8=30)
theorem cZ (c:Nat) (w:World) (hG:GOK w) (hc:c<256) :
  Calls Tryz.prog 199 #[Zi .u8 c] w λ e w'=>e=.returned (.tuple #[.agg #[Zi Zq (aD c).1,Zi Zq (aD c).2.1],Zi Zq (aD c).2.2])/\Below w.heap.size w w':=by
 have HG:=hG;obtain ⟨hg,h0,h1⟩:=hG;go_enter Tryz.func199,Tryz.ntmps199;go_wp2;go_step3;go_wp2;go_step3;go_wp2_with (go_at_call 206;refine (qS _).mono ?_;rintro e w' ⟨rfl,hb⟩);go_loopw [5,10] (λ s i wr => ∃ k:Nat,k<=5/\i=Zi Zq k/\s=Zi Zq 0/\Blk wr w.heap.size 225 #[Zi Zq 0,Zi Zq 0]/\Blk wr (w.heap.size+1) 225 #[Zi Zq 0,Zi Zq 0]/\GOK wr/\Below w.heap.size w wr/\cT c k)
  (λ _ i _=>5-(intOf i).toNat)
 case atStart =>
  have b1:=(Blk.new (w.alloc (.cells #[Zi Zq 0,Zi Zq 0] 225)) 225 #[Zi Zq 0,Zi Zq 0]).keep hb;rw [World.size_alloc] at b1;exact ⟨0,by omega,rfl,rfl,((Blk.new w 225 _).alloc _).keep hb,b1,((HG.alloc _).alloc _).keep hb,
   (((Below.refl _ w).alloc (Nat.le_refl _) _).alloc (by simp) _).trans (hb.mono (by simp;omega)),by simp [cT]⟩
 case round =>
  obtain ⟨k,hk,rfl,rfl,b2,b4,hGr,hbr,hno⟩:=hrel;clear hb h0 h1 hg;have hs:=b4.lt;obtain ⟨h2,h2f,_⟩:=b2.rules;obtain ⟨h4,h4f,_⟩:=b4.rules;obtain ⟨hg,h0,h1⟩:=hGr;have HN:=aW hno;clear hno;rcases (by omega:k=0∨k=1∨k=2∨k=3∨k=4∨k=5) with rfl | rfl | rfl | rfl | rfl | rfl
  ·go_wp2;go_quiet (fail);go_wp2;go_roundw
   case rel=>exact ⟨1,by omega,rfl,rfl,(b2.alloc _).drewN _,(b4.alloc _).drewN _,(GOK.alloc ⟨hg,h0,h1⟩ _).drewN _,(by repeat (first | exact hbr | apply av | (refine Below.setCell ?_ (by first | (simp;done) | (simp;omega) | omega) _) | (refine Below.alloc ?_ (by first | (simp;done) | (simp;omega) | omega) _))),by simp [cT]⟩
   case measure=>simp [intOf]
  ·go_wp2;go_quiet (fail);go_wp2
   ·have hh:c / 128=0:=by
     have h:=‹((c:Int) / 128 == 0)=true›;simp at h;omega
    rw [Exit.noGoto_ret];refine bodyPost_ret (v:=.tuple #[.agg #[Zi Zq 7,Zi Zq 0],Zi Zq 1]) (by simp only [results,Tryz.results199];go_simp) rfl ⟨?_,(by repeat (first | exact hbr | apply av | (refine Below.setCell ?_ (by first | (simp;done) | (simp;omega) | omega) _) | (refine Below.alloc ?_ (by first | (simp;done) | (simp;omega) | omega) _)))⟩;have hno:=HN.out;simp only [cT] at hno;have hs:aD c=(7,0,1):=by simp only [aD];rw [if_pos hh]
    rw [hs];rfl
   ·have hh:¬ c / 128=0:=by
     have h:=‹((c:Int) / 128 == 0)=false›;simp at h;omega
    go_roundw
    case rel=>exact ⟨2,by omega,rfl,rfl,(b2.alloc _).drewN _,(b4.alloc _).drewN _,(GOK.alloc ⟨hg,h0,h1⟩ _).drewN _,(by repeat (first | exact hbr | apply av | (refine Below.setCell ?_ (by first | (simp;done) | (simp;omega) | omega) _) | (refine Below.alloc ?_ (by first | (simp;done) | (simp;omega) | omega) _))),by have hno:=HN.out;simp only [cT] at hno ⊢;omega⟩
    case measure=>simp [intOf]
  ·go_wp2;go_quiet (fail);go_wp2
   ·have hh:c / 32=6:=by
     have h:=‹((c:Int) / 32 == 6)=true›;simp at h;omega
    rw [Exit.noGoto_ret];refine bodyPost_ret (v:=.tuple #[.agg #[Zi Zq 5,Zi Zq 192],Zi Zq 2]) (by simp only [results,Tryz.results199];go_simp) rfl ⟨?_,(by repeat (first | exact hbr | apply av | (refine Below.setCell ?_ (by first | (simp;done) | (simp;omega) | omega) _) | (refine Below.alloc ?_ (by first | (simp;done) | (simp;omega) | omega) _)))⟩;have hno:=HN.out;simp only [cT] at hno;have hs:aD c=(5,192,2):=by simp only [aD];rw [if_neg (by omega)];rw [if_pos hh]
    rw [hs];rfl
   ·have hh:¬ c / 32=6:=by
     have h:=‹((c:Int) / 32 == 6)=false›;simp at h;omega
    go_roundw
    case rel=>exact ⟨3,by omega,rfl,rfl,(b2.alloc _).drewN _,(b4.alloc _).drewN _,(GOK.alloc ⟨hg,h0,h1⟩ _).drewN _,(by repeat (first | exact hbr | apply av | (refine Below.setCell ?_ (by first | (simp;done) | (simp;omega) | omega) _) | (refine Below.alloc ?_ (by first | (simp;done) | (simp;omega) | omega) _))),by have hno:=HN.out;simp only [cT] at hno ⊢;omega⟩
    case measure=>simp [intOf]
  ·go_wp2;go_quiet (fail);go_wp2
   ·have hh:c / 16=14:=by
     have h:=‹((c:Int) / 16 == 14)=true›;simp at h;omega
    rw [Exit.noGoto_ret];refine bodyPost_ret (v:=.tuple #[.agg #[Zi Zq 4,Zi Zq 224],Zi Zq 3]) (by simp only [results,Tryz.results199];go_simp) rfl ⟨?_,(by repeat (first | exact hbr | apply av | (refine Below.setCell ?_ (by first | (simp;done) | (simp;omega) | omega) _) | (refine Below.alloc ?_ (by first | (simp;done) | (simp;omega) | omega) _)))⟩;have hno:=HN.out;simp only [cT] at hno;have hs:aD c=(4,224,3):=by simp only [aD];rw [if_neg (by omega)];rw [if_neg (by omega)];rw [if_pos hh]
    rw [hs];rfl
   ·have hh:¬ c / 16=14:=by
     have h:=‹((c:Int) / 16 == 14)=false›;simp at h;omega
    go_roundw
    case rel=>exact ⟨4,by omega,rfl,rfl,(b2.alloc _).drewN _,(b4.alloc _).drewN _,(GOK.alloc ⟨hg,h0,h1⟩ _).drewN _,(by repeat (first | exact hbr | apply av | (refine Below.setCell ?_ (by first | (simp;done) | (simp;omega) | omega) _) | (refine Below.alloc ?_ (by first | (simp;done) | (simp;omega) | omega) _))),by have hno:=HN.out;simp only [cT] at hno ⊢;omega⟩
    case measure=>simp [intOf]
  ·go_wp2;go_quiet (fail);go_wp2
   ·have hh:c / 8=30:=by
     have h:=‹((c:Int) / 8 == 30)=true›;simp at h;omega
    rw [Exit.noGoto_ret];refine bodyPost_ret (v:=.tuple #[.agg #[Zi Zq 3,Zi Zq 240],Zi Zq 4]) (by simp only [results,Tryz.results199];go_simp) rfl ⟨?_,(by repeat (first | exact hbr | apply av | (refine Below.setCell ?_ (by first | (simp;done) | (simp;omega) | omega) _) | (refine Below.alloc ?_ (by first | (simp;done) | (simp;omega) | omega) _)))⟩;have hno:=HN.out;simp only [cT] at hno;have hs:aD c=(3,240,4):=by simp only [aD];rw [if_neg (by omega)];rw [if_neg (by omega)];rw [if_neg (by omega)];rw [if_pos hh]
    rw [hs];rfl
   ·have hh:¬ c / 8=30:=by
     have h:=‹((c:Int) / 8 == 30)=false›;simp at h;omega
    go_roundw
    case rel=>exact ⟨5,by omega,rfl,rfl,(b2.alloc _).drewN _,(b4.alloc _).drewN _,(GOK.alloc ⟨hg,h0,h1⟩ _).drewN _,(by repeat (first | exact hbr | apply av | (refine Below.setCell ?_ (by first | (simp;done) | (simp;omega) | omega) _) | (refine Below.alloc ?_ (by first | (simp;done) | (simp;omega) | omega) _))),by have hno:=HN.out;simp only [cT] at hno ⊢;omega⟩
    case measure=>simp [intOf]
  ·go_wp2;rw [Exit.noGoto_ret];refine bodyPost_ret (v:=.tuple #[.agg #[Zi Zq 0,Zi Zq 0],Zi Zq 0]) (by simp only [results,Tryz.results199];go_simp) rfl ⟨?_,(by repeat (first | exact hbr | apply av | (refine Below.setCell ?_ (by first | (simp;done) | (simp;omega) | omega) _) | (refine Below.alloc ?_ (by first | (simp;done) | (simp;omega) | omega) _)))⟩;have hno:=HN.out;simp only [cT] at hno;have hs:aD c=(0,0,0):=by simp only [aD];rw [if_neg (by omega),if_neg (by omega),if_neg (by omega),if_neg (by omega)]
   rw [hs];rfl
end Go.Proofs.YtgolomgmnanbpaaGreatDoor
namespace Go.Proofs.YtgolomgmnanbpaaGreatDoor
open Go.RowKit
attribute [local go_sem] aa ac ae
def cg (l:List UInt8) (p:Nat) (k:Nat):Nat:=((l.drop 1).take k).foldl (λ p c=>p*64+c.toNat % 64) p
def bE (l:List UInt8) (k:Nat):Bool:=!((l.drop 1).take k).any (λ c=>c.toNat / 64 != 2)
theorem fN {l:List UInt8} {p k:Nat} {c:UInt8} (h:l[k+1]? = some c):cg l p (k+1)=cg l p k*64+c.toNat % 64:=by
 unfold cg;have:(l.drop 1)[k]? = some c:=by rw [List.getElem?_drop,Nat.add_comm];exact h
 rw [List.take_add_one,this];simp
theorem et {l:List UInt8} {k:Nat} {c:UInt8} (h:l[k+1]? = some c):bE l (k+1)=(bE l k && c.toNat / 64 == 2):=by
 unfold bE;have:(l.drop 1)[k]? = some c:=by rw [List.getElem?_drop,Nat.add_comm];exact h
 rw [List.take_add_one,this];simp [bne,Bool.not_not]
theorem fs {l:List UInt8} {k n:Nat} (h:k<=n) (hf:bE l k=false):bE l n=false:=by
 induction n with
 |zero =>
  obtain rfl:k=0:=by omega
  exact hf
 |succ n ih =>
  rcases Nat.lt_or_ge n k with h1 | h1
  ·obtain rfl:k=n+1:=by omega
   exact hf
  ·rcases hl:l[n+1]? with _ | c
   ·have h2:bE l (n+1)=bE l n:=by
     unfold bE;have:(l.drop 1).length<=n:=by
      have:=List.getElem?_eq_none_iff.1 hl;simp;omega
     rw [List.take_of_length_le (by omega),List.take_of_length_le this]
    rw [h2];exact ih h1
   ·rw [et hl,ih h1];rfl
theorem jh (l:List UInt8) (p k:Nat):cg l p k<(p+1)*64 ^ k:=by
 unfold cg;generalize hm:(l.drop 1).take k=m;have hk:m.length<=k:=by rw [← hm];exact List.length_take_le _ _
 clear hm;have key:∀ (m:List UInt8) (p:Nat),m.foldl (λ p c=>p*64+c.toNat % 64) p<(p+1)*64 ^ m.length:=by
  intro m
  induction m with
  | nil=>intro p;simp
  |cons c m ih =>
   intro p;rw [List.foldl_cons,List.length_cons,Nat.pow_succ];refine Nat.lt_of_lt_of_le (ih _) ?_;have:p*64+c.toNat % 64+1<=(p+1)*64:=by omega
   calc (p*64+c.toNat % 64+1)*64 ^ m.length<=((p+1)*64)*64 ^ m.length:=Nat.mul_le_mul_right _ this
    _=(p+1)*(64 ^ m.length*64):=by rw [Nat.mul_assoc,Nat.mul_comm 64]
 exact Nat.lt_of_lt_of_le (key m p) (Nat.mul_le_mul_left _ (Nat.pow_le_pow_right (by omega) hk))
theorem vt (b o cap:Nat) (l:List UInt8) (c0:UInt8) (r:List UInt8) (w:World) (hl:l=c0::r) (hG:GOK w) (hb:b<w.heap.size)
  (hx:∀ i c,l[i]? = some c->w.cell? ⟨b,o+i,none⟩=some (Zi .u8 c.toNat)) (hcap:l.length<=cap) (hlen:l.length<=4194304) (hsz:aD c0.toNat=(5,192,2)) :
  Calls Tryz.prog 189 #[Zs (some ⟨b,o,none⟩) l.length cap] w λ e w'=>e=.returned (.tuple #[Zi Zq (bd l).1,Zi Zq (bd l).2])/\Below w.heap.size w w':=by
 have hc0:w.cell? ⟨b,o,none⟩=some (Zi .u8 c0.toNat):=hx 0 c0 (by rw [hl];rfl);have hlt:=c0.toNat_lt;have hpos:0<l.length:=by rw [hl];simp
 have hns:bd l=if l.length<2 then (0,0) else if bE l 1=false then (0,0) else if dp (cg l (c0.toNat % 2 ^ 5) 1)≠2 then (0,0) else (cg l (c0.toNat % 2 ^ 5) 1,2):=by
  subst hl;simp only [bd,List.headD_cons,hsz,bE,cg];simp
 have HL:=aW hl;have HS:=aW hns;have HZ:=aW hsz;have HX:=aW hx;clear hl hns hsz hx;by_cases hn:l.length<2
 ·rw [show bd l=(0,0) from by rw [HS.out,if_pos hn]];go_enter Tryz.func189,Tryz.ntmps189;go_wp2_with (go_at_call 199;refine (cZ _ _ hG (by omega)).mono ?_;rintro e w1 ⟨rfl,hb1⟩;rw [HZ.out];have hz1:=hb1.size;obtain ⟨hg,h0,h1⟩:=hG.keep hb1);go_ret2;exact ⟨rfl,(by repeat (first | exact hb1 | apply av | (refine Below.setCell ?_ (by first | (simp;done) | (simp;omega) | omega) _) | (refine Below.alloc ?_ (by first | (simp;done) | (simp;omega) | omega) _)))⟩
 ·have hnl:(2:Nat)<=l.length:=by omega
  have hcl:(2:Nat)<=cap:=by omega
  clear hn;go_enter Tryz.func189,Tryz.ntmps189;go_wp2_with (go_at_call 199;refine (cZ _ _ hG (by omega)).mono ?_;rintro e w1 ⟨rfl,hb1⟩;rw [HZ.out];have hz1:=hb1.size;obtain ⟨hg,h0,h1⟩:=hG.keep hb1;have hc1:w1.cell? ⟨b,o,none⟩=some (Zi .u8 c0.toNat):=(hb1.cell hb).trans hc0;have hsz:b<w1.heap.size:=Nat.lt_of_lt_of_le hb hb1.size);go_quiet (fail);go_wp2;have hm:bits BinOp.and IntKind.i64 (c0.toNat:Int) 31=((c0.toNat % 2 ^ 5:Nat):Int):=gN c0.toNat 5 (by omega) (by decide);go_loop [6,38] (λ p i => ∃ k:Nat,k<=1/\i=Zi Zq k/\p=Zi Zq (cg l (c0.toNat % 2 ^ 5) k)/\bE l k=true) (λ _ i=>1-(intOf i).toNat)
  case atStart=>exact ⟨0,by omega,rfl,by rw [hm];simp [cg],by simp [bE]⟩
  case round =>
   obtain ⟨k,hk,rfl,rfl,hok⟩:=hrel;clear hm;have hgl:=jh l (c0.toNat % 2 ^ 5) k;have hgb:cg l (c0.toNat % 2 ^ 5) k<8388608:=by
    refine Nat.lt_of_lt_of_le hgl ?_;have h1:64 ^ k<=64 ^ 1:=Nat.pow_le_pow_right (by omega) hk;have h2:c0.toNat % 2 ^ 5+1<=32:=by have:=Nat.mod_lt c0.toNat (show 0<2 ^ 5 by decide);omega
    calc (c0.toNat % 2 ^ 5+1)*64 ^ k<=32*64 ^ 1:=Nat.mul_le_mul h2 h1
     _<=8388608:=by decide
   clear hgl;have HO:=aW hok;clear hok;by_cases hk1:k<1
   ·obtain ⟨c,hc⟩:∃ c,l[k+1]? = some c:=⟨l[k+1]'(by omega),List.getElem?_eq_getElem _⟩
    have hck:w1.cell? ⟨b,o+1+k,none⟩=some (Zi .u8 c.toNat):=(hb1.cell hb).trans (by rw [Nat.add_assoc,Nat.add_comm 1 k];exact HX.out _ _ hc);have hG:=aW (fN (p:=c0.toNat % 2 ^ 5) hc);have hC:=aW (et hc);have HC:=aW hc;clear hc;have hlt2:=c.toNat_lt;obtain ⟨p,hp⟩:∃ p,cg l (c0.toNat % 2 ^ 5) k=p:=⟨_,rfl⟩
    rw [hp] at hgb hG ⊢;have HP:=aW hp;clear hp;have hj:=aW (jy p (c.toNat % 64) 6 (by omega) (by omega));go_wp2
    ·have hh:¬ c.toNat / 64=2:=by
      have h:=‹((c.toNat:Int) / 64 != 2)=true›;simp at h;omega
     go_ret2;refine ⟨?_,(by repeat (first | exact hb1 | apply av | (refine Below.setCell ?_ (by first | (simp;done) | (simp;omega) | omega) _) | (refine Below.alloc ?_ (by first | (simp;done) | (simp;omega) | omega) _)))⟩;have hf:bE l 1=false:=fs (k:=k+1) (by omega) (by rw [hC.out];simp [hh]);rw [HS.out,if_neg (by omega),if_pos hf];rfl
    ·have hh:c.toNat / 64=2:=by
      have h:=‹((c.toNat:Int) / 64 != 2)=false›;simp at h;omega
     go_round
     case rel=>exact ⟨k+1,by omega,by go_num,by rw [hG.out,← hj.out];go_num,by rw [hC.out,HO.out];simp [hh]⟩
     case measure=>simp [intOf];omega
   ·obtain rfl:k=1:=by omega
    obtain ⟨p,hp⟩:∃ p,cg l (c0.toNat % 2 ^ 5) 1=p:=⟨_,rfl⟩
    have HS2:Hid (bd l=if dp p≠2 then (0,0) else (p,2)):=by
     have:=HS.out;rw [if_neg (by omega),if_neg (by rw [HO.out];simp),hp] at this;exact this
    rw [hp] at hgb ⊢;clear hp;go_wp2_with (go_at_call 200;refine (gw _ _).mono ?_;rintro e w' ⟨rfl,rfl⟩)
    ·have hh:dp p≠2:=by
      have h:=‹(dC (p:Int) != 2)=true›;intro he;rw [(cX p 2).2 he] at h;simp at h
     go_ret2;exact ⟨by rw [HS2.out,if_pos hh];rfl,(by repeat (first | exact hb1 | apply av | (refine Below.setCell ?_ (by first | (simp;done) | (simp;omega) | omega) _) | (refine Below.alloc ?_ (by first | (simp;done) | (simp;omega) | omega) _)))⟩
    ·have hh:dp p=2:=by
      have h:=‹(dC (p:Int) != 2)=false›;exact (cX p 2).1 (by simpa using h)
     go_ret2;exact ⟨by rw [HS2.out,if_neg (by simp [hh])];rfl,(by repeat (first | exact hb1 | apply av | (refine Below.setCell ?_ (by first | (simp;done) | (simp;omega) | omega) _) | (refine Below.alloc ?_ (by first | (simp;done) | (simp;omega) | omega) _)))⟩
theorem uQ (b o cap:Nat) (l:List UInt8) (c0:UInt8) (r:List UInt8) (w:World) (hl:l=c0::r) (hG:GOK w) (hb:b<w.heap.size)
  (hx:∀ i c,l[i]? = some c->w.cell? ⟨b,o+i,none⟩=some (Zi .u8 c.toNat)) (hcap:l.length<=cap) (hlen:l.length<=4194304) (hsz:aD c0.toNat=(4,224,3)) :
  Calls Tryz.prog 189 #[Zs (some ⟨b,o,none⟩) l.length cap] w λ e w'=>e=.returned (.tuple #[Zi Zq (bd l).1,Zi Zq (bd l).2])/\Below w.heap.size w w':=by
 have hc0:w.cell? ⟨b,o,none⟩=some (Zi .u8 c0.toNat):=hx 0 c0 (by rw [hl];rfl);have hlt:=c0.toNat_lt;have hpos:0<l.length:=by rw [hl];simp
 have hns:bd l=if l.length<3 then (0,0) else if bE l 2=false then (0,0) else if dp (cg l (c0.toNat % 2 ^ 4) 2)≠3 then (0,0) else (cg l (c0.toNat % 2 ^ 4) 2,3):=by
  subst hl;simp only [bd,List.headD_cons,hsz,bE,cg];simp
 have HL:=aW hl;have HS:=aW hns;have HZ:=aW hsz;have HX:=aW hx;clear hl hns hsz hx;by_cases hn:l.length<3
 ·rw [show bd l=(0,0) from by rw [HS.out,if_pos hn]];go_enter Tryz.func189,Tryz.ntmps189;go_wp2_with (go_at_call 199;refine (cZ _ _ hG (by omega)).mono ?_;rintro e w1 ⟨rfl,hb1⟩;rw [HZ.out];have hz1:=hb1.size;obtain ⟨hg,h0,h1⟩:=hG.keep hb1);go_ret2;exact ⟨rfl,(by repeat (first | exact hb1 | apply av | (refine Below.setCell ?_ (by first | (simp;done) | (simp;omega) | omega) _) | (refine Below.alloc ?_ (by first | (simp;done) | (simp;omega) | omega) _)))⟩
 ·have hnl:(3:Nat)<=l.length:=by omega
  have hcl:(3:Nat)<=cap:=by omega
  clear hn;go_enter Tryz.func189,Tryz.ntmps189;go_wp2_with (go_at_call 199;refine (cZ _ _ hG (by omega)).mono ?_;rintro e w1 ⟨rfl,hb1⟩;rw [HZ.out];have hz1:=hb1.size;obtain ⟨hg,h0,h1⟩:=hG.keep hb1;have hc1:w1.cell? ⟨b,o,none⟩=some (Zi .u8 c0.toNat):=(hb1.cell hb).trans hc0;have hsz:b<w1.heap.size:=Nat.lt_of_lt_of_le hb hb1.size);go_quiet (fail);go_wp2;have hm:bits BinOp.and IntKind.i64 (c0.toNat:Int) 15=((c0.toNat % 2 ^ 4:Nat):Int):=gN c0.toNat 4 (by omega) (by decide);go_loop [6,38] (λ p i => ∃ k:Nat,k<=2/\i=Zi Zq k/\p=Zi Zq (cg l (c0.toNat % 2 ^ 4) k)/\bE l k=true) (λ _ i=>2-(intOf i).toNat)
  case atStart=>exact ⟨0,by omega,rfl,by rw [hm];simp [cg],by simp [bE]⟩
  case round =>
   obtain ⟨k,hk,rfl,rfl,hok⟩:=hrel;clear hm;have hgl:=jh l (c0.toNat % 2 ^ 4) k;have hgb:cg l (c0.toNat % 2 ^ 4) k<8388608:=by
    refine Nat.lt_of_lt_of_le hgl ?_;have h1:64 ^ k<=64 ^ 2:=Nat.pow_le_pow_right (by omega) hk;have h2:c0.toNat % 2 ^ 4+1<=16:=by have:=Nat.mod_lt c0.toNat (show 0<2 ^ 4 by decide);omega
    calc (c0.toNat % 2 ^ 4+1)*64 ^ k<=16*64 ^ 2:=Nat.mul_le_mul h2 h1
     _<=8388608:=by decide
   clear hgl;have HO:=aW hok;clear hok;by_cases hk1:k<2
   ·obtain ⟨c,hc⟩:∃ c,l[k+1]? = some c:=⟨l[k+1]'(by omega),List.getElem?_eq_getElem _⟩
    have hck:w1.cell? ⟨b,o+1+k,none⟩=some (Zi .u8 c.toNat):=(hb1.cell hb).trans (by rw [Nat.add_assoc,Nat.add_comm 1 k];exact HX.out _ _ hc);have hG:=aW (fN (p:=c0.toNat % 2 ^ 4) hc);have hC:=aW (et hc);have HC:=aW hc;clear hc;have hlt2:=c.toNat_lt;obtain ⟨p,hp⟩:∃ p,cg l (c0.toNat % 2 ^ 4) k=p:=⟨_,rfl⟩
    rw [hp] at hgb hG ⊢;have HP:=aW hp;clear hp;have hj:=aW (jy p (c.toNat % 64) 6 (by omega) (by omega));go_wp2
    ·have hh:¬ c.toNat / 64=2:=by
      have h:=‹((c.toNat:Int) / 64 != 2)=true›;simp at h;omega
     go_ret2;refine ⟨?_,(by repeat (first | exact hb1 | apply av | (refine Below.setCell ?_ (by first | (simp;done) | (simp;omega) | omega) _) | (refine Below.alloc ?_ (by first | (simp;done) | (simp;omega) | omega) _)))⟩;have hf:bE l 2=false:=fs (k:=k+1) (by omega) (by rw [hC.out];simp [hh]);rw [HS.out,if_neg (by omega),if_pos hf];rfl
    ·have hh:c.toNat / 64=2:=by
      have h:=‹((c.toNat:Int) / 64 != 2)=false›;simp at h;omega
     go_round
     case rel=>exact ⟨k+1,by omega,by go_num,by rw [hG.out,← hj.out];go_num,by rw [hC.out,HO.out];simp [hh]⟩
     case measure=>simp [intOf];omega
   ·obtain rfl:k=2:=by omega
    obtain ⟨p,hp⟩:∃ p,cg l (c0.toNat % 2 ^ 4) 2=p:=⟨_,rfl⟩
    have HS2:Hid (bd l=if dp p≠3 then (0,0) else (p,3)):=by
     have:=HS.out;rw [if_neg (by omega),if_neg (by rw [HO.out];simp),hp] at this;exact this
    rw [hp] at hgb ⊢;clear hp;go_wp2_with (go_at_call 200;refine (gw _ _).mono ?_;rintro e w' ⟨rfl,rfl⟩)
    ·have hh:dp p≠3:=by
      have h:=‹(dC (p:Int) != 3)=true›;intro he;rw [(cX p 3).2 he] at h;simp at h
     go_ret2;exact ⟨by rw [HS2.out,if_pos hh];rfl,(by repeat (first | exact hb1 | apply av | (refine Below.setCell ?_ (by first | (simp;done) | (simp;omega) | omega) _) | (refine Below.alloc ?_ (by first | (simp;done) | (simp;omega) | omega) _)))⟩
    ·have hh:dp p=3:=by
      have h:=‹(dC (p:Int) != 3)=false›;exact (cX p 3).1 (by simpa using h)
     go_ret2;exact ⟨by rw [HS2.out,if_neg (by simp [hh])];rfl,(by repeat (first | exact hb1 | apply av | (refine Below.setCell ?_ (by first | (simp;done) | (simp;omega) | omega) _) | (refine Below.alloc ?_ (by first | (simp;done) | (simp;omega) | omega) _)))⟩
theorem uC (b o cap:Nat) (l:List UInt8) (c0:UInt8) (r:List UInt8) (w:World) (hl:l=c0::r) (hG:GOK w) (hb:b<w.heap.size)
  (hx:∀ i c,l[i]? = some c->w.cell? ⟨b,o+i,none⟩=some (Zi .u8 c.toNat)) (hcap:l.length<=cap) (hlen:l.length<=4194304) (hsz:aD c0.toNat=(3,240,4)) :
  Calls Tryz.prog 189 #[Zs (some ⟨b,o,none⟩) l.length cap] w λ e w'=>e=.returned (.tuple #[Zi Zq (bd l).1,Zi Zq (bd l).2])/\Below w.heap.size w w':=by
 have hc0:w.cell? ⟨b,o,none⟩=some (Zi .u8 c0.toNat):=hx 0 c0 (by rw [hl];rfl);have hlt:=c0.toNat_lt;have hpos:0<l.length:=by rw [hl];simp
 have hns:bd l=if l.length<4 then (0,0) else if bE l 3=false then (0,0) else if dp (cg l (c0.toNat % 2 ^ 3) 3)≠4 then (0,0) else (cg l (c0.toNat % 2 ^ 3) 3,4):=by
  subst hl;simp only [bd,List.headD_cons,hsz,bE,cg];simp
 have HL:=aW hl;have HS:=aW hns;have HZ:=aW hsz;have HX:=aW hx;clear hl hns hsz hx;by_cases hn:l.length<4
 ·rw [show bd l=(0,0) from by rw [HS.out,if_pos hn]];go_enter Tryz.func189,Tryz.ntmps189;go_wp2_with (go_at_call 199;refine (cZ _ _ hG (by omega)).mono ?_;rintro e w1 ⟨rfl,hb1⟩;rw [HZ.out];have hz1:=hb1.size;obtain ⟨hg,h0,h1⟩:=hG.keep hb1);go_ret2;exact ⟨rfl,(by repeat (first | exact hb1 | apply av | (refine Below.setCell ?_ (by first | (simp;done) | (simp;omega) | omega) _) | (refine Below.alloc ?_ (by first | (simp;done) | (simp;omega) | omega) _)))⟩
 ·have hnl:(4:Nat)<=l.length:=by omega
  have hcl:(4:Nat)<=cap:=by omega
  clear hn;go_enter Tryz.func189,Tryz.ntmps189;go_wp2_with (go_at_call 199;refine (cZ _ _ hG (by omega)).mono ?_;rintro e w1 ⟨rfl,hb1⟩;rw [HZ.out];have hz1:=hb1.size;obtain ⟨hg,h0,h1⟩:=hG.keep hb1;have hc1:w1.cell? ⟨b,o,none⟩=some (Zi .u8 c0.toNat):=(hb1.cell hb).trans hc0;have hsz:b<w1.heap.size:=Nat.lt_of_lt_of_le hb hb1.size);go_quiet (fail);go_wp2;have hm:bits BinOp.and IntKind.i64 (c0.toNat:Int) 7=((c0.toNat % 2 ^ 3:Nat):Int):=gN c0.toNat 3 (by omega) (by decide);go_loop [6,38] (λ p i => ∃ k:Nat,k<=3/\i=Zi Zq k/\p=Zi Zq (cg l (c0.toNat % 2 ^ 3) k)/\bE l k=true) (λ _ i=>3-(intOf i).toNat)
  case atStart=>exact ⟨0,by omega,rfl,by rw [hm];simp [cg],by simp [bE]⟩
  case round =>
   obtain ⟨k,hk,rfl,rfl,hok⟩:=hrel;clear hm;have hgl:=jh l (c0.toNat % 2 ^ 3) k;have hgb:cg l (c0.toNat % 2 ^ 3) k<8388608:=by
    refine Nat.lt_of_lt_of_le hgl ?_;have h1:64 ^ k<=64 ^ 3:=Nat.pow_le_pow_right (by omega) hk;have h2:c0.toNat % 2 ^ 3+1<=8:=by have:=Nat.mod_lt c0.toNat (show 0<2 ^ 3 by decide);omega
    calc (c0.toNat % 2 ^ 3+1)*64 ^ k<=8*64 ^ 3:=Nat.mul_le_mul h2 h1
     _<=8388608:=by decide
   clear hgl;have HO:=aW hok;clear hok;by_cases hk1:k<3
   ·obtain ⟨c,hc⟩:∃ c,l[k+1]? = some c:=⟨l[k+1]'(by omega),List.getElem?_eq_getElem _⟩
    have hck:w1.cell? ⟨b,o+1+k,none⟩=some (Zi .u8 c.toNat):=(hb1.cell hb).trans (by rw [Nat.add_assoc,Nat.add_comm 1 k];exact HX.out _ _ hc);have hG:=aW (fN (p:=c0.toNat % 2 ^ 3) hc);have hC:=aW (et hc);have HC:=aW hc;clear hc;have hlt2:=c.toNat_lt;obtain ⟨p,hp⟩:∃ p,cg l (c0.toNat % 2 ^ 3) k=p:=⟨_,rfl⟩
    rw [hp] at hgb hG ⊢;have HP:=aW hp;clear hp;have hj:=aW (jy p (c.toNat % 64) 6 (by omega) (by omega));go_wp2
    ·have hh:¬ c.toNat / 64=2:=by
      have h:=‹((c.toNat:Int) / 64 != 2)=true›;simp at h;omega
     go_ret2;refine ⟨?_,(by repeat (first | exact hb1 | apply av | (refine Below.setCell ?_ (by first | (simp;done) | (simp;omega) | omega) _) | (refine Below.alloc ?_ (by first | (simp;done) | (simp;omega) | omega) _)))⟩;have hf:bE l 3=false:=fs (k:=k+1) (by omega) (by rw [hC.out];simp [hh]);rw [HS.out,if_neg (by omega),if_pos hf];rfl
    ·have hh:c.toNat / 64=2:=by
      have h:=‹((c.toNat:Int) / 64 != 2)=false›;simp at h;omega
     go_round
     case rel=>exact ⟨k+1,by omega,by go_num,by rw [hG.out,← hj.out];go_num,by rw [hC.out,HO.out];simp [hh]⟩
     case measure=>simp [intOf];omega
   ·obtain rfl:k=3:=by omega
    obtain ⟨p,hp⟩:∃ p,cg l (c0.toNat % 2 ^ 3) 3=p:=⟨_,rfl⟩
    have HS2:Hid (bd l=if dp p≠4 then (0,0) else (p,4)):=by
     have:=HS.out;rw [if_neg (by omega),if_neg (by rw [HO.out];simp),hp] at this;exact this
    rw [hp] at hgb ⊢;clear hp;go_wp2_with (go_at_call 200;refine (gw _ _).mono ?_;rintro e w' ⟨rfl,rfl⟩)
    ·have hh:dp p≠4:=by
      have h:=‹(dC (p:Int) != 4)=true›;intro he;rw [(cX p 4).2 he] at h;simp at h
     go_ret2;exact ⟨by rw [HS2.out,if_pos hh];rfl,(by repeat (first | exact hb1 | apply av | (refine Below.setCell ?_ (by first | (simp;done) | (simp;omega) | omega) _) | (refine Below.alloc ?_ (by first | (simp;done) | (simp;omega) | omega) _)))⟩
    ·have hh:dp p=4:=by
      have h:=‹(dC (p:Int) != 4)=false›;exact (cX p 4).1 (by simpa using h)
     go_ret2;exact ⟨by rw [HS2.out,if_neg (by simp [hh])];rfl,(by repeat (first | exact hb1 | apply av | (refine Below.setCell ?_ (by first | (simp;done) | (simp;omega) | omega) _) | (refine Below.alloc ?_ (by first | (simp;done) | (simp;omega) | omega) _)))⟩
theorem un (b o cap:Nat) (l:List UInt8) (c0:UInt8) (r:List UInt8) (w:World) (hl:l=c0::r) (hG:GOK w) (hb:b<w.heap.size)
  (hx:∀ i c,l[i]? = some c->w.cell? ⟨b,o+i,none⟩=some (Zi .u8 c.toNat)) (hcap:l.length<=cap) (hlen:l.length<=4194304) (hsz:aD c0.toNat=(7,0,1)) :
  Calls Tryz.prog 189 #[Zs (some ⟨b,o,none⟩) l.length cap] w λ e w'=>e=.returned (.tuple #[Zi Zq (bd l).1,Zi Zq (bd l).2])/\Below w.heap.size w w':=by
 have hc0:w.cell? ⟨b,o,none⟩=some (Zi .u8 c0.toNat):=hx 0 c0 (by rw [hl];rfl);have hlt:=c0.toNat_lt;have hpos:0<l.length:=by rw [hl];simp
 have h128:c0.toNat / 128=0:=by
  simp only [aD] at hsz;by_cases h:c0.toNat / 128=0
  ·exact h
  ·rw [if_neg h] at hsz;repeat' split at hsz
   all_goals simp at hsz
 have hns:bd l=(c0.toNat,1):=by
  rw [oe l (by rw [hl];simp)];subst hl;rw [fB ((ok1 _ _).2 (by omega))];simp [aQ]
 have HZ:=aW hsz;have h7:c0.toNat<128:=by omega
 rw [hns];clear hl hns hsz hx h128;have hm:bits BinOp.and IntKind.i64 (c0.toNat:Int) 127=(c0.toNat:Int):=by
  rw [show (127:Int)=((2 ^ 7-1:Nat):Int) from rfl,gN c0.toNat 7 (by omega) (by decide)];omega
 have HM:=aW hm;clear hm;go_enter Tryz.func189,Tryz.ntmps189;go_wp2_with (go_at_call 199;refine (cZ _ _ hG (by omega)).mono ?_;rintro e w1 ⟨rfl,hb1⟩;rw [HZ.out];have hz1:=hb1.size;obtain ⟨hg,h0,h1⟩:=hG.keep hb1;have hc1:w1.cell? ⟨b,o,none⟩=some (Zi .u8 c0.toNat):=(hb1.cell hb).trans hc0;have hsz:b<w1.heap.size:=Nat.lt_of_lt_of_le hb hb1.size);have HC:=aW (show dC (c0.toNat:Int)=1 from (cX c0.toNat 1).2 ((cE _ _).2 (by omega)));go_quiet (fail);go_wp2
 all_goals
  refine wp_loop_rounds 1 ?_;rw [rounds_succ,HM.out];go_wp2_with (go_at_call 200;refine (gw _ _).mono ?_;rintro e w' ⟨rfl,rfl⟩;rw [HC.out]);go_ret2;exact ⟨rfl,(by repeat (first | exact hb1 | apply av | (refine Below.setCell ?_ (by first | (simp;done) | (simp;omega) | omega) _) | (refine Below.alloc ?_ (by first | (simp;done) | (simp;omega) | omega) _)))⟩
theorem uG (b o cap:Nat) (l:List UInt8) (c0:UInt8) (r:List UInt8) (w:World) (hl:l=c0::r) (hG:GOK w) (hb:b<w.heap.size)
  (hx:∀ i c,l[i]? = some c->w.cell? ⟨b,o+i,none⟩=some (Zi .u8 c.toNat)) (hsz:aD c0.toNat=(0,0,0)) :
  Calls Tryz.prog 189 #[Zs (some ⟨b,o,none⟩) l.length cap] w λ e w'=>e=.returned (.tuple #[Zi Zq (bd l).1,Zi Zq (bd l).2])/\Below w.heap.size w w':=by
 have hc0:w.cell? ⟨b,o,none⟩=some (Zi .u8 c0.toNat):=hx 0 c0 (by rw [hl];rfl);have hlt:=c0.toNat_lt;have hpos:0<l.length:=by rw [hl];simp
 have hns:bd l=(0,0):=by
  subst hl;simp [bd,hsz]
 have HZ:=aW hsz;rw [hns];clear hl hns hsz hx;go_enter Tryz.func189,Tryz.ntmps189;go_wp2_with (go_at_call 199;refine (cZ _ _ hG (by omega)).mono ?_;rintro e w1 ⟨rfl,hb1⟩;rw [HZ.out];have hz1:=hb1.size;obtain ⟨hg,h0,h1⟩:=hG.keep hb1);go_ret2;exact ⟨rfl,(by repeat (first | exact hb1 | apply av | (refine Below.setCell ?_ (by first | (simp;done) | (simp;omega) | omega) _) | (refine Below.alloc ?_ (by first | (simp;done) | (simp;omega) | omega) _)))⟩
theorem nQ (b o cap:Nat) (l:List UInt8) (w:World) (hl:l≠[]) (hG:GOK w) (hb:b<w.heap.size)
  (hx:∀ i c,l[i]? = some c->w.cell? ⟨b,o+i,none⟩=some (Zi .u8 c.toNat)) (hcap:l.length<=cap) (hlen:l.length<=4194304) :
  Calls Tryz.prog 189 #[Zs (some ⟨b,o,none⟩) l.length cap] w λ e w'=>e=.returned (.tuple #[Zi Zq (am l).1,Zi Zq (am l).2])/\Below w.heap.size w w':=by
 rw [← oe l hl];obtain ⟨c0,r,hr⟩:=List.exists_cons_of_ne_nil hl;have hs:aD c0.toNat=(7,0,1)∨aD c0.toNat=(5,192,2)∨aD c0.toNat=(4,224,3)∨aD c0.toNat=(3,240,4)∨aD c0.toNat=(0,0,0):=by
  unfold aD;repeat' split
  all_goals simp
 rcases hs with h | h | h | h | h
 ·exact un b o cap l c0 r w hr hG hb hx hcap hlen h
 ·exact vt b o cap l c0 r w hr hG hb hx hcap hlen h
 ·exact uQ b o cap l c0 r w hr hG hb hx hcap hlen h
 ·exact uC b o cap l c0 r w hr hG hb hx hcap hlen h
 ·exact uG b o cap l c0 r w hr hG hb hx h
def xA (l:List UInt8) (at_:Int):Int × Int × Int :=
 if at_<0∨(l.length:Int)<at_ then (0,0,2) else if at_=l.length then (0,0,6)
 else if (am (l.drop at_.toNat)).2=0 then (0,0,110) else ((am (l.drop at_.toNat)).1,at_+(am (l.drop at_.toNat)).2,0)
end Go.Proofs.YtgolomgmnanbpaaGreatDoor
namespace Go.Proofs.YtgolomgmnanbpaaGreatDoor
open Go.RowKit
attribute [local go_sem] aa ac ae ab
theorem pT (p:Int) (w:World):Calls Tryz.prog 137 #[.int .i64 p] w λ e w'=>e=.returned (.bool (eC p))/\w=w':=by
 obtain ⟨b,hb⟩:∃ b,eC p=b:=⟨_,rfl⟩
 rw [hb];have HB:=aW hb;clear hb;go_enter Tryz.func137,Tryz.ntmps137;go_wp2
 all_goals
  go_ret;refine ⟨ap ?_,rfl⟩;rw [← HB.out,eC,Bool.eq_iff_iff];simp only [decide_eq_true_eq,Bool.true_eq,Bool.false_eq_true,false_iff,true_iff,iff_true,iff_false,Bool.not_eq_true',decide_eq_false_iff_not,Bool.not_true,Bool.not_false]
  try omega
def xU (l:List UInt8) (w:World) (e:Ending) (w':World):Prop:=∃ v,e=.returned v/\BS w' v l/\Below w.heap.size w w'
theorem BS.lit (w:World) (l:List UInt8) (cs:Array Value) (h:cs=(al l).toArray) (n:Nat) (hn:n=l.length):BS (w.alloc (.cells cs 5)) (.slice (some ⟨w.heap.size,0,none⟩) n n) l:=by
 subst h hn;refine ⟨_,_,rfl,Nat.le_refl _,?_⟩;have:=Rd.of_blk (Blk.new w 5 (al l).toArray);simpa using this
theorem jU (p:Int) (w:World) (h0:0<=p) (h1:p<=1114111):Calls Tryz.prog 138 #[.int .i64 p] w (xU (ai p.toNat) w):=by
 obtain ⟨l,hl⟩:∃ l,ai p.toNat=l:=⟨_,rfl⟩
 rw [hl];have HL:=aW hl;clear hl;go_enter Tryz.func138,Tryz.ntmps138;go_wp2
 ·go_ret;have e:ai p.toNat=[UInt8.ofNat p.toNat]:=by unfold ai;rw [if_pos (by omega)]
  rw [HL.out] at e;subst e;refine ⟨_,rfl,BS.lit w _ _ (by simp [al];omega) _ rfl,(Below.refl _ w).alloc (Nat.le_refl _) _⟩
 ·go_ret;have e:ai p.toNat=[UInt8.ofNat (192+p.toNat / 64),UInt8.ofNat (128+p.toNat % 64)]:=by unfold ai;rw [if_neg (by omega),if_pos (by omega)]
  rw [HL.out] at e;subst e;refine ⟨_,rfl,BS.lit w _ _ (by simp [al];omega) _ rfl,(Below.refl _ w).alloc (Nat.le_refl _) _⟩
 ·go_ret;have e:ai p.toNat=[UInt8.ofNat (224+p.toNat / 4096),UInt8.ofNat (128+p.toNat / 64 % 64),UInt8.ofNat (128+p.toNat % 64)]:=by unfold ai;rw [if_neg (by omega),if_neg (by omega),if_pos (by omega)]
  rw [HL.out] at e;subst e;refine ⟨_,rfl,BS.lit w _ _ (by simp [al];omega) _ rfl,(Below.refl _ w).alloc (Nat.le_refl _) _⟩
 ·go_ret;have e:ai p.toNat=[UInt8.ofNat (240+p.toNat / 262144),UInt8.ofNat (128+p.toNat / 4096 % 64),UInt8.ofNat (128+p.toNat / 64 % 64),UInt8.ofNat (128+p.toNat % 64)]:=by unfold ai;rw [if_neg (by omega),if_neg (by omega),if_neg (by omega)]
  rw [HL.out] at e;subst e;refine ⟨_,rfl,BS.lit w _ _ (by simp [al];omega) _ rfl,(Below.refl _ w).alloc (Nat.le_refl _) _⟩
theorem BS.at_ {w:World} {b o n cap:Nat} {l:List UInt8} (h:Rd w (some ⟨b,o,none⟩) (al l)) {k:Nat} {c:UInt8} (hc:l[k]? = some c):w.cell? ⟨b,o+k,none⟩=some (.int .u8 c.toNat):=by
 obtain ⟨hlt,e⟩:=List.getElem?_eq_some_iff.1 hc;obtain ⟨b',o',e2,_,hx⟩:=h (by intro e;have h3:=bJ l;rw [e,List.length_nil] at h3;omega);obtain ⟨rfl,rfl⟩:b=b'/\o=o':=by simpa using e2
 rw [hx k (by rw [bJ];exact hlt)];simp [al,e]
theorem Rd.some_ {w:World} {A:Option Addr} {l:List UInt8} (h:Rd w A (al l)) (hl:0<l.length):∃ b o,A=some ⟨b,o,none⟩/\b<w.heap.size:=by
 obtain ⟨b,o,e,hb,_⟩:=h (by intro e;have h3:=bJ l;rw [e,List.length_nil] at h3;omega);exact ⟨b,o,e,hb⟩
theorem iZ (v1 v2:Value) (l1 l2:List UInt8) (w:World) (h1:BS w v1 l1) (h2:BS w v2 l2) (hl1:l1.length<=4194304) (hl2:l2.length<=4194304) :
  Calls Tryz.prog 139 #[v1,v2] w λ e w'=>e=.returned (.bool (decide (l1.take l2.length=l2)))/\∃ q,w.drewN q=w':=by
 obtain ⟨A1,c1,rfl,hc1,hr1⟩:=h1;obtain ⟨A2,c2,rfl,hc2,hr2⟩:=h2;obtain ⟨bb,hbb⟩:∃ b,decide (l1.take l2.length=l2)=b:=⟨_,rfl⟩
 rw [hbb];have HB:=aW hbb;by_cases hlen:l1.length<l2.length
 ·have HF:=aW (show bb=false by rw [← hbb,decide_eq_false_iff_not];intro e;have:=congrArg List.length e;simp at this;omega);clear hbb;go_enter Tryz.func139,Tryz.ntmps139;go_wp2;go_ret;exact ⟨ap HF.out.symm,0,rfl⟩
 ·obtain ⟨n1,hn1⟩:∃ n,l1.length=n:=⟨_,rfl⟩
  obtain ⟨n2,hn2⟩:∃ n,l2.length=n:=⟨_,rfl⟩
  rw [hn1] at hl1 hlen ⊢;rw [hn2] at hl2 hlen ⊢;have H1:=aW hn1;have H2:=aW hn2;clear hbb hn1 hn2 hc1 hc2;go_enter Tryz.func139,Tryz.ntmps139;go_wp2;go_loopg [5] n2 (λ gk i wr => ∃ k q:Nat,k<=n2/\gk=n2-k/\i=.int .i64 k/\wr=w.drewN q/\l1.take k=l2.take k)
  case atStart=>exact ⟨0,0,Nat.zero_le _,rfl,rfl,rfl,rfl⟩
  case round =>
   obtain ⟨k,q,hk,hgk,rfl,rfl,heq⟩:=hrel;have HG:=aW hgk;have HE:=aW heq;clear hgk heq;by_cases hlt:k<n2
   ·obtain ⟨x,hx⟩:∃ x,l1[k]? = some x:=⟨_,List.getElem?_eq_getElem (by rw [H1.out];omega)⟩
    obtain ⟨y,hy⟩:∃ x,l2[k]? = some x:=⟨_,List.getElem?_eq_getElem (by rw [H2.out];exact hlt)⟩
    obtain ⟨b1,o1,rfl,hb1⟩:=hr1.some_ (by rw [H1.out];omega);obtain ⟨b2,o2,rfl,hb2⟩:=hr2.some_ (by rw [H2.out];omega);have p1:=BS.at_ (n:=0) (cap:=0) hr1 hx;have p2:=BS.at_ (n:=0) (cap:=0) hr2 hy;have HX:=aW hx;have HY:=aW hy;clear hx hy;by_cases hxy:x=y
    ·subst hxy;go_wp2;go_quiet (fail);go_wp2;go_roundg (n2-(k+1))
     case measure=>rw [HG.out];omega
     case rel=>exact ⟨k+1,q+nq,hlt,rfl,by go_num,rfl,by rw [List.take_add_one,List.take_add_one,HE.out,HX.out,HY.out]⟩
    ·have hne:((x.toNat:Int) != (y.toNat:Int))=true:=by
      have:x.toNat≠y.toNat:=λ e=>hxy (UInt8.toNat_inj.1 e)
      simp;omega
     have HF:=aW (show bb=false by
      rw [← HB.out,decide_eq_false_iff_not];intro e;have h1:=HY.out;rw [← e,List.getElem?_take,if_pos (by rw [H2.out];exact hlt),HX.out] at h1;exact hxy (Option.some.inj h1))
     go_wp2;go_quiet (fail);go_wp2;go_ret;exact ⟨ap HF.out.symm,q+nq,(World.drewN_drewN _ _ _).symm⟩
   ·obtain rfl:k=n2:=by omega
    have HF:=aW (show bb=true by
     rw [← HB.out,decide_eq_true_eq,H2.out,HE.out,List.take_of_length_le (by rw [H2.out];exact Nat.le_refl _)])
    go_wp2;go_ret;exact ⟨ap HF.out.symm,q,rfl⟩
end Go.Proofs.YtgolomgmnanbpaaGreatDoor
namespace Go.Proofs.YtgolomgmnanbpaaGreatDoor
open Go.RowKit
attribute [local go_sem] aa ac ae ab
def p7 (n:Nat):Nat:=if n=1 then 256 else if n=2 then 32 else if n=3 then 16 else 8
def b8 (l:List UInt8) (n:Nat):Nat:=(l.headD 0).toNat % p7 n
theorem o9 (l:List UInt8) (n:Nat) (h1:1<=n) (h4:n<=4):aQ l n=cg l (b8 l n) (n-1):=by
 rcases (by omega:n=1∨n=2∨n=3∨n=4) with rfl | rfl | rfl | rfl<;>rfl
theorem kJ {l:List UInt8} (h:∀ m,1<=m->m<5->bi l m=false):am l=(0,0) :=
 cS (h 1 (by omega) (by omega)) (h 2 (by omega) (by omega)) (h 3 (by omega) (by omega)) (h 4 (by omega) (by omega))
theorem l7 {l:List UInt8} {n:Nat} (h1:1<=n) (h4:n<=4) (h:∀ m,1<=m->m<n->bi l m=false) (hn:bi l n=true):am l=(aQ l n,n):=by
 rcases (by omega:n=1∨n=2∨n=3∨n=4) with rfl | rfl | rfl | rfl
 ·exact fB hn
 ·exact jn (h 1 (by omega) (by omega)) hn
 ·exact jp (h 1 (by omega) (by omega)) (h 2 (by omega) (by omega)) hn
 ·exact jd (h 1 (by omega) (by omega)) (h 2 (by omega) (by omega)) (h 3 (by omega) (by omega)) hn
def qK (r:Nat × Nat) (w:World) (e:Ending) (w':World):Prop:=e=.returned (.tuple #[.int .i64 r.1,.int .i64 r.2])/\Below w.heap.size w w'
theorem jH (v:Value) (l:List UInt8) (w:World) (hv:BS w v l) (hl:l.length<=4194304):Calls Tryz.prog 89 #[v] w (qK (am l) w):=by
 obtain ⟨A,cap,rfl,hcap,hr⟩:=hv;obtain ⟨r,hr0⟩:∃ r,am l=r:=⟨_,rfl⟩
 rw [hr0];have HR0:=aW hr0;clear hr0;go_enter Tryz.func89,Tryz.ntmps89;go_wp2;go_loopg [4] 5 (λ gk s4 wr => ∃ n:Nat,1<=n/\n<=5/\gk=6-n/\s4=.int .i64 n/\Below w.heap.size w wr/\Hid (∀ m,1<=m->m<n->bi l m=false))
 case atStart=>exact ⟨1,by omega,by omega,rfl,rfl,Below.refl _ _,aW (by intro m h1 h2;omega)⟩
 case round =>
  obtain ⟨n,hn1,hn5,hgk,rfl,hb,HNO⟩:=hrel;have HG:=aW hgk;clear hgk;by_cases hdone:n<=4/\n<=l.length
  ·obtain ⟨hn4,hnl⟩:=hdone;obtain ⟨b,o,rfl,hbb⟩:=hr.some_ (by omega);have hrw:Rd wr (some ⟨b,o,none⟩) (al l):=hr.below hb;have hbw:b<wr.heap.size:=Nat.lt_of_lt_of_le hbb hb.size;obtain ⟨c0,hc0⟩:∃ c,l[0]? = some c:=⟨_,List.getElem?_eq_getElem (by omega)⟩
   have hx0:=BS.at_ (n:=0) (cap:=0) hrw hc0;rw [Nat.add_zero] at hx0;have hhd:l.headD 0=c0:=by cases l with | nil=>simp at hc0 | cons x y=>simpa using hc0
   have HRW:=aW hrw;have hfb:b8 l n=c0.toNat % p7 n:=by unfold b8;rw [hhd]
   have HF:=aW hfb;have hb0:=c0.toNat_lt;clear hrw hc0 hhd hfb;go_upto_if 23 with fail;go_cut [5] (λ s5 wx=>s5=.int .i64 (b8 l n)/\Below wr.heap.size wr wx)
   case first =>
    rcases (by omega:n=1∨n=2∨n=3∨n=4) with rfl | rfl | rfl | rfl
    ·go_wp2;go_meet
     case rel=>exact ⟨by rw [HF.out];simp [p7];try omega,Below.refl _ _⟩
    all_goals
     go_wp2
     go_region
     all_goals
      go_wp2;go_meet
      case rel=>exact ⟨by rw [HF.out];simp [p7],by go_grown⟩
   case rest =>
    obtain ⟨rfl,hbx⟩:=hcut;obtain ⟨wo,rfl⟩:∃ wo:World,wo=wr:=⟨_,rfl⟩
    have hbc:Below w.heap.size w wc:=hb.trans (hbx.mono hb.size);have hbwc:b<wc.heap.size:=Nat.lt_of_lt_of_le hbb hbc.size;have HRC:=aW (hr.below hbc);have hbig:∀ k,k<=3->cg l (b8 l n) k<67108864:=λ k hk=>by
     have h1:=jh l (b8 l n) k;have h2:b8 l n<256:=by rw [HF.out];exact Nat.lt_of_le_of_lt (Nat.mod_le _ _) hb0
     have h3:(64:Nat) ^ k<=64 ^ 3:=Nat.pow_le_pow_right (by omega) hk;have h4:(b8 l n+1)*64 ^ k<=256*64 ^ 3:=Nat.mul_le_mul (by omega) h3;omega
    have HBIG:=aW hbig;clear hbig hx0 HRW;have hf0:cg l (b8 l n) 0=b8 l n:=by simp [cg]
    have HF0:=aW hf0;clear hf0;go_wp2;go_loopg [5,6] n (λ gk s5 s6 wx => ∃ k:Nat,1<=k/\k<=n/\gk=n+1-k/\s6=.int .i64 k/\s5=.int .i64 (cg l (b8 l n) (k-1))/\wx=wc)
    case atStart=>exact ⟨1,by omega,hn1,by omega,rfl,by rw [show 1-1=0 from rfl,HF0.out],rfl⟩
    case round =>
     obtain ⟨k,hk1,hkn,hgk2,rfl,rfl,rfl⟩:=hrel;have HG2:=aW hgk2;clear hgk2;have hP:=HBIG.out (k-1) (by omega);by_cases hlt:k<n
     ·obtain ⟨c,hc⟩:∃ c,l[k]? = some c:=⟨_,List.getElem?_eq_getElem (by omega)⟩
      have hx:=BS.at_ (n:=0) (cap:=0) HRC.out hc;have hg:=fN (p:=b8 l n) (show l[k-1+1]? = some c by rw [show k-1+1=k from by omega];exact hc);obtain ⟨P,hPe⟩:∃ P,cg l (b8 l n) (k-1)=P:=⟨_,rfl⟩
      rw [hPe] at hg hP ⊢;have HGS:=aW hg;have hcb:=c.toNat_lt;clear hc hg hPe;go_wp2;go_roundg (n+1-(k+1))
      case measure=>rw [HG2.out];omega
      case rel=>exact ⟨k+1,by omega,hlt,rfl,by go_num,by rw [show k+1-1=k-1+1 from by omega,HGS.out];go_num,rfl⟩
     ·obtain rfl:k=n:=by omega
      obtain ⟨P,hPe⟩:∃ P,cg l (b8 l k) (k-1)=P:=⟨_,rfl⟩
      have hnum:aQ l k=P:=by rw [o9 l k hk1 hn4,hPe]
      rw [hPe] at hP ⊢;have HN:=aW hnum;clear hPe hlt hnum;cases hcp:eC (P:Int) with
      |false =>
       have HI:=aW (show Calls Tryz.prog 137 #[.int .i64 P] wr λ e w'=>e=.returned (.bool false)/\wr=w' by have:=pT P wr;rw [hcp] at this;exact this);have HNO2:=aW (show ∀ m,1<=m->m<k+1->bi l m=false from λ m h1 h2=>by
        rcases Nat.lt_or_ge m k with h | h
        ·exact HNO.out m h1 h
        ·obtain rfl:m=k:=by omega
         unfold bi;rw [HN.out,hcp];simp)
       clear hcp;go_wp2_with (go_at_call 137;refine HI.out.mono ?_;rintro e w1 ⟨rfl,rfl⟩);go_roundg (6-(k+1))
       case measure=>rw [HG.out];omega
       case rel=>exact ⟨k+1,by omega,by omega,rfl,by go_num,hbc,HNO2⟩
      |true =>
       have hrange:(P:Int)<=1114111:=by have:=hcp;unfold eC at this;have:=of_decide_eq_true this;omega
       have HI:=aW (show Calls Tryz.prog 137 #[.int .i64 P] wr λ e w'=>e=.returned (.bool true)/\wr=w' by have:=pT P wr;rw [hcp] at this;exact this);have HB:=aW (jU P wr (by omega) hrange);have hcl:(ai P).length<=4:=by unfold ai;(repeat' split)<;>simp
       rw [Int.toNat_natCast] at HB;obtain ⟨u,hu⟩:∃ u,ai P=u:=⟨_,rfl⟩
       rw [hu] at HB hcl;have hok:bi l k=(decide (k=u.length) && decide (l.take u.length=u)):=by
        unfold bi;rw [HN.out,hcp,hu,decide_eq_true hnl,Bool.eq_iff_iff];simp only [Bool.true_and,beq_iff_eq,Bool.and_eq_true,decide_eq_true_eq];constructor
        ·intro e;have h1:k=u.length:=by rw [e,List.length_take];omega
         exact ⟨h1,by rw [← h1,← e]⟩
        ·rintro ⟨h1,h2⟩;rw [h1];exact h2.symm
       have HOK:=aW hok;clear hcp hu hok;by_cases hlen:k=u.length
       ·have hlb:((u.length:Int) == (k:Int))=true:=by simp;omega
        cases hst:decide (l.take u.length=u) with
        |true =>
         have HRET:=aW (show r=(P,k) by rw [← HR0.out,l7 hk1 hn4 HNO.out (by rw [HOK.out,decide_eq_true hlen,hst];rfl),HN.out]);clear hlen;go_wp2_with fail;refine HI.out.mono ?_;rintro e w1 ⟨rfl,rfl⟩;go_wp2_with fail;refine HB.out.mono ?_;rintro e w2 ⟨v2,rfl,hv2,hb2⟩;have hS:=iZ (.slice (some ⟨b,o,none⟩) l.length cap) v2 l u w2 ⟨_,_,rfl,hcap,HRC.out.below hb2⟩ hv2 hl (by omega);rw [hst] at hS;have HS:=aW hS;obtain ⟨A2,c2,rfl,hc2,hr2⟩:=hv2;clear hS hst;go_wp2_with fail;refine HS.out.mono ?_;rintro e w3 ⟨rfl,q,rfl⟩;go_wp2;go_ret2;rw [HRET.out];exact ⟨rfl,av (hbc.trans (hb2.mono hbc.size)) q⟩
        |false =>
         have HNO2:=aW (show ∀ m,1<=m->m<k+1->bi l m=false from λ m h1 h2=>by
          rcases Nat.lt_or_ge m k with h | h
          ·exact HNO.out m h1 h
          ·obtain rfl:m=k:=by omega
           rw [HOK.out,hst];simp)
         clear hlen;go_wp2_with fail;refine HI.out.mono ?_;rintro e w1 ⟨rfl,rfl⟩;go_wp2_with fail;refine HB.out.mono ?_;rintro e w2 ⟨v2,rfl,hv2,hb2⟩;have hS:=iZ (.slice (some ⟨b,o,none⟩) l.length cap) v2 l u w2 ⟨_,_,rfl,hcap,HRC.out.below hb2⟩ hv2 hl (by omega);rw [hst] at hS;have HS:=aW hS;obtain ⟨A2,c2,rfl,hc2,hr2⟩:=hv2;clear hS hst;go_wp2_with fail;refine HS.out.mono ?_;rintro e w3 ⟨rfl,q,rfl⟩;go_wp2_with fail;go_roundg (6-(k+1))
         case measure=>rw [HG.out];omega
         case rel=>exact ⟨k+1,by omega,by omega,rfl,by go_num,av (hbc.trans (hb2.mono hbc.size)) q,HNO2⟩
       ·have hlb:((u.length:Int) == (k:Int))=false:=by simp;omega
        have HNO2:=aW (show ∀ m,1<=m->m<k+1->bi l m=false from λ m h1 h2=>by
         rcases Nat.lt_or_ge m k with h | h
         ·exact HNO.out m h1 h
         ·obtain rfl:m=k:=by omega
          rw [HOK.out,decide_eq_false hlen];simp)
        go_wp2_with fail;refine HI.out.mono ?_;rintro e w1 ⟨rfl,rfl⟩;go_wp2_with fail;refine HB.out.mono ?_;rintro e w2 ⟨v2,rfl,hv2,hb2⟩;obtain ⟨A2,c2,rfl,hc2,hr2⟩:=hv2;go_wp2_with fail;go_roundg (6-(k+1))
        case measure=>rw [HG.out];omega
        case rel=>exact ⟨k+1,by omega,by omega,rfl,by go_num,hbc.trans (hb2.mono hbc.size),HNO2⟩
  ·have HRET:=aW (show r=(0,0) by
    rw [← HR0.out];refine kJ λ m h1 h2=>?_
    rcases Nat.lt_or_ge m n with h | h
    ·exact HNO.out m h1 h
    ·exact cH l m (by omega))
   by_cases h4:n<=4
   ·have h5:l.length<n:=by omega
    go_wp2;go_ret2;rw [HRET.out];exact ⟨rfl,hb⟩
   ·have h5:(4:Int)<(n:Int):=by omega
    go_wp2;go_ret2;rw [HRET.out];exact ⟨rfl,hb⟩
end Go.Proofs.YtgolomgmnanbpaaGreatDoor
