import Derived.Test.YtgmnmnnoahdjnaaGreatDoorH03
open Go.Value renaming int → Zi, slice → Zs, string → Zt, pointer → Zp
open Go.IntKind renaming i64 → Zq
set_option maxRecDepth 100000
set_option maxHeartbeats 16000000
set_option linter.unusedVariables false
set_option linter.unusedSimpArgs false
namespace Go.Proofs.YtgmnmnnoahdjnaaGreatDoor
section
open Go.RowKit Go.Shelf
attribute [local go_sem] ab ae af ac Oper.semAt_some
/-- p.bytes(): the point and its size are boxed;the function value captures the boxes -/
theorem qP (p:Int) (w:World) :
  Calls Tryz.prog 224 #[Zi Zq p] w λ e w'=>e=.returned (.func (.func 239) #[] #[Zp (some ⟨w.heap.size+1,0,none⟩),Zp (some ⟨w.heap.size,0,none⟩)]) /\
   (w.alloc (.cells #[Zi Zq p] 248)).alloc (.cells #[Zi Zq (aL p)] 3)=w':=by
 go_enter Tryz.func224,Tryz.ntmps224;go_wp2_with (go_at_call 210;refine (dW _ _).mono ?_;rintro e w' ⟨rfl,rfl⟩);go_ret;exact ⟨rfl,rfl⟩
theorem eU (q mark k a:Nat) (hm:mark=2 ^ k*a) (hq:q<2 ^ k) (h:mark+q<256) :
  bits .or .i64 (q:Int) (mark:Int) % 256=((UInt8.ofNat (mark+q)).toNat:Int):=by
 rw [kt _ _ (by omega) (by omega),Nat.or_comm,hm,← Nat.two_pow_add_eq_or_of_lt hq,← hm,UInt8.toNat_ofNat_of_lt' (by simpa [UInt8.size] using h)];omega
theorem eT (q:Nat) (hq:q<1099511627776) :
  bits .or .i64 (bits .and .i64 (q:Int) 63) 128 % 256=((UInt8.ofNat (128+q % 64)).toNat:Int):=by
 have h:=fR q 6 (by omega) (by decide);rw [show ((2 ^ 6-1:Nat):Int)=63 from rfl] at h;rw [h,show (128:Int)=((128:Nat):Int) from rfl];exact eU (q % 2 ^ 6) 128 7 1 rfl (by omega) (by omega)
def KpB (Bn Bp:Nat):World->World->Prop:=aI λ k=>k=Bn∨k=Bp
theorem r5 (Bn Bp:Nat) (p:Nat) (l:Nat) (hp:0<=p/\p<128) (J Jx:List UInt8->World->Prop) (W:World)
  (hJ:∀ s A B,Below A.heap.size A B->J s A->J s B)
  (hY:∀ pre x W1,J pre W1->pre++[x] <+: ai p->YieldAt Fence.wide 1 Tryz.prog l #[Zi .u8 x.toNat] W1 λ e W' =>
   (e=.returned (.bool true)/\J (pre++[x]) W'/\KpB Bn Bp W1 W')∨(e=.returned (.bool false)/\Jx (pre++[x]) W'/\KpB Bn Bp W1 W'))
  (hn:Blk W Bn 3 #[Zi Zq (1:Nat)]) (hpB:Blk W Bp 248 #[Zi Zq p]) (h0:J [] W) :
  CallsIn Fence.wide 2 Tryz.prog 239 #[.func (.yield l) #[] #[],Zp (some ⟨Bn,0,none⟩),Zp (some ⟨Bp,0,none⟩)] W λ e W'=>(∃ v,e=.returned v) /\
   ((∃ xs,xs=ai p/\J xs W')∨(∃ pre,pre <+: ai p/\Jx pre W')):=by
 have hbytes:ai p=[UInt8.ofNat (p)]:=by
  unfold ai;rw [if_pos (by omega)]
 have HY:=aW hY;have HJ:=aW hJ;clear hY hJ;refine callsIn_of_wp Tryz.func239 rfl trivial ?_ rfl;simp only [Tryz.ntmps239,List.size_toArray,List.length_cons,List.length_nil,Nat.reduceAdd,Nat.reduceSub,Array.replicate_succ,Array.replicate_zero,List.push_toArray,List.append_toArray,List.nil_append,List.cons_append];obtain ⟨c1,f1,l1⟩:=hn.rules;have HB:=aW hbytes;clear hbytes;gi_wp2
 gi_loopw [4] (λ k wr => ∃ j:Nat,j<=1/\k=Zi Zq (0-(j:Int))/\J ((ai p).take j) wr/\Blk wr Bn 3 #[Zi Zq (1:Nat)]/\Blk wr Bp 248 #[Zi Zq p])
  (λ k wr=>(intOf k+1).toNat)
 case atStart=>exact ⟨0,by omega,by simp,h0,hn,hpB⟩
 case round =>
  obtain ⟨j,hj,rfl,hJs,bn,bp⟩:=hrel;clear hn hpB h0 c1 f1 l1;obtain ⟨c1,f1,l1⟩:=bn.rules;obtain ⟨c2,f2,l2⟩:=bp.rules;have hw6:IntKind.i64.wrap 0=0:=by decide
  have hw1:IntKind.i64.wrap 0=0:=by decide
  rcases (by omega:j=0∨j=1) with rfl | rfl
  ·have hv:(bits BinOp.or IntKind.i64 (p:Int) 0) % 256=((UInt8.ofNat p).toNat:Int):=by have:=eU p 0 7 0 rfl (by omega) (by omega);rw [Nat.zero_add] at this;exact_mod_cast this
   have hpre:(ai p).take 0++[UInt8.ofNat p]=(ai p).take 1:=by rw [HB.out];rfl
   obtain ⟨x,hx⟩:∃ x,UInt8.ofNat p=x:=⟨_,rfl⟩
   rw [hx] at hv hpre;clear hx;have HP:=aW hpre;clear hpre;gi_wp2;refine wpIn_wide.2 ?_;go_region_held3 (λ w'=>w'.cell? ⟨Bn,0,none⟩=some (Zi Zq (1:Nat))/\w'.cell? ⟨Bp,0,none⟩=some (Zi Zq p)) (go_keep) ((go_at_call 240;refine (eZ _).mono ?_;rintro e w' ⟨rfl,hb⟩;obtain ⟨c1',f1',l1'⟩:=(bn.drew.keep hb).rules;obtain ⟨c2',f2',l2'⟩:=(bp.drew.keep hb).rules));have hbel:Below wr.heap.size wr w':=(Below.refl wr.heap.size wr).drew.trans hb;obtain ⟨fn,tmps,assign,body,hy,hR⟩:=HY.out _ x w' (HJ.out _ _ _ hbel hJs) (by rw [HP.out];exact List.take_prefix _ _);have bn2:=bn.keep hbel;have bp2:=bp.keep hbel;clear hbel hb;gi_wp2;refine hR.mono ?_;rintro e W3 (⟨rfl,hJ3,hk3⟩ | ⟨rfl,hJx3,hk3⟩)
   ·have bn3:=hk3.blk bn2 (.inl rfl);have bp3:=hk3.blk bp2 (.inr rfl);rw [HP.out] at hJ3;gi_wp2;go_roundw
    case rel=>exact ⟨1,by omega,by simp,hJ3,bn3,bp3⟩
    case measure=>simp [intOf]
   ·gi_wp2;refine bodyPost_ret (results_none rfl _ _ _) rfl ?_;exact ⟨⟨_,rfl⟩,.inr ⟨_,by rw [HP.out];exact List.take_prefix _ _,hJx3⟩⟩
  ·gi_wp2;go_end0;exact ⟨⟨_,rfl⟩,.inl ⟨_,rfl,by have:=hJs;rw [HB.out] at this ⊢;exact this⟩⟩
theorem r6 (Bn Bp:Nat) (p:Nat) (l:Nat) (hp:128<=p/\p<2048) (J Jx:List UInt8->World->Prop) (W:World)
  (hJ:∀ s A B,Below A.heap.size A B->J s A->J s B)
  (hY:∀ pre x W1,J pre W1->pre++[x] <+: ai p->YieldAt Fence.wide 1 Tryz.prog l #[Zi .u8 x.toNat] W1 λ e W' =>
   (e=.returned (.bool true)/\J (pre++[x]) W'/\KpB Bn Bp W1 W')∨(e=.returned (.bool false)/\Jx (pre++[x]) W'/\KpB Bn Bp W1 W'))
  (hn:Blk W Bn 3 #[Zi Zq (2:Nat)]) (hpB:Blk W Bp 248 #[Zi Zq p]) (h0:J [] W) :
  CallsIn Fence.wide 2 Tryz.prog 239 #[.func (.yield l) #[] #[],Zp (some ⟨Bn,0,none⟩),Zp (some ⟨Bp,0,none⟩)] W λ e W'=>(∃ v,e=.returned v) /\
   ((∃ xs,xs=ai p/\J xs W')∨(∃ pre,pre <+: ai p/\Jx pre W')):=by
 have hbytes:ai p=[UInt8.ofNat (192+p / 64),UInt8.ofNat (128+p % 64)]:=by
  unfold ai;rw [if_neg (by omega)];rw [if_pos (by omega)]
 have HY:=aW hY;have HJ:=aW hJ;clear hY hJ;refine callsIn_of_wp Tryz.func239 rfl trivial ?_ rfl;simp only [Tryz.ntmps239,List.size_toArray,List.length_cons,List.length_nil,Nat.reduceAdd,Nat.reduceSub,Array.replicate_succ,Array.replicate_zero,List.push_toArray,List.append_toArray,List.nil_append,List.cons_append];obtain ⟨c1,f1,l1⟩:=hn.rules;have HB:=aW hbytes;clear hbytes;gi_wp2
 gi_loopw [4] (λ k wr => ∃ j:Nat,j<=2/\k=Zi Zq (1-(j:Int))/\J ((ai p).take j) wr/\Blk wr Bn 3 #[Zi Zq (2:Nat)]/\Blk wr Bp 248 #[Zi Zq p])
  (λ k wr=>(intOf k+1).toNat)
 case atStart=>exact ⟨0,by omega,by simp,h0,hn,hpB⟩
 case round =>
  obtain ⟨j,hj,rfl,hJs,bn,bp⟩:=hrel;clear hn hpB h0 c1 f1 l1;obtain ⟨c1,f1,l1⟩:=bn.rules;obtain ⟨c2,f2,l2⟩:=bp.rules;have hw6:IntKind.i64.wrap 6=6:=by decide
  have hw1:IntKind.i64.wrap 1=1:=by decide
  rcases (by omega:j=0∨j=1∨j=2) with rfl | rfl | rfl
  ·have hv:bits BinOp.or IntKind.i64 ((p:Int) / 64) 192 % 256=((UInt8.ofNat (192+p / 64)).toNat:Int):=by
    have h:=eU (p / 64) 192 6 3 rfl (by omega) (by omega);rw [Int.natCast_ediv] at h;exact h
   have hpre:(ai p).take 0++[UInt8.ofNat (192+p / 64)]=(ai p).take 1:=by rw [HB.out];rfl
   obtain ⟨x,hx⟩:∃ x,UInt8.ofNat (192+p / 64)=x:=⟨_,rfl⟩
   rw [hx] at hv hpre;clear hx;have HP:=aW hpre;clear hpre;gi_wp2;refine wpIn_wide.2 ?_;go_region_held3 (λ w'=>w'.cell? ⟨Bn,0,none⟩=some (Zi Zq (2:Nat))/\w'.cell? ⟨Bp,0,none⟩=some (Zi Zq p)) (go_keep) ((go_at_call 240;refine (eZ _).mono ?_;rintro e w' ⟨rfl,hb⟩;obtain ⟨c1',f1',l1'⟩:=(bn.drew.keep hb).rules;obtain ⟨c2',f2',l2'⟩:=(bp.drew.keep hb).rules));have hbel:Below wr.heap.size wr w':=(Below.refl wr.heap.size wr).drew.trans hb;obtain ⟨fn,tmps,assign,body,hy,hR⟩:=HY.out _ x w' (HJ.out _ _ _ hbel hJs) (by rw [HP.out];exact List.take_prefix _ _);have bn2:=bn.keep hbel;have bp2:=bp.keep hbel;clear hbel hb;gi_wp2;refine hR.mono ?_;rintro e W3 (⟨rfl,hJ3,hk3⟩ | ⟨rfl,hJx3,hk3⟩)
   ·have bn3:=hk3.blk bn2 (.inl rfl);have bp3:=hk3.blk bp2 (.inr rfl);rw [HP.out] at hJ3;gi_wp2;go_roundw
    case rel=>exact ⟨1,by omega,by simp,hJ3,bn3,bp3⟩
    case measure=>simp [intOf]
   ·gi_wp2;refine bodyPost_ret (results_none rfl _ _ _) rfl ?_;exact ⟨⟨_,rfl⟩,.inr ⟨_,by rw [HP.out];exact List.take_prefix _ _,hJx3⟩⟩
  ·have hv:bits BinOp.or IntKind.i64 (bits BinOp.and IntKind.i64 (p:Int) 63) 128 % 256=((UInt8.ofNat (128+p % 64)).toNat:Int):=by
    have h:=eT (p) (by omega);exact h
   have hpre:(ai p).take 1++[UInt8.ofNat (128+p % 64)]=(ai p).take 2:=by rw [HB.out];rfl
   obtain ⟨x,hx⟩:∃ x,UInt8.ofNat (128+p % 64)=x:=⟨_,rfl⟩
   rw [hx] at hv hpre;clear hx;have HP:=aW hpre;clear hpre;obtain ⟨fn,tmps,assign,body,hy,hR⟩:=HY.out _ x wr hJs (by rw [HP.out];exact List.take_prefix _ _);have bn2:=bn;have bp2:=bp;gi_wp2;refine hR.mono ?_;rintro e W3 (⟨rfl,hJ3,hk3⟩ | ⟨rfl,hJx3,hk3⟩)
   ·have bn3:=hk3.blk bn2 (.inl rfl);have bp3:=hk3.blk bp2 (.inr rfl);rw [HP.out] at hJ3;gi_wp2;go_roundw
    case rel=>exact ⟨2,by omega,by simp,hJ3,bn3,bp3⟩
    case measure=>simp [intOf]
   ·gi_wp2;refine bodyPost_ret (results_none rfl _ _ _) rfl ?_;exact ⟨⟨_,rfl⟩,.inr ⟨_,by rw [HP.out];exact List.take_prefix _ _,hJx3⟩⟩
  ·gi_wp2;go_end0;exact ⟨⟨_,rfl⟩,.inl ⟨_,rfl,by have:=hJs;rw [HB.out] at this ⊢;exact this⟩⟩
theorem r7 (Bn Bp:Nat) (p:Nat) (l:Nat) (hp:2048<=p/\p<65536) (J Jx:List UInt8->World->Prop) (W:World)
  (hJ:∀ s A B,Below A.heap.size A B->J s A->J s B)
  (hY:∀ pre x W1,J pre W1->pre++[x] <+: ai p->YieldAt Fence.wide 1 Tryz.prog l #[Zi .u8 x.toNat] W1 λ e W' =>
   (e=.returned (.bool true)/\J (pre++[x]) W'/\KpB Bn Bp W1 W')∨(e=.returned (.bool false)/\Jx (pre++[x]) W'/\KpB Bn Bp W1 W'))
  (hn:Blk W Bn 3 #[Zi Zq (3:Nat)]) (hpB:Blk W Bp 248 #[Zi Zq p]) (h0:J [] W) :
  CallsIn Fence.wide 2 Tryz.prog 239 #[.func (.yield l) #[] #[],Zp (some ⟨Bn,0,none⟩),Zp (some ⟨Bp,0,none⟩)] W λ e W'=>(∃ v,e=.returned v) /\
   ((∃ xs,xs=ai p/\J xs W')∨(∃ pre,pre <+: ai p/\Jx pre W')):=by
 have hbytes:ai p=[UInt8.ofNat (224+p / 4096),UInt8.ofNat (128+p / 64 % 64),UInt8.ofNat (128+p % 64)]:=by
  unfold ai;rw [if_neg (by omega)];rw [if_neg (by omega)];rw [if_pos (by omega)]
 have HY:=aW hY;have HJ:=aW hJ;clear hY hJ;refine callsIn_of_wp Tryz.func239 rfl trivial ?_ rfl;simp only [Tryz.ntmps239,List.size_toArray,List.length_cons,List.length_nil,Nat.reduceAdd,Nat.reduceSub,Array.replicate_succ,Array.replicate_zero,List.push_toArray,List.append_toArray,List.nil_append,List.cons_append];obtain ⟨c1,f1,l1⟩:=hn.rules;have HB:=aW hbytes;clear hbytes;gi_wp2
 gi_loopw [4] (λ k wr => ∃ j:Nat,j<=3/\k=Zi Zq (2-(j:Int))/\J ((ai p).take j) wr/\Blk wr Bn 3 #[Zi Zq (3:Nat)]/\Blk wr Bp 248 #[Zi Zq p])
  (λ k wr=>(intOf k+1).toNat)
 case atStart=>exact ⟨0,by omega,by simp,h0,hn,hpB⟩
 case round =>
  obtain ⟨j,hj,rfl,hJs,bn,bp⟩:=hrel;clear hn hpB h0 c1 f1 l1;obtain ⟨c1,f1,l1⟩:=bn.rules;obtain ⟨c2,f2,l2⟩:=bp.rules;have hw6:IntKind.i64.wrap 12=12:=by decide
  have hw1:IntKind.i64.wrap 2=2:=by decide
  rcases (by omega:j=0∨j=1∨j=2∨j=3) with rfl | rfl | rfl | rfl
  ·have hv:bits BinOp.or IntKind.i64 ((p:Int) / 4096) 224 % 256=((UInt8.ofNat (224+p / 4096)).toNat:Int):=by
    have h:=eU (p / 4096) 224 5 7 rfl (by omega) (by omega);rw [Int.natCast_ediv] at h;exact h
   have hpre:(ai p).take 0++[UInt8.ofNat (224+p / 4096)]=(ai p).take 1:=by rw [HB.out];rfl
   obtain ⟨x,hx⟩:∃ x,UInt8.ofNat (224+p / 4096)=x:=⟨_,rfl⟩
   rw [hx] at hv hpre;clear hx;have HP:=aW hpre;clear hpre;gi_wp2;refine wpIn_wide.2 ?_;go_region_held3 (λ w'=>w'.cell? ⟨Bn,0,none⟩=some (Zi Zq (3:Nat))/\w'.cell? ⟨Bp,0,none⟩=some (Zi Zq p)) (go_keep) ((go_at_call 240;refine (eZ _).mono ?_;rintro e w' ⟨rfl,hb⟩;obtain ⟨c1',f1',l1'⟩:=(bn.drew.keep hb).rules;obtain ⟨c2',f2',l2'⟩:=(bp.drew.keep hb).rules));have hbel:Below wr.heap.size wr w':=(Below.refl wr.heap.size wr).drew.trans hb;obtain ⟨fn,tmps,assign,body,hy,hR⟩:=HY.out _ x w' (HJ.out _ _ _ hbel hJs) (by rw [HP.out];exact List.take_prefix _ _);have bn2:=bn.keep hbel;have bp2:=bp.keep hbel;clear hbel hb;gi_wp2;refine hR.mono ?_;rintro e W3 (⟨rfl,hJ3,hk3⟩ | ⟨rfl,hJx3,hk3⟩)
   ·have bn3:=hk3.blk bn2 (.inl rfl);have bp3:=hk3.blk bp2 (.inr rfl);rw [HP.out] at hJ3;gi_wp2;go_roundw
    case rel=>exact ⟨1,by omega,by simp,hJ3,bn3,bp3⟩
    case measure=>simp [intOf]
   ·gi_wp2;refine bodyPost_ret (results_none rfl _ _ _) rfl ?_;exact ⟨⟨_,rfl⟩,.inr ⟨_,by rw [HP.out];exact List.take_prefix _ _,hJx3⟩⟩
  ·have hv:bits BinOp.or IntKind.i64 (bits BinOp.and IntKind.i64 ((p:Int) / 64) 63) 128 % 256=((UInt8.ofNat (128+p / 64 % 64)).toNat:Int):=by
    have h:=eT (p / 64) (by omega);rw [Int.natCast_ediv] at h;exact h
   have hpre:(ai p).take 1++[UInt8.ofNat (128+p / 64 % 64)]=(ai p).take 2:=by rw [HB.out];rfl
   obtain ⟨x,hx⟩:∃ x,UInt8.ofNat (128+p / 64 % 64)=x:=⟨_,rfl⟩
   rw [hx] at hv hpre;clear hx;have HP:=aW hpre;clear hpre;obtain ⟨fn,tmps,assign,body,hy,hR⟩:=HY.out _ x wr hJs (by rw [HP.out];exact List.take_prefix _ _);have bn2:=bn;have bp2:=bp;gi_wp2;refine hR.mono ?_;rintro e W3 (⟨rfl,hJ3,hk3⟩ | ⟨rfl,hJx3,hk3⟩)
   ·have bn3:=hk3.blk bn2 (.inl rfl);have bp3:=hk3.blk bp2 (.inr rfl);rw [HP.out] at hJ3;gi_wp2;go_roundw
    case rel=>exact ⟨2,by omega,by simp,hJ3,bn3,bp3⟩
    case measure=>simp [intOf]
   ·gi_wp2;refine bodyPost_ret (results_none rfl _ _ _) rfl ?_;exact ⟨⟨_,rfl⟩,.inr ⟨_,by rw [HP.out];exact List.take_prefix _ _,hJx3⟩⟩
  ·have hv:bits BinOp.or IntKind.i64 (bits BinOp.and IntKind.i64 (p:Int) 63) 128 % 256=((UInt8.ofNat (128+p % 64)).toNat:Int):=by
    have h:=eT (p) (by omega);exact h
   have hpre:(ai p).take 2++[UInt8.ofNat (128+p % 64)]=(ai p).take 3:=by rw [HB.out];rfl
   obtain ⟨x,hx⟩:∃ x,UInt8.ofNat (128+p % 64)=x:=⟨_,rfl⟩
   rw [hx] at hv hpre;clear hx;have HP:=aW hpre;clear hpre;obtain ⟨fn,tmps,assign,body,hy,hR⟩:=HY.out _ x wr hJs (by rw [HP.out];exact List.take_prefix _ _);have bn2:=bn;have bp2:=bp;gi_wp2;refine hR.mono ?_;rintro e W3 (⟨rfl,hJ3,hk3⟩ | ⟨rfl,hJx3,hk3⟩)
   ·have bn3:=hk3.blk bn2 (.inl rfl);have bp3:=hk3.blk bp2 (.inr rfl);rw [HP.out] at hJ3;gi_wp2;go_roundw
    case rel=>exact ⟨3,by omega,by simp,hJ3,bn3,bp3⟩
    case measure=>simp [intOf]
   ·gi_wp2;refine bodyPost_ret (results_none rfl _ _ _) rfl ?_;exact ⟨⟨_,rfl⟩,.inr ⟨_,by rw [HP.out];exact List.take_prefix _ _,hJx3⟩⟩
  ·gi_wp2;go_end0;exact ⟨⟨_,rfl⟩,.inl ⟨_,rfl,by have:=hJs;rw [HB.out] at this ⊢;exact this⟩⟩
theorem r8 (Bn Bp:Nat) (p:Nat) (l:Nat) (hp:65536<=p/\p<1114112) (J Jx:List UInt8->World->Prop) (W:World)
  (hJ:∀ s A B,Below A.heap.size A B->J s A->J s B)
  (hY:∀ pre x W1,J pre W1->pre++[x] <+: ai p->YieldAt Fence.wide 1 Tryz.prog l #[Zi .u8 x.toNat] W1 λ e W' =>
   (e=.returned (.bool true)/\J (pre++[x]) W'/\KpB Bn Bp W1 W')∨(e=.returned (.bool false)/\Jx (pre++[x]) W'/\KpB Bn Bp W1 W'))
  (hn:Blk W Bn 3 #[Zi Zq (4:Nat)]) (hpB:Blk W Bp 248 #[Zi Zq p]) (h0:J [] W) :
  CallsIn Fence.wide 2 Tryz.prog 239 #[.func (.yield l) #[] #[],Zp (some ⟨Bn,0,none⟩),Zp (some ⟨Bp,0,none⟩)] W λ e W'=>(∃ v,e=.returned v) /\
   ((∃ xs,xs=ai p/\J xs W')∨(∃ pre,pre <+: ai p/\Jx pre W')):=by
 have hbytes:ai p=[UInt8.ofNat (240+p / 262144),UInt8.ofNat (128+p / 4096 % 64),UInt8.ofNat (128+p / 64 % 64),UInt8.ofNat (128+p % 64)]:=by
  unfold ai;rw [if_neg (by omega)];rw [if_neg (by omega)];rw [if_neg (by omega)];skip
 have HY:=aW hY;have HJ:=aW hJ;clear hY hJ;refine callsIn_of_wp Tryz.func239 rfl trivial ?_ rfl;simp only [Tryz.ntmps239,List.size_toArray,List.length_cons,List.length_nil,Nat.reduceAdd,Nat.reduceSub,Array.replicate_succ,Array.replicate_zero,List.push_toArray,List.append_toArray,List.nil_append,List.cons_append];obtain ⟨c1,f1,l1⟩:=hn.rules;have HB:=aW hbytes;clear hbytes;gi_wp2
 gi_loopw [4] (λ k wr => ∃ j:Nat,j<=4/\k=Zi Zq (3-(j:Int))/\J ((ai p).take j) wr/\Blk wr Bn 3 #[Zi Zq (4:Nat)]/\Blk wr Bp 248 #[Zi Zq p])
  (λ k wr=>(intOf k+1).toNat)
 case atStart=>exact ⟨0,by omega,by simp,h0,hn,hpB⟩
 case round =>
  obtain ⟨j,hj,rfl,hJs,bn,bp⟩:=hrel;clear hn hpB h0 c1 f1 l1;obtain ⟨c1,f1,l1⟩:=bn.rules;obtain ⟨c2,f2,l2⟩:=bp.rules;have hw6:IntKind.i64.wrap 18=18:=by decide
  have hw1:IntKind.i64.wrap 3=3:=by decide
  rcases (by omega:j=0∨j=1∨j=2∨j=3∨j=4) with rfl | rfl | rfl | rfl | rfl
  ·have hv:bits BinOp.or IntKind.i64 ((p:Int) / 262144) 240 % 256=((UInt8.ofNat (240+p / 262144)).toNat:Int):=by
    have h:=eU (p / 262144) 240 4 15 rfl (by omega) (by omega);rw [Int.natCast_ediv] at h;exact h
   have hpre:(ai p).take 0++[UInt8.ofNat (240+p / 262144)]=(ai p).take 1:=by rw [HB.out];rfl
   obtain ⟨x,hx⟩:∃ x,UInt8.ofNat (240+p / 262144)=x:=⟨_,rfl⟩
   rw [hx] at hv hpre;clear hx;have HP:=aW hpre;clear hpre;gi_wp2;refine wpIn_wide.2 ?_;go_region_held3 (λ w'=>w'.cell? ⟨Bn,0,none⟩=some (Zi Zq (4:Nat))/\w'.cell? ⟨Bp,0,none⟩=some (Zi Zq p)) (go_keep) ((go_at_call 240;refine (eZ _).mono ?_;rintro e w' ⟨rfl,hb⟩;obtain ⟨c1',f1',l1'⟩:=(bn.drew.keep hb).rules;obtain ⟨c2',f2',l2'⟩:=(bp.drew.keep hb).rules));have hbel:Below wr.heap.size wr w':=(Below.refl wr.heap.size wr).drew.trans hb;obtain ⟨fn,tmps,assign,body,hy,hR⟩:=HY.out _ x w' (HJ.out _ _ _ hbel hJs) (by rw [HP.out];exact List.take_prefix _ _);have bn2:=bn.keep hbel;have bp2:=bp.keep hbel;clear hbel hb;gi_wp2;refine hR.mono ?_;rintro e W3 (⟨rfl,hJ3,hk3⟩ | ⟨rfl,hJx3,hk3⟩)
   ·have bn3:=hk3.blk bn2 (.inl rfl);have bp3:=hk3.blk bp2 (.inr rfl);rw [HP.out] at hJ3;gi_wp2;go_roundw
    case rel=>exact ⟨1,by omega,by simp,hJ3,bn3,bp3⟩
    case measure=>simp [intOf]
   ·gi_wp2;refine bodyPost_ret (results_none rfl _ _ _) rfl ?_;exact ⟨⟨_,rfl⟩,.inr ⟨_,by rw [HP.out];exact List.take_prefix _ _,hJx3⟩⟩
  ·have hv:bits BinOp.or IntKind.i64 (bits BinOp.and IntKind.i64 ((p:Int) / 4096) 63) 128 % 256=((UInt8.ofNat (128+p / 4096 % 64)).toNat:Int):=by
    have h:=eT (p / 4096) (by omega);rw [Int.natCast_ediv] at h;exact h
   have hpre:(ai p).take 1++[UInt8.ofNat (128+p / 4096 % 64)]=(ai p).take 2:=by rw [HB.out];rfl
   obtain ⟨x,hx⟩:∃ x,UInt8.ofNat (128+p / 4096 % 64)=x:=⟨_,rfl⟩
   rw [hx] at hv hpre;clear hx;have HP:=aW hpre;clear hpre;obtain ⟨fn,tmps,assign,body,hy,hR⟩:=HY.out _ x wr hJs (by rw [HP.out];exact List.take_prefix _ _);have bn2:=bn;have bp2:=bp;gi_wp2;refine hR.mono ?_;rintro e W3 (⟨rfl,hJ3,hk3⟩ | ⟨rfl,hJx3,hk3⟩)
   ·have bn3:=hk3.blk bn2 (.inl rfl);have bp3:=hk3.blk bp2 (.inr rfl);rw [HP.out] at hJ3;gi_wp2;go_roundw
    case rel=>exact ⟨2,by omega,by simp,hJ3,bn3,bp3⟩
    case measure=>simp [intOf]
   ·gi_wp2;refine bodyPost_ret (results_none rfl _ _ _) rfl ?_;exact ⟨⟨_,rfl⟩,.inr ⟨_,by rw [HP.out];exact List.take_prefix _ _,hJx3⟩⟩
  ·have hv:bits BinOp.or IntKind.i64 (bits BinOp.and IntKind.i64 ((p:Int) / 64) 63) 128 % 256=((UInt8.ofNat (128+p / 64 % 64)).toNat:Int):=by
    have h:=eT (p / 64) (by omega);rw [Int.natCast_ediv] at h;exact h
   have hpre:(ai p).take 2++[UInt8.ofNat (128+p / 64 % 64)]=(ai p).take 3:=by rw [HB.out];rfl
   obtain ⟨x,hx⟩:∃ x,UInt8.ofNat (128+p / 64 % 64)=x:=⟨_,rfl⟩
   rw [hx] at hv hpre;clear hx;have HP:=aW hpre;clear hpre;obtain ⟨fn,tmps,assign,body,hy,hR⟩:=HY.out _ x wr hJs (by rw [HP.out];exact List.take_prefix _ _);have bn2:=bn;have bp2:=bp;gi_wp2;refine hR.mono ?_;rintro e W3 (⟨rfl,hJ3,hk3⟩ | ⟨rfl,hJx3,hk3⟩)
   ·have bn3:=hk3.blk bn2 (.inl rfl);have bp3:=hk3.blk bp2 (.inr rfl);rw [HP.out] at hJ3;gi_wp2;go_roundw
    case rel=>exact ⟨3,by omega,by simp,hJ3,bn3,bp3⟩
    case measure=>simp [intOf]
   ·gi_wp2;refine bodyPost_ret (results_none rfl _ _ _) rfl ?_;exact ⟨⟨_,rfl⟩,.inr ⟨_,by rw [HP.out];exact List.take_prefix _ _,hJx3⟩⟩
  ·have hv:bits BinOp.or IntKind.i64 (bits BinOp.and IntKind.i64 (p:Int) 63) 128 % 256=((UInt8.ofNat (128+p % 64)).toNat:Int):=by
    have h:=eT (p) (by omega);exact h
   have hpre:(ai p).take 3++[UInt8.ofNat (128+p % 64)]=(ai p).take 4:=by rw [HB.out];rfl
   obtain ⟨x,hx⟩:∃ x,UInt8.ofNat (128+p % 64)=x:=⟨_,rfl⟩
   rw [hx] at hv hpre;clear hx;have HP:=aW hpre;clear hpre;obtain ⟨fn,tmps,assign,body,hy,hR⟩:=HY.out _ x wr hJs (by rw [HP.out];exact List.take_prefix _ _);have bn2:=bn;have bp2:=bp;gi_wp2;refine hR.mono ?_;rintro e W3 (⟨rfl,hJ3,hk3⟩ | ⟨rfl,hJx3,hk3⟩)
   ·have bn3:=hk3.blk bn2 (.inl rfl);have bp3:=hk3.blk bp2 (.inr rfl);rw [HP.out] at hJ3;gi_wp2;go_roundw
    case rel=>exact ⟨4,by omega,by simp,hJ3,bn3,bp3⟩
    case measure=>simp [intOf]
   ·gi_wp2;refine bodyPost_ret (results_none rfl _ _ _) rfl ?_;exact ⟨⟨_,rfl⟩,.inr ⟨_,by rw [HP.out];exact List.take_prefix _ _,hJx3⟩⟩
  ·gi_wp2;go_end0;exact ⟨⟨_,rfl⟩,.inl ⟨_,rfl,by have:=hJs;rw [HB.out] at this ⊢;exact this⟩⟩
theorem nt {p:Nat} (h:br p≠0):(br p=1/\0<=p/\p<128)∨(br p=2/\128<=p/\p<2048)∨(br p=3/\2048<=p/\p<65536)∨(br p=4/\65536<=p/\p<1114112):=by
 have:=(bC p (br p)).1 rfl;omega
theorem qQ (Bn Bp p:Nat) (w:World) (hp:br p≠0) (hn:Blk w Bn 3 #[Zi Zq (aL p)]) (hpB:Blk w Bp 248 #[Zi Zq p]) :
  ly Fence.wide 2 Tryz.prog 239 #[Zp (some ⟨Bn,0,none⟩),Zp (some ⟨Bp,0,none⟩)] (λ x:UInt8=>#[Value.int .u8 x.toNat])
   (λ A B=>Below A.heap.size A B) (KpB Bn Bp) (λ pre x=>pre++[x] <+: ai p) (λ xs _=>xs=ai p) (λ pre _=>pre <+: ai p) w:=by
 intro l J Jx W hW hJ _ hY h0;have hn':=hn.keep hW;have hp':=hpB.keep hW;rcases nt hp with ⟨e,hb⟩ | ⟨e,hb⟩ | ⟨e,hb⟩ | ⟨e,hb⟩
 ·rw [(a9 p 1).2 e] at hn';exact r5 Bn Bp p l hb J Jx W hJ hY hn' hp' h0
 ·rw [(a9 p 2).2 e] at hn';exact r6 Bn Bp p l hb J Jx W hJ hY hn' hp' h0
 ·rw [(a9 p 3).2 e] at hn';exact r7 Bn Bp p l hb J Jx W hJ hY hn' hp' h0
 ·rw [(a9 p 4).2 e] at hn';exact r8 Bn Bp p l hb J Jx W hJ hY hn' hp' h0
theorem sN:(Tryz.prog.info? 5).map (λ i=>(i.zero,i.size,i.bytes))=some (some (Zi .u8 0),1,1):=by kernel_rfl
def xr (l:List UInt8) (w:World) (e:Ending) (w':World):Prop:=∃ v,e=.returned v/\BS w' v l/\Below w.heap.size w w'
theorem uT (A:Option Addr) (cap:Nat) (l:List UInt8) (p:Nat) (w:World) (hr:Rd w A (aq l)) (hlen:l.length<=4194304) (hp:br p≠0) :
  Calls Tryz.prog 211 #[Zs A l.length cap,Zi Zq p] w (xr (l++ai p) w):=by
 obtain ⟨i0,hi,hz0,hz1,hz2⟩:=info_parts sN;refine (callsIn_wide (n:=3)).1 ?_;refine callsIn_of_wp_marks Tryz.func211 rfl trivial ?_ rfl;simp only [Tryz.ntmps211,List.size_toArray,List.length_cons,List.length_nil,Nat.reduceAdd,Nat.reduceSub,Array.replicate_succ,Array.replicate_zero,List.push_toArray,List.append_toArray,List.nil_append,List.cons_append];refine wpIn_wide.2 ?_;have hmk:∀ W:World,(Instr.makeSlice 67 (Zi Zq (l.length:Int)) (Zi Zq ((l.length:Int)+4))).run Tryz.prog W=.ok (Zs (some ⟨W.heap.size,0,none⟩) l.length (l.length+4)) (W.alloc (.cells (madeCells #[Zi .u8 0] (l.length+4)) 5)):=λ W=>by
  have h:=run_make (P:=Tryz.prog) W 67 5 i0 (Zi .u8 0) (by simp [go_sem]) hi hz0 .i64 .i64 l.length (l.length+4) (by omega) (by omega) (by rw [hz2];omega) (by omega);rw [hz1] at h;have e2:((l.length:Int)+4).toNat=l.length+4:=by omega
  rw [e2,Int.toNat_natCast,Nat.mul_one] at h;exact h
 have hsz1:(Tryz.prog.info? 5).map (·.size)=some 1:=by kernel_rfl
 have hrB:=(hr.alloc (.cells (madeCells #[Zi .u8 0] (l.length+4)) 5)).alloc (.cells #[Zs (some ⟨w.heap.size,0,none⟩) l.length (l.length+4)] 67);have hR:=aW hrB;clear hrB;have hcur:Blk ((w.alloc (.cells (madeCells #[Zi .u8 0] (l.length+4)) 5)).alloc (.cells #[Zs (some ⟨w.heap.size,0,none⟩) l.length (l.length+4)] 67)) w.heap.size 5 (madeCells #[Zi .u8 0] (l.length+4)).toList.toArray:=by
  have:=(Blk.new w 5 (madeCells #[Zi .u8 0] (l.length+4))).alloc (.cells #[Zs (some ⟨w.heap.size,0,none⟩) l.length (l.length+4)] 67);simpa using this
 have hmc:(madeCells #[Zi .u8 0] (l.length+4)).toList.length=l.length+4:=by simp [size_madeCells]
 have HC:=aW hcur;clear hcur;go_wp2_with (refine li (o:=⟨some 15,_,_,_,_,_⟩) rfl (.tmp 13) (.tmp 14) 67 67 rfl 5 Tryz.underlying67 hsz1 w.heap.size l.length (l.length+4) A l.length cap rfl rfl (madeCells #[Zi .u8 0] (l.length+4)).toList 5 HC.out (aq l) hR.out (aA l) (by rw [aA];exact Nat.le_refl _) (by rw [aA,hmc];omega) (qO l) ?c1);intro w2 hrow hgr;have hbox:Boxed w2 (w.heap.size+1) 67 (Zs (some ⟨w.heap.size,0,none⟩) l.length (l.length+4)):=by
  have:=(Boxed.new (w.alloc (.cells (madeCells #[Zi .u8 0] (l.length+4)) 5)) 67 (Zs (some ⟨w.heap.size,0,none⟩) l.length (l.length+4))).kept hgr (by simp);simpa using this
 have hown:w2.ownsRow w.heap.size 5 1 (Zs (some ⟨w.heap.size,0,none⟩) l.length (l.length+4)) l.length (aq l) :=
  ⟨by simp [aA],.inr ⟨w.heap.size,_,_,rfl,Nat.le_refl _,hrow,by omega,by unfold maxLen;omega,by simp [aA,hmc],by simp [aA]⟩⟩
 have hbel:Below w.heap.size w w2:=(((Below.refl _ w).alloc (Nat.le_refl _) _).alloc (by simp) _).grown hgr (by simp;omega) (λ k e=>by cases e;exact Nat.le_refl _);have hs2:w.heap.size+2<=w2.heap.size:=by have:=hgr.size;simp at this;omega
 clear hR HC hrow hgr hmk hmc;have hcell:=hbox.cell;go_wp2_with (go_at_call 224;refine (qP _ _).mono ?_;rintro e w' ⟨rfl,rfl⟩);have hbn:Blk ((w2.alloc (.cells #[Zi Zq p] 248)).alloc (.cells #[Zi Zq (aL p)] 3)) (w2.heap.size+1) 3 #[Zi Zq (aL p)]:=by
  have:=Blk.new (w2.alloc (.cells #[Zi Zq p] 248)) 3 #[Zi Zq (aL p)];rwa [World.size_alloc] at this
 have hbp:Blk ((w2.alloc (.cells #[Zi Zq p] 248)).alloc (.cells #[Zi Zq (aL p)] 3)) w2.heap.size 248 #[Zi Zq p]:=(Blk.new w2 248 _).alloc _;obtain ⟨Wr,hWr⟩:∃ Wr,(w2.alloc (.cells #[Zi Zq p] 248)).alloc (.cells #[Zi Zq (aL p)] 3)=Wr:=⟨_,rfl⟩
 have hboxr:Boxed Wr (w.heap.size+1) 67 (Zs (some ⟨w.heap.size,0,none⟩) l.length (l.length+4)):=by rw [← hWr];exact (hbox.alloc _).alloc _
 have hownr:Wr.ownsRow w.heap.size 5 1 (Zs (some ⟨w.heap.size,0,none⟩) l.length (l.length+4)) l.length (aq l):=by rw [← hWr];exact (hown.alloc _).alloc _
 have hbelr:Below w.heap.size w Wr:=by rw [← hWr];exact (hbel.alloc (by omega) _).alloc (by simp;omega) _
 have hsr:Wr.heap.size=w2.heap.size+2:=by rw [← hWr];simp
 rw [hWr] at hbn hbp ⊢;obtain ⟨N2,hN2⟩:∃ N2,w2.heap.size=N2:=⟨_,rfl⟩
 rw [hN2] at hbn hbp hsr hs2 ⊢;clear hWr hbox hown hbel hcell hN2 w2;have hcpl:=fL p;refine (wpIn_wide (n:=3)).1 ?_;refine qI rfl (by omega) (gf:=239) (lb:=#[Zp (some ⟨N2+1,0,none⟩),Zp (some ⟨N2,0,none⟩)]) rfl trivial (enters_of Tryz.func239 (by kernel_rfl) rfl)
  (qQ (N2+1) N2 p Wr hp hbn hbp) (Below.refl _ _) (λ _=>rfl)
  (λ A B k o hs hk ho _=>(hs.block k (Array.getElem?_eq_some_iff.1 ho).1).trans ho)
  (λ h k=>h.trans k) (λ W k o o' hk _ _=>aI.putObj (N:=Wr.heap.size) (by intro j hj;omega) W k o' hk)
  (λ _ _ _ _ _ _ _ _ h=>h) (λ _ _ _ _ _ _ _ _ h=>h)
  (λ pre W=>(∃ v,Boxed W (w.heap.size+1) 67 v/\W.ownsRow w.heap.size 5 1 v (l.length+pre.length) (aq (l++pre)))/\Below w.heap.size w W/\Blk W (N2+1) 3 #[Zi Zq (aL p)]/\Blk W N2 248 #[Zi Zq p])
  (λ _ _ _=>False) ?hIS (λ _ _ _ _ _ h=>h) ?hIp (λ _ _ _ _ _ _ _ _ _ h=>h) ?h0
  (λ x=>{ tmps:=#[Zs A l.length cap,Zi Zq p,undef,undef,Zs none 0 0,Zp (some ⟨w.heap.size+1,0,none⟩),Zi .u8 x.toNat,Zs A l.length cap,Zi Zq l.length,Zs A l.length cap,Zi Zq l.length,Zi Zq (l.length+4),
   Zs (some ⟨w.heap.size,0,none⟩) l.length (l.length+4),Zs (some ⟨w.heap.size,0,none⟩) l.length (l.length+4),Zs A l.length cap,Zi Zq (aq l).length,Zi Zq p,
   .func (.func 239) #[] #[Zp (some ⟨N2+1,0,none⟩),Zp (some ⟨N2,0,none⟩)],Zi .u8 x.toNat,undef,undef,undef,undef,undef],defers:=[] }) ?assign ?body ?done ?stop
 case hIS =>
  rintro s A' B' hs ⟨⟨v,hv,ho⟩,hb,h1,h2⟩;have hg:A'.grownBy B' none:=⟨hs.os,hs.tape,hs.output,hs.size,λ k hk _=>hs.block k hk⟩
  exact ⟨⟨v,hv.kept hg (by simp),ho.kept hg (by cases v.ownBlock<;>simp)⟩,hb.trans (hs.mono hb.size),h1.keep hs,h2.keep hs⟩
 case hIp =>
  rintro s W k o o' hk ho hc ⟨⟨v,hv,hr⟩,hb,h1,h2⟩;exact ⟨⟨v,Blk.putObj o' hv ho hc,ownsRow_putObj hr o' ho hc⟩,aT hb k o' (by have:=hbelr.size;omega),h1.putObj o' ho hc,h2.putObj o' ho hc⟩
 case h0 =>
  intro o o';exact ⟨⟨_,(hboxr.alloc o).alloc o',by simpa using (hownr.alloc o).alloc o'⟩,(hbelr.alloc hbelr.size o).alloc (by have:=hbelr.size;simp;omega) o',(hbn.alloc o).alloc o',(hbp.alloc o).alloc o'⟩
 case assign =>
  intro k x W K hK;gi_wp2;exact hK
 case body =>
  rintro k pre x W ⟨⟨v,hv,hrow⟩,hB,h1,h2⟩ hadm;have hpl:pre.length+1<=4:=by have:=hadm.length_le;simp at this;omega
  have hc:=hv.cell;have hlt:=hv.lt;gi_wp2_with (gi_at_builtin;refine wpListIn_append_own _ rfl _ _ 67 rfl w.heap.size 5 i0 (Zi .u8 0) 1 1 Tryz.underlying67 hi hz0 hz1 hz2 rfl (by decide) _ _ _ rfl (hrow.alloc _) ⟨W.heap.size,0,none⟩ 1 1 [Zi .u8 x.toNat] rfl rfl (cell_one_new _ _ _) (by simp [Value.oneCell']) (by unfold maxLen;omega) (by omega) (by have:=hB.size;simp;omega) ?_;intro v' w1 hown' hgrow _;obtain ⟨g',cap',rfl⟩:=ownsRow_succ hown';obtain ⟨hv1,hv2,hr2,hk2,hb2⟩:=hv.appended (by decide) hrow hB.size (by omega) hown' hgrow;have hc1:=hv1.cell;have hf1:=hv1.frozen);have h1':Blk (w1.setCell ⟨w.heap.size+1,0,none⟩ (Zs (some ⟨g',0,none⟩) (l.length+pre.length+1) cap')) (N2+1) 3 #[Zi Zq (aL p)] :=
   ((h1.alloc _).grown hgrow (dN hrow h1 (by decide))).far (by simp;omega) _
  have h2':Blk (w1.setCell ⟨w.heap.size+1,0,none⟩ (Zs (some ⟨g',0,none⟩) (l.length+pre.length+1) cap')) N2 248 #[Zi Zq p] :=
   ((h2.alloc _).grown hgrow (dN hrow h2 (by decide))).far (by simp;omega) _
  refine ⟨hk2.from _,⟨hb2.size,?_⟩,⟨_,hv2,?_⟩,hB.trans hb2,h1',h2'⟩
  ·rintro k (rfl | rfl)
   ·exact fS h1 h1'
   ·exact fS h2 h2'
  ·have e:aq (l++(pre++[x]))=aq (l++pre)++[Zi .u8 x.toNat]:=by rw [← List.append_assoc,qN];rfl
   rw [e,List.length_append,List.length_singleton,← Nat.add_assoc];exact hr2
 case done =>
  rintro D ys W hD rfl ⟨⟨v,hv,hrow⟩,hB,_,_⟩ hK;have hc:=hv.cell;go_wp2;refine ⟨by simp,.inl ⟨_,_,rfl,run_takeDeferred hK,?_⟩⟩;refine ⟨_,results_tmp rfl _ _ _,v,rfl,?_,aT hB D _ (by have:=hbelr.size;omega)⟩;have ho:=ownsRow_putObj hrow (.deferred none) hK rfl;rw [← List.length_append] at ho;exact BS.of_own ho
 case stop =>
  rintro D c pre W _ _ h _;exact h.elim
def mn (l:List UInt8) (p:Int) (w:World) (e:Ending) (w':World):Prop :=
 if aL p=0 then e=.returned (.tuple #[Zs none 0 0,Zi Zq 110])/\w=w'
 else ∃ v,e=.returned (.tuple #[v,Zi Zq 0])/\BS w' v (l++ai p.toNat)/\Below w.heap.size w w'
theorem ue (A:Option Addr) (cap:Nat) (l:List UInt8) (p:Int) (w:World) (hr:Rd w A (aq l)) (hlen:l.length<=4194304) :
  Calls Tryz.prog 195 #[Zs A l.length cap,Zi Zq p] w (mn l p w):=by
 by_cases h0:aL p=0
 ·have HC:=aW h0;clear h0;go_enter Tryz.func195,Tryz.ntmps195;go_wp2_with (go_at_call 210;refine (dW _ _).mono ?_;rintro e w' ⟨rfl,rfl⟩;rw [HC.out]);go_ret2;rw [mn,if_pos HC.out];exact ⟨rfl,rfl⟩
 ·have hp:0<=p:=by
   unfold aL at h0;by_cases h:p<0
   ·rw [if_pos h] at h0;simp at h0
   ·omega
  obtain ⟨n,rfl⟩:=Int.eq_ofNat_of_zero_le hp;have hl:br n≠0:=λ e=>h0 ((a9 n 0).2 e)
  have hb:(aL (n:Int) == 0)=false:=by simp;exact h0
  have HC:=aW h0;have HL:=aW hl;clear h0 hl;go_enter Tryz.func195,Tryz.ntmps195;go_wp2_with (first | (go_at_call 210;refine (dW _ _).mono ?_;rintro e w' ⟨rfl,rfl⟩) | (go_at_call 211;refine (uT A cap l n _ hr hlen HL.out).mono ?_;rintro e w' ⟨v,rfl,hv,hbel⟩));go_ret2;rw [mn,if_neg HC.out];exact ⟨v,rfl,by rw [Int.toNat_natCast];exact hv,hbel⟩
end
end Go.Proofs.YtgmnmnnoahdjnaaGreatDoor
