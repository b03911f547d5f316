/- The iterator (utf.point).bytes: its walk, for each size of a point, and what it owes and gives. -/
import Derived.Test.YtalhoacancbldaaDoorUtf2
import Derived.Test.YtalhoacancbldaaDoorIter
import Derived.Deep.RegionHeld3
namespace Go.Proofs.YtalhoacancbldaaDoor
set_option linter.unusedVariables false
set_option linter.unusedSimpArgs false
open Go.RowKit Go.Shelf
attribute [local go_sem] run_index_arr run_part_agg run_part_one run_field_agg Oper.semAt_some

set_option maxRecDepth 100000 in
set_option maxHeartbeats 1000000 in
/-- p.bytes(): the point and its size are boxed; the function value captures the boxes -/
theorem bytes_any (p : Int) (w : World) :
    Calls Tryd.prog 150 #[.int .i64 p] w fun e w' => e = .returned (.func (.func 157) #[] #[.pointer (some ⟨w.heap.size + 1, 0, none⟩), .pointer (some ⟨w.heap.size, 0, none⟩)]) ∧
      (w.alloc (.cells #[.int .i64 p] 171)).alloc (.cells #[.int .i64 (cpSize p)] 3) = w' := by
  go_enter Tryd.func150, Tryd.ntmps150
  go_wp2_with (go_at_call 133; refine (size_any _ _).mono ?_; rintro e w' ⟨rfl, rfl⟩)
  go_ret
  exact ⟨rfl, rfl⟩

theorem byteFirst (q mark k a : Nat) (hm : mark = 2 ^ k * a) (hq : q < 2 ^ k) (h : mark + q < 256) :
    bits .or .i64 (q : Int) (mark : Int) % 256 = ((UInt8.ofNat (mark + q)).toNat : Int) := by
  rw [i64_or_nat _ _ (by omega) (by omega), Nat.or_comm, hm, ← Nat.two_pow_add_eq_or_of_lt hq, ← hm, UInt8.toNat_ofNat_of_lt' (by simpa [UInt8.size] using h)]
  omega
theorem byteCont (q : Nat) (hq : q < 1099511627776) :
    bits .or .i64 (bits .and .i64 (q : Int) 63) 128 % 256 = ((UInt8.ofNat (128 + q % 64)).toNat : Int) := by
  have h := i64_mask q 6 (by omega) (by decide)
  rw [show ((2 ^ 6 - 1 : Nat) : Int) = 63 from rfl] at h
  rw [h, show (128 : Int) = ((128 : Nat) : Int) from rfl]
  exact byteFirst (q % 2 ^ 6) 128 7 1 rfl (by omega) (by omega)

/-- the blocks that the iterator reads between two rounds -/
def KpB (Bn Bp : Nat) : World → World → Prop := KeepOn fun k => k = Bn ∨ k = Bp

set_option maxRecDepth 100000 in
set_option maxHeartbeats 2000000 in
theorem bytes1_1 (Bn Bp : Nat) (p : Nat) (l : Nat) (hp : 0 ≤ p ∧ p < 128) (J Jx : List UInt8 → World → Prop) (W : World)
    (hJ : ∀ s A B, Below A.heap.size A B → J s A → J s B)
    (hY : ∀ pre x W1, J pre W1 → pre ++ [x] <+: cpBytes p → YieldAt Fence.wide 1 Tryd.prog l #[.int .u8 x.toNat] W1 fun e W' =>
      (e = .returned (.bool true) ∧ J (pre ++ [x]) W' ∧ KpB Bn Bp W1 W') ∨ (e = .returned (.bool false) ∧ Jx (pre ++ [x]) W' ∧ KpB Bn Bp W1 W'))
    (hn : Blk W Bn 3 #[.int .i64 (1 : Nat)]) (hpB : Blk W Bp 171 #[.int .i64 p]) (h0 : J [] W) :
    CallsIn Fence.wide 2 Tryd.prog 157 #[.func (.yield l) #[] #[], .pointer (some ⟨Bn, 0, none⟩), .pointer (some ⟨Bp, 0, none⟩)] W fun e W' => (∃ v, e = .returned v) ∧
      ((∃ xs, xs = cpBytes p ∧ J xs W') ∨ (∃ pre, pre <+: cpBytes p ∧ Jx pre W')) := by
  have hbytes : cpBytes p = [UInt8.ofNat (p)] := by
    unfold cpBytes
    rw [if_pos (by omega)]
  have HY := Lib.hid hY
  have HJ := Lib.hid hJ
  clear hY hJ
  refine callsIn_of_wp Tryd.func157 rfl trivial ?_ rfl
  simp only [Tryd.ntmps157, List.size_toArray, List.length_cons, List.length_nil, Nat.reduceAdd, Nat.reduceSub, Array.replicate_succ, Array.replicate_zero, List.push_toArray, List.append_toArray, List.nil_append, List.cons_append]
  obtain ⟨c1, f1, l1⟩ := hn.rules
  have HB := Lib.hid hbytes
  clear hbytes
  gi_wp2
  gi_loopw [4] (fun k wr => ∃ j : Nat, j ≤ 1 ∧ k = .int .i64 (0 - (j : Int)) ∧ J ((cpBytes p).take j) wr ∧ Blk wr Bn 3 #[.int .i64 (1 : Nat)] ∧ Blk wr Bp 171 #[.int .i64 p])
    (fun k wr => (intOf k + 1).toNat)
  case atStart => exact ⟨0, by omega, by simp, h0, hn, hpB⟩
  case round =>
    obtain ⟨j, hj, rfl, hJs, bn, bp⟩ := hrel
    clear hn hpB h0 c1 f1 l1
    obtain ⟨c1, f1, l1⟩ := bn.rules
    obtain ⟨c2, f2, l2⟩ := bp.rules
    have hw6 : IntKind.i64.wrap 0 = 0 := by decide
    have hw1 : IntKind.i64.wrap 0 = 0 := by decide
    rcases (by omega : j = 0 ∨ j = 1) with rfl | rfl
    · have hv : (bits BinOp.or IntKind.i64 (p : Int) 0) % 256 = ((UInt8.ofNat p).toNat : Int) := by have := byteFirst p 0 7 0 rfl (by omega) (by omega); rw [Nat.zero_add] at this; exact_mod_cast this
      have hpre : (cpBytes p).take 0 ++ [UInt8.ofNat p] = (cpBytes p).take 1 := by rw [HB.out]; rfl
      obtain ⟨x, hx⟩ : ∃ x, UInt8.ofNat p = x := ⟨_, rfl⟩
      rw [hx] at hv hpre
      clear hx
      have HP := Lib.hid hpre
      clear hpre
      gi_wp2
      refine wpIn_wide.2 ?_
      go_region_held3 (fun w' => w'.cell? ⟨Bn, 0, none⟩ = some (.int .i64 (1 : Nat)) ∧ w'.cell? ⟨Bp, 0, none⟩ = some (.int .i64 p)) (go_keep) ((go_at_call 158; refine (forms_any _).mono ?_; rintro e w' ⟨rfl, hb⟩; obtain ⟨c1', f1', l1'⟩ := (bn.drew.keep hb).rules; obtain ⟨c2', f2', l2'⟩ := (bp.drew.keep hb).rules))
      have hbel : Below wr.heap.size wr w' := (Below.refl wr.heap.size wr).drew.trans hb
      obtain ⟨fn, tmps, assign, body, hy, hR⟩ := HY.out _ x w' (HJ.out _ _ _ hbel hJs) (by rw [HP.out]; exact List.take_prefix _ _)
      have bn2 := bn.keep hbel
      have bp2 := bp.keep hbel
      clear hbel hb
      gi_wp2
      refine hR.mono ?_
      rintro e W3 (⟨rfl, hJ3, hk3⟩ | ⟨rfl, hJx3, hk3⟩)
      · have bn3 := hk3.blk bn2 (.inl rfl)
        have bp3 := hk3.blk bp2 (.inr rfl)
        rw [HP.out] at hJ3
        gi_wp2
        go_roundw
        case rel => exact ⟨1, by omega, by simp, hJ3, bn3, bp3⟩
        case measure => simp [intOf]
      · gi_wp2
        refine bodyPost_ret (results_none rfl _ _ _) rfl ?_
        exact ⟨⟨_, rfl⟩, .inr ⟨_, by rw [HP.out]; exact List.take_prefix _ _, hJx3⟩⟩
    · gi_wp2
      go_end0
      exact ⟨⟨_, rfl⟩, .inl ⟨_, rfl, by have := hJs; rw [HB.out] at this ⊢; exact this⟩⟩

set_option maxRecDepth 100000 in
set_option maxHeartbeats 2000000 in
theorem bytes1_2 (Bn Bp : Nat) (p : Nat) (l : Nat) (hp : 128 ≤ p ∧ p < 2048) (J Jx : List UInt8 → World → Prop) (W : World)
    (hJ : ∀ s A B, Below A.heap.size A B → J s A → J s B)
    (hY : ∀ pre x W1, J pre W1 → pre ++ [x] <+: cpBytes p → YieldAt Fence.wide 1 Tryd.prog l #[.int .u8 x.toNat] W1 fun e W' =>
      (e = .returned (.bool true) ∧ J (pre ++ [x]) W' ∧ KpB Bn Bp W1 W') ∨ (e = .returned (.bool false) ∧ Jx (pre ++ [x]) W' ∧ KpB Bn Bp W1 W'))
    (hn : Blk W Bn 3 #[.int .i64 (2 : Nat)]) (hpB : Blk W Bp 171 #[.int .i64 p]) (h0 : J [] W) :
    CallsIn Fence.wide 2 Tryd.prog 157 #[.func (.yield l) #[] #[], .pointer (some ⟨Bn, 0, none⟩), .pointer (some ⟨Bp, 0, none⟩)] W fun e W' => (∃ v, e = .returned v) ∧
      ((∃ xs, xs = cpBytes p ∧ J xs W') ∨ (∃ pre, pre <+: cpBytes p ∧ Jx pre W')) := by
  have hbytes : cpBytes p = [UInt8.ofNat (192 + p / 64), UInt8.ofNat (128 + p % 64)] := by
    unfold cpBytes
    rw [if_neg (by omega)]; rw [if_pos (by omega)]
  have HY := Lib.hid hY
  have HJ := Lib.hid hJ
  clear hY hJ
  refine callsIn_of_wp Tryd.func157 rfl trivial ?_ rfl
  simp only [Tryd.ntmps157, List.size_toArray, List.length_cons, List.length_nil, Nat.reduceAdd, Nat.reduceSub, Array.replicate_succ, Array.replicate_zero, List.push_toArray, List.append_toArray, List.nil_append, List.cons_append]
  obtain ⟨c1, f1, l1⟩ := hn.rules
  have HB := Lib.hid hbytes
  clear hbytes
  gi_wp2
  gi_loopw [4] (fun k wr => ∃ j : Nat, j ≤ 2 ∧ k = .int .i64 (1 - (j : Int)) ∧ J ((cpBytes p).take j) wr ∧ Blk wr Bn 3 #[.int .i64 (2 : Nat)] ∧ Blk wr Bp 171 #[.int .i64 p])
    (fun k wr => (intOf k + 1).toNat)
  case atStart => exact ⟨0, by omega, by simp, h0, hn, hpB⟩
  case round =>
    obtain ⟨j, hj, rfl, hJs, bn, bp⟩ := hrel
    clear hn hpB h0 c1 f1 l1
    obtain ⟨c1, f1, l1⟩ := bn.rules
    obtain ⟨c2, f2, l2⟩ := bp.rules
    have hw6 : IntKind.i64.wrap 6 = 6 := by decide
    have hw1 : IntKind.i64.wrap 1 = 1 := by decide
    rcases (by omega : j = 0 ∨ j = 1 ∨ j = 2) with rfl | rfl | rfl
    · have hv : bits BinOp.or IntKind.i64 ((p : Int) / 64) 192 % 256 = ((UInt8.ofNat (192 + p / 64)).toNat : Int) := by
        have h := byteFirst (p / 64) 192 6 3 rfl (by omega) (by omega)
        rw [Int.natCast_ediv] at h; exact h
      have hpre : (cpBytes p).take 0 ++ [UInt8.ofNat (192 + p / 64)] = (cpBytes p).take 1 := by rw [HB.out]; rfl
      obtain ⟨x, hx⟩ : ∃ x, UInt8.ofNat (192 + p / 64) = x := ⟨_, rfl⟩
      rw [hx] at hv hpre
      clear hx
      have HP := Lib.hid hpre
      clear hpre
      gi_wp2
      refine wpIn_wide.2 ?_
      go_region_held3 (fun w' => w'.cell? ⟨Bn, 0, none⟩ = some (.int .i64 (2 : Nat)) ∧ w'.cell? ⟨Bp, 0, none⟩ = some (.int .i64 p)) (go_keep) ((go_at_call 158; refine (forms_any _).mono ?_; rintro e w' ⟨rfl, hb⟩; obtain ⟨c1', f1', l1'⟩ := (bn.drew.keep hb).rules; obtain ⟨c2', f2', l2'⟩ := (bp.drew.keep hb).rules))
      have hbel : Below wr.heap.size wr w' := (Below.refl wr.heap.size wr).drew.trans hb
      obtain ⟨fn, tmps, assign, body, hy, hR⟩ := HY.out _ x w' (HJ.out _ _ _ hbel hJs) (by rw [HP.out]; exact List.take_prefix _ _)
      have bn2 := bn.keep hbel
      have bp2 := bp.keep hbel
      clear hbel hb
      gi_wp2
      refine hR.mono ?_
      rintro e W3 (⟨rfl, hJ3, hk3⟩ | ⟨rfl, hJx3, hk3⟩)
      · have bn3 := hk3.blk bn2 (.inl rfl)
        have bp3 := hk3.blk bp2 (.inr rfl)
        rw [HP.out] at hJ3
        gi_wp2
        go_roundw
        case rel => exact ⟨1, by omega, by simp, hJ3, bn3, bp3⟩
        case measure => simp [intOf]
      · gi_wp2
        refine bodyPost_ret (results_none rfl _ _ _) rfl ?_
        exact ⟨⟨_, rfl⟩, .inr ⟨_, by rw [HP.out]; exact List.take_prefix _ _, hJx3⟩⟩
    · have hv : bits BinOp.or IntKind.i64 (bits BinOp.and IntKind.i64 (p : Int) 63) 128 % 256 = ((UInt8.ofNat (128 + p % 64)).toNat : Int) := by
        have h := byteCont (p) (by omega)
        exact h
      have hpre : (cpBytes p).take 1 ++ [UInt8.ofNat (128 + p % 64)] = (cpBytes p).take 2 := by rw [HB.out]; rfl
      obtain ⟨x, hx⟩ : ∃ x, UInt8.ofNat (128 + p % 64) = x := ⟨_, rfl⟩
      rw [hx] at hv hpre
      clear hx
      have HP := Lib.hid hpre
      clear hpre
      obtain ⟨fn, tmps, assign, body, hy, hR⟩ := HY.out _ x wr hJs (by rw [HP.out]; exact List.take_prefix _ _)
      have bn2 := bn
      have bp2 := bp
      gi_wp2
      refine hR.mono ?_
      rintro e W3 (⟨rfl, hJ3, hk3⟩ | ⟨rfl, hJx3, hk3⟩)
      · have bn3 := hk3.blk bn2 (.inl rfl)
        have bp3 := hk3.blk bp2 (.inr rfl)
        rw [HP.out] at hJ3
        gi_wp2
        go_roundw
        case rel => exact ⟨2, by omega, by simp, hJ3, bn3, bp3⟩
        case measure => simp [intOf]
      · gi_wp2
        refine bodyPost_ret (results_none rfl _ _ _) rfl ?_
        exact ⟨⟨_, rfl⟩, .inr ⟨_, by rw [HP.out]; exact List.take_prefix _ _, hJx3⟩⟩
    · gi_wp2
      go_end0
      exact ⟨⟨_, rfl⟩, .inl ⟨_, rfl, by have := hJs; rw [HB.out] at this ⊢; exact this⟩⟩

set_option maxRecDepth 100000 in
set_option maxHeartbeats 2000000 in
theorem bytes1_3 (Bn Bp : Nat) (p : Nat) (l : Nat) (hp : 2048 ≤ p ∧ p < 65536) (J Jx : List UInt8 → World → Prop) (W : World)
    (hJ : ∀ s A B, Below A.heap.size A B → J s A → J s B)
    (hY : ∀ pre x W1, J pre W1 → pre ++ [x] <+: cpBytes p → YieldAt Fence.wide 1 Tryd.prog l #[.int .u8 x.toNat] W1 fun e W' =>
      (e = .returned (.bool true) ∧ J (pre ++ [x]) W' ∧ KpB Bn Bp W1 W') ∨ (e = .returned (.bool false) ∧ Jx (pre ++ [x]) W' ∧ KpB Bn Bp W1 W'))
    (hn : Blk W Bn 3 #[.int .i64 (3 : Nat)]) (hpB : Blk W Bp 171 #[.int .i64 p]) (h0 : J [] W) :
    CallsIn Fence.wide 2 Tryd.prog 157 #[.func (.yield l) #[] #[], .pointer (some ⟨Bn, 0, none⟩), .pointer (some ⟨Bp, 0, none⟩)] W fun e W' => (∃ v, e = .returned v) ∧
      ((∃ xs, xs = cpBytes p ∧ J xs W') ∨ (∃ pre, pre <+: cpBytes p ∧ Jx pre W')) := by
  have hbytes : cpBytes p = [UInt8.ofNat (224 + p / 4096), UInt8.ofNat (128 + p / 64 % 64), UInt8.ofNat (128 + p % 64)] := by
    unfold cpBytes
    rw [if_neg (by omega)]; rw [if_neg (by omega)]; rw [if_pos (by omega)]
  have HY := Lib.hid hY
  have HJ := Lib.hid hJ
  clear hY hJ
  refine callsIn_of_wp Tryd.func157 rfl trivial ?_ rfl
  simp only [Tryd.ntmps157, List.size_toArray, List.length_cons, List.length_nil, Nat.reduceAdd, Nat.reduceSub, Array.replicate_succ, Array.replicate_zero, List.push_toArray, List.append_toArray, List.nil_append, List.cons_append]
  obtain ⟨c1, f1, l1⟩ := hn.rules
  have HB := Lib.hid hbytes
  clear hbytes
  gi_wp2
  gi_loopw [4] (fun k wr => ∃ j : Nat, j ≤ 3 ∧ k = .int .i64 (2 - (j : Int)) ∧ J ((cpBytes p).take j) wr ∧ Blk wr Bn 3 #[.int .i64 (3 : Nat)] ∧ Blk wr Bp 171 #[.int .i64 p])
    (fun k wr => (intOf k + 1).toNat)
  case atStart => exact ⟨0, by omega, by simp, h0, hn, hpB⟩
  case round =>
    obtain ⟨j, hj, rfl, hJs, bn, bp⟩ := hrel
    clear hn hpB h0 c1 f1 l1
    obtain ⟨c1, f1, l1⟩ := bn.rules
    obtain ⟨c2, f2, l2⟩ := bp.rules
    have hw6 : IntKind.i64.wrap 12 = 12 := by decide
    have hw1 : IntKind.i64.wrap 2 = 2 := by decide
    rcases (by omega : j = 0 ∨ j = 1 ∨ j = 2 ∨ j = 3) with rfl | rfl | rfl | rfl
    · have hv : bits BinOp.or IntKind.i64 ((p : Int) / 4096) 224 % 256 = ((UInt8.ofNat (224 + p / 4096)).toNat : Int) := by
        have h := byteFirst (p / 4096) 224 5 7 rfl (by omega) (by omega)
        rw [Int.natCast_ediv] at h; exact h
      have hpre : (cpBytes p).take 0 ++ [UInt8.ofNat (224 + p / 4096)] = (cpBytes p).take 1 := by rw [HB.out]; rfl
      obtain ⟨x, hx⟩ : ∃ x, UInt8.ofNat (224 + p / 4096) = x := ⟨_, rfl⟩
      rw [hx] at hv hpre
      clear hx
      have HP := Lib.hid hpre
      clear hpre
      gi_wp2
      refine wpIn_wide.2 ?_
      go_region_held3 (fun w' => w'.cell? ⟨Bn, 0, none⟩ = some (.int .i64 (3 : Nat)) ∧ w'.cell? ⟨Bp, 0, none⟩ = some (.int .i64 p)) (go_keep) ((go_at_call 158; refine (forms_any _).mono ?_; rintro e w' ⟨rfl, hb⟩; obtain ⟨c1', f1', l1'⟩ := (bn.drew.keep hb).rules; obtain ⟨c2', f2', l2'⟩ := (bp.drew.keep hb).rules))
      have hbel : Below wr.heap.size wr w' := (Below.refl wr.heap.size wr).drew.trans hb
      obtain ⟨fn, tmps, assign, body, hy, hR⟩ := HY.out _ x w' (HJ.out _ _ _ hbel hJs) (by rw [HP.out]; exact List.take_prefix _ _)
      have bn2 := bn.keep hbel
      have bp2 := bp.keep hbel
      clear hbel hb
      gi_wp2
      refine hR.mono ?_
      rintro e W3 (⟨rfl, hJ3, hk3⟩ | ⟨rfl, hJx3, hk3⟩)
      · have bn3 := hk3.blk bn2 (.inl rfl)
        have bp3 := hk3.blk bp2 (.inr rfl)
        rw [HP.out] at hJ3
        gi_wp2
        go_roundw
        case rel => exact ⟨1, by omega, by simp, hJ3, bn3, bp3⟩
        case measure => simp [intOf]
      · gi_wp2
        refine bodyPost_ret (results_none rfl _ _ _) rfl ?_
        exact ⟨⟨_, rfl⟩, .inr ⟨_, by rw [HP.out]; exact List.take_prefix _ _, hJx3⟩⟩
    · have hv : bits BinOp.or IntKind.i64 (bits BinOp.and IntKind.i64 ((p : Int) / 64) 63) 128 % 256 = ((UInt8.ofNat (128 + p / 64 % 64)).toNat : Int) := by
        have h := byteCont (p / 64) (by omega)
        rw [Int.natCast_ediv] at h; exact h
      have hpre : (cpBytes p).take 1 ++ [UInt8.ofNat (128 + p / 64 % 64)] = (cpBytes p).take 2 := by rw [HB.out]; rfl
      obtain ⟨x, hx⟩ : ∃ x, UInt8.ofNat (128 + p / 64 % 64) = x := ⟨_, rfl⟩
      rw [hx] at hv hpre
      clear hx
      have HP := Lib.hid hpre
      clear hpre
      obtain ⟨fn, tmps, assign, body, hy, hR⟩ := HY.out _ x wr hJs (by rw [HP.out]; exact List.take_prefix _ _)
      have bn2 := bn
      have bp2 := bp
      gi_wp2
      refine hR.mono ?_
      rintro e W3 (⟨rfl, hJ3, hk3⟩ | ⟨rfl, hJx3, hk3⟩)
      · have bn3 := hk3.blk bn2 (.inl rfl)
        have bp3 := hk3.blk bp2 (.inr rfl)
        rw [HP.out] at hJ3
        gi_wp2
        go_roundw
        case rel => exact ⟨2, by omega, by simp, hJ3, bn3, bp3⟩
        case measure => simp [intOf]
      · gi_wp2
        refine bodyPost_ret (results_none rfl _ _ _) rfl ?_
        exact ⟨⟨_, rfl⟩, .inr ⟨_, by rw [HP.out]; exact List.take_prefix _ _, hJx3⟩⟩
    · have hv : bits BinOp.or IntKind.i64 (bits BinOp.and IntKind.i64 (p : Int) 63) 128 % 256 = ((UInt8.ofNat (128 + p % 64)).toNat : Int) := by
        have h := byteCont (p) (by omega)
        exact h
      have hpre : (cpBytes p).take 2 ++ [UInt8.ofNat (128 + p % 64)] = (cpBytes p).take 3 := by rw [HB.out]; rfl
      obtain ⟨x, hx⟩ : ∃ x, UInt8.ofNat (128 + p % 64) = x := ⟨_, rfl⟩
      rw [hx] at hv hpre
      clear hx
      have HP := Lib.hid hpre
      clear hpre
      obtain ⟨fn, tmps, assign, body, hy, hR⟩ := HY.out _ x wr hJs (by rw [HP.out]; exact List.take_prefix _ _)
      have bn2 := bn
      have bp2 := bp
      gi_wp2
      refine hR.mono ?_
      rintro e W3 (⟨rfl, hJ3, hk3⟩ | ⟨rfl, hJx3, hk3⟩)
      · have bn3 := hk3.blk bn2 (.inl rfl)
        have bp3 := hk3.blk bp2 (.inr rfl)
        rw [HP.out] at hJ3
        gi_wp2
        go_roundw
        case rel => exact ⟨3, by omega, by simp, hJ3, bn3, bp3⟩
        case measure => simp [intOf]
      · gi_wp2
        refine bodyPost_ret (results_none rfl _ _ _) rfl ?_
        exact ⟨⟨_, rfl⟩, .inr ⟨_, by rw [HP.out]; exact List.take_prefix _ _, hJx3⟩⟩
    · gi_wp2
      go_end0
      exact ⟨⟨_, rfl⟩, .inl ⟨_, rfl, by have := hJs; rw [HB.out] at this ⊢; exact this⟩⟩

set_option maxRecDepth 100000 in
set_option maxHeartbeats 2000000 in
theorem bytes1_4 (Bn Bp : Nat) (p : Nat) (l : Nat) (hp : 65536 ≤ p ∧ p < 1114112) (J Jx : List UInt8 → World → Prop) (W : World)
    (hJ : ∀ s A B, Below A.heap.size A B → J s A → J s B)
    (hY : ∀ pre x W1, J pre W1 → pre ++ [x] <+: cpBytes p → YieldAt Fence.wide 1 Tryd.prog l #[.int .u8 x.toNat] W1 fun e W' =>
      (e = .returned (.bool true) ∧ J (pre ++ [x]) W' ∧ KpB Bn Bp W1 W') ∨ (e = .returned (.bool false) ∧ Jx (pre ++ [x]) W' ∧ KpB Bn Bp W1 W'))
    (hn : Blk W Bn 3 #[.int .i64 (4 : Nat)]) (hpB : Blk W Bp 171 #[.int .i64 p]) (h0 : J [] W) :
    CallsIn Fence.wide 2 Tryd.prog 157 #[.func (.yield l) #[] #[], .pointer (some ⟨Bn, 0, none⟩), .pointer (some ⟨Bp, 0, none⟩)] W fun e W' => (∃ v, e = .returned v) ∧
      ((∃ xs, xs = cpBytes p ∧ J xs W') ∨ (∃ pre, pre <+: cpBytes p ∧ Jx pre W')) := by
  have hbytes : cpBytes p = [UInt8.ofNat (240 + p / 262144), UInt8.ofNat (128 + p / 4096 % 64), UInt8.ofNat (128 + p / 64 % 64), UInt8.ofNat (128 + p % 64)] := by
    unfold cpBytes
    rw [if_neg (by omega)]; rw [if_neg (by omega)]; rw [if_neg (by omega)]; skip
  have HY := Lib.hid hY
  have HJ := Lib.hid hJ
  clear hY hJ
  refine callsIn_of_wp Tryd.func157 rfl trivial ?_ rfl
  simp only [Tryd.ntmps157, List.size_toArray, List.length_cons, List.length_nil, Nat.reduceAdd, Nat.reduceSub, Array.replicate_succ, Array.replicate_zero, List.push_toArray, List.append_toArray, List.nil_append, List.cons_append]
  obtain ⟨c1, f1, l1⟩ := hn.rules
  have HB := Lib.hid hbytes
  clear hbytes
  gi_wp2
  gi_loopw [4] (fun k wr => ∃ j : Nat, j ≤ 4 ∧ k = .int .i64 (3 - (j : Int)) ∧ J ((cpBytes p).take j) wr ∧ Blk wr Bn 3 #[.int .i64 (4 : Nat)] ∧ Blk wr Bp 171 #[.int .i64 p])
    (fun k wr => (intOf k + 1).toNat)
  case atStart => exact ⟨0, by omega, by simp, h0, hn, hpB⟩
  case round =>
    obtain ⟨j, hj, rfl, hJs, bn, bp⟩ := hrel
    clear hn hpB h0 c1 f1 l1
    obtain ⟨c1, f1, l1⟩ := bn.rules
    obtain ⟨c2, f2, l2⟩ := bp.rules
    have hw6 : IntKind.i64.wrap 18 = 18 := by decide
    have hw1 : IntKind.i64.wrap 3 = 3 := by decide
    rcases (by omega : j = 0 ∨ j = 1 ∨ j = 2 ∨ j = 3 ∨ j = 4) with rfl | rfl | rfl | rfl | rfl
    · have hv : bits BinOp.or IntKind.i64 ((p : Int) / 262144) 240 % 256 = ((UInt8.ofNat (240 + p / 262144)).toNat : Int) := by
        have h := byteFirst (p / 262144) 240 4 15 rfl (by omega) (by omega)
        rw [Int.natCast_ediv] at h; exact h
      have hpre : (cpBytes p).take 0 ++ [UInt8.ofNat (240 + p / 262144)] = (cpBytes p).take 1 := by rw [HB.out]; rfl
      obtain ⟨x, hx⟩ : ∃ x, UInt8.ofNat (240 + p / 262144) = x := ⟨_, rfl⟩
      rw [hx] at hv hpre
      clear hx
      have HP := Lib.hid hpre
      clear hpre
      gi_wp2
      refine wpIn_wide.2 ?_
      go_region_held3 (fun w' => w'.cell? ⟨Bn, 0, none⟩ = some (.int .i64 (4 : Nat)) ∧ w'.cell? ⟨Bp, 0, none⟩ = some (.int .i64 p)) (go_keep) ((go_at_call 158; refine (forms_any _).mono ?_; rintro e w' ⟨rfl, hb⟩; obtain ⟨c1', f1', l1'⟩ := (bn.drew.keep hb).rules; obtain ⟨c2', f2', l2'⟩ := (bp.drew.keep hb).rules))
      have hbel : Below wr.heap.size wr w' := (Below.refl wr.heap.size wr).drew.trans hb
      obtain ⟨fn, tmps, assign, body, hy, hR⟩ := HY.out _ x w' (HJ.out _ _ _ hbel hJs) (by rw [HP.out]; exact List.take_prefix _ _)
      have bn2 := bn.keep hbel
      have bp2 := bp.keep hbel
      clear hbel hb
      gi_wp2
      refine hR.mono ?_
      rintro e W3 (⟨rfl, hJ3, hk3⟩ | ⟨rfl, hJx3, hk3⟩)
      · have bn3 := hk3.blk bn2 (.inl rfl)
        have bp3 := hk3.blk bp2 (.inr rfl)
        rw [HP.out] at hJ3
        gi_wp2
        go_roundw
        case rel => exact ⟨1, by omega, by simp, hJ3, bn3, bp3⟩
        case measure => simp [intOf]
      · gi_wp2
        refine bodyPost_ret (results_none rfl _ _ _) rfl ?_
        exact ⟨⟨_, rfl⟩, .inr ⟨_, by rw [HP.out]; exact List.take_prefix _ _, hJx3⟩⟩
    · have hv : bits BinOp.or IntKind.i64 (bits BinOp.and IntKind.i64 ((p : Int) / 4096) 63) 128 % 256 = ((UInt8.ofNat (128 + p / 4096 % 64)).toNat : Int) := by
        have h := byteCont (p / 4096) (by omega)
        rw [Int.natCast_ediv] at h; exact h
      have hpre : (cpBytes p).take 1 ++ [UInt8.ofNat (128 + p / 4096 % 64)] = (cpBytes p).take 2 := by rw [HB.out]; rfl
      obtain ⟨x, hx⟩ : ∃ x, UInt8.ofNat (128 + p / 4096 % 64) = x := ⟨_, rfl⟩
      rw [hx] at hv hpre
      clear hx
      have HP := Lib.hid hpre
      clear hpre
      obtain ⟨fn, tmps, assign, body, hy, hR⟩ := HY.out _ x wr hJs (by rw [HP.out]; exact List.take_prefix _ _)
      have bn2 := bn
      have bp2 := bp
      gi_wp2
      refine hR.mono ?_
      rintro e W3 (⟨rfl, hJ3, hk3⟩ | ⟨rfl, hJx3, hk3⟩)
      · have bn3 := hk3.blk bn2 (.inl rfl)
        have bp3 := hk3.blk bp2 (.inr rfl)
        rw [HP.out] at hJ3
        gi_wp2
        go_roundw
        case rel => exact ⟨2, by omega, by simp, hJ3, bn3, bp3⟩
        case measure => simp [intOf]
      · gi_wp2
        refine bodyPost_ret (results_none rfl _ _ _) rfl ?_
        exact ⟨⟨_, rfl⟩, .inr ⟨_, by rw [HP.out]; exact List.take_prefix _ _, hJx3⟩⟩
    · have hv : bits BinOp.or IntKind.i64 (bits BinOp.and IntKind.i64 ((p : Int) / 64) 63) 128 % 256 = ((UInt8.ofNat (128 + p / 64 % 64)).toNat : Int) := by
        have h := byteCont (p / 64) (by omega)
        rw [Int.natCast_ediv] at h; exact h
      have hpre : (cpBytes p).take 2 ++ [UInt8.ofNat (128 + p / 64 % 64)] = (cpBytes p).take 3 := by rw [HB.out]; rfl
      obtain ⟨x, hx⟩ : ∃ x, UInt8.ofNat (128 + p / 64 % 64) = x := ⟨_, rfl⟩
      rw [hx] at hv hpre
      clear hx
      have HP := Lib.hid hpre
      clear hpre
      obtain ⟨fn, tmps, assign, body, hy, hR⟩ := HY.out _ x wr hJs (by rw [HP.out]; exact List.take_prefix _ _)
      have bn2 := bn
      have bp2 := bp
      gi_wp2
      refine hR.mono ?_
      rintro e W3 (⟨rfl, hJ3, hk3⟩ | ⟨rfl, hJx3, hk3⟩)
      · have bn3 := hk3.blk bn2 (.inl rfl)
        have bp3 := hk3.blk bp2 (.inr rfl)
        rw [HP.out] at hJ3
        gi_wp2
        go_roundw
        case rel => exact ⟨3, by omega, by simp, hJ3, bn3, bp3⟩
        case measure => simp [intOf]
      · gi_wp2
        refine bodyPost_ret (results_none rfl _ _ _) rfl ?_
        exact ⟨⟨_, rfl⟩, .inr ⟨_, by rw [HP.out]; exact List.take_prefix _ _, hJx3⟩⟩
    · have hv : bits BinOp.or IntKind.i64 (bits BinOp.and IntKind.i64 (p : Int) 63) 128 % 256 = ((UInt8.ofNat (128 + p % 64)).toNat : Int) := by
        have h := byteCont (p) (by omega)
        exact h
      have hpre : (cpBytes p).take 3 ++ [UInt8.ofNat (128 + p % 64)] = (cpBytes p).take 4 := by rw [HB.out]; rfl
      obtain ⟨x, hx⟩ : ∃ x, UInt8.ofNat (128 + p % 64) = x := ⟨_, rfl⟩
      rw [hx] at hv hpre
      clear hx
      have HP := Lib.hid hpre
      clear hpre
      obtain ⟨fn, tmps, assign, body, hy, hR⟩ := HY.out _ x wr hJs (by rw [HP.out]; exact List.take_prefix _ _)
      have bn2 := bn
      have bp2 := bp
      gi_wp2
      refine hR.mono ?_
      rintro e W3 (⟨rfl, hJ3, hk3⟩ | ⟨rfl, hJx3, hk3⟩)
      · have bn3 := hk3.blk bn2 (.inl rfl)
        have bp3 := hk3.blk bp2 (.inr rfl)
        rw [HP.out] at hJ3
        gi_wp2
        go_roundw
        case rel => exact ⟨4, by omega, by simp, hJ3, bn3, bp3⟩
        case measure => simp [intOf]
      · gi_wp2
        refine bodyPost_ret (results_none rfl _ _ _) rfl ?_
        exact ⟨⟨_, rfl⟩, .inr ⟨_, by rw [HP.out]; exact List.take_prefix _ _, hJx3⟩⟩
    · gi_wp2
      go_end0
      exact ⟨⟨_, rfl⟩, .inl ⟨_, rfl, by have := hJs; rw [HB.out] at this ⊢; exact this⟩⟩

theorem cpLen_cases {p : Nat} (h : cpLen p ≠ 0) : (cpLen p = 1 ∧ 0 ≤ p ∧ p < 128) ∨ (cpLen p = 2 ∧ 128 ≤ p ∧ p < 2048) ∨ (cpLen p = 3 ∧ 2048 ≤ p ∧ p < 65536) ∨ (cpLen p = 4 ∧ 65536 ≤ p ∧ p < 1114112) := by
  have := (cpLen_iff p (cpLen p)).1 rfl
  omega

/-- the iterator's contract -/
theorem bytes_seq (Bn Bp p : Nat) (w : World) (hp : cpLen p ≠ 0) (hn : Blk w Bn 3 #[.int .i64 (cpSize p)]) (hpB : Blk w Bp 171 #[.int .i64 p]) :
    SeqSt Fence.wide 2 Tryd.prog 157 #[.pointer (some ⟨Bn, 0, none⟩), .pointer (some ⟨Bp, 0, none⟩)] (fun x : UInt8 => #[Value.int .u8 x.toNat])
      (fun A B => Below A.heap.size A B) (KpB Bn Bp) (fun pre x => pre ++ [x] <+: cpBytes p) (fun xs _ => xs = cpBytes p) (fun pre _ => pre <+: cpBytes p) w := by
  intro l J Jx W hW hJ _ hY h0
  have hn' := hn.keep hW
  have hp' := hpB.keep hW
  rcases cpLen_cases hp with ⟨e, hb⟩ | ⟨e, hb⟩ | ⟨e, hb⟩ | ⟨e, hb⟩
  · rw [(cpSize_int p 1).2 e] at hn'
    exact bytes1_1 Bn Bp p l hb J Jx W hJ hY hn' hp' h0
  · rw [(cpSize_int p 2).2 e] at hn'
    exact bytes1_2 Bn Bp p l hb J Jx W hJ hY hn' hp' h0
  · rw [(cpSize_int p 3).2 e] at hn'
    exact bytes1_3 Bn Bp p l hb J Jx W hJ hY hn' hp' h0
  · rw [(cpSize_int p 4).2 e] at hn'
    exact bytes1_4 Bn Bp p l hb J Jx W hJ hY hn' hp' h0
end Go.Proofs.YtalhoacancbldaaDoor
