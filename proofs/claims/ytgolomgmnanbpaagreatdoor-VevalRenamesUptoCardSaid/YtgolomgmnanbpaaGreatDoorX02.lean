import Derived.Test.YtgolomgmnanbpaaGreatDoorProg
import Derived.Test.YtgolomgmnanbpaaGreatDoorX01
import Derived.Deep.RegionHeld3
import Derived.Laws.EntriesVeiled
import Derived.StillTailTactics
import Derived.Deep.LoopGhost
import Derived.Defers
import Derived.Recover
import Derived.Sort.LoopGhostIn
import Derived.Laws.BytesString
import Derived.Lib.BufferRead
namespace Go.Proofs.YtgolomgmnanbpaaGreatDoor
set_option linter.unusedVariables false
set_option linter.unusedSimpArgs false
open Go.RowKit
attribute [local go_sem] run_index_arr run_part_agg run_part_one
structure GOK (w : World) : Prop where
  lt : 2 < w.heap.size
  c0 : w.cell? ⟨2, 0, none⟩ = some (.int .i64 0)
  c1 : w.cell? ⟨2, 1, none⟩ = some (.int .i64 0)
theorem GOK.below {B : Nat} {w w' : World} (h : GOK w) (hb : Below B w w') (hB : 2 < B) : GOK w' :=
  ⟨Nat.lt_of_lt_of_le h.lt hb.size, (hb.cell (p := ⟨2, 0, none⟩) hB).trans h.c0, (hb.cell (p := ⟨2, 1, none⟩) hB).trans h.c1⟩
theorem GOK.keep {w w' : World} (h : GOK w) (hb : Below w.heap.size w w') : GOK w' := h.below hb h.lt
theorem GOK.alloc {w : World} (h : GOK w) (o : Obj) : GOK (w.alloc o) := h.keep ((Below.refl w.heap.size w).alloc (Nat.le_refl _) o)
theorem GOK.drewN {w : World} (h : GOK w) (n : Nat) : GOK (w.drewN n) := ⟨h.lt, h.c0, h.c1⟩
set_option maxHeartbeats 400000 in
theorem size_any (p : Int) (w : World) :
    Calls Tryz.prog 200 #[.int .i64 p] w fun e w' => e = .returned (.int .i64 (cpSize p)) ∧ w = w' := by
  go_enter Tryz.func200, Tryz.ntmps200
  go_wp2
  all_goals go_ret
  all_goals exact ⟨ret_int (by rw [cpSize_eq]; repeat' split <;> omega), rfl⟩
set_option maxHeartbeats 400000 in
theorem forms_any (w : World) :
    Calls Tryz.prog 206 #[] w fun e w' => e = .returned (.agg #[.int .i64 0, .int .i64 0, .int .i64 7, .int .i64 0, .int .i64 5, .int .i64 192, .int .i64 4, .int .i64 224, .int .i64 3, .int .i64 240]) ∧ Below w.heap.size w w' := by
  go_enter Tryz.func206, Tryz.ntmps206
  go_wp2
  go_returns
  exact ⟨rfl, by go_grown⟩
def sizedNo (c k : Nat) : Prop := (2 ≤ k → ¬ c / 128 = 0) ∧ (3 ≤ k → ¬ c / 32 = 6) ∧ (4 ≤ k → ¬ c / 16 = 14) ∧ (5 ≤ k → ¬ c / 8 = 30)
set_option maxRecDepth 100000 in
set_option maxHeartbeats 2000000 in
theorem sized_any (c : Nat) (w : World) (hG : GOK w) (hc : c < 256) :
    Calls Tryz.prog 199 #[.int .u8 c] w fun e w' => e = .returned (.tuple #[.agg #[.int .i64 (sizedS c).1, .int .i64 (sizedS c).2.1], .int .i64 (sizedS c).2.2]) ∧ Below w.heap.size w w' := by
  have HG := hG
  obtain ⟨hg, h0, h1⟩ := hG
  go_enter Tryz.func199, Tryz.ntmps199
  go_wp2
  go_step3
  go_wp2
  go_step3
  go_wp2_with (go_at_call 206; refine (forms_any _).mono ?_; rintro e w' ⟨rfl, hb⟩)
  go_loopw [5, 10] (fun s i wr => ∃ k : Nat, k ≤ 5 ∧ i = .int .i64 k ∧ s = .int .i64 0 ∧ Blk wr w.heap.size 225 #[.int .i64 0, .int .i64 0] ∧ Blk wr (w.heap.size + 1) 225 #[.int .i64 0, .int .i64 0] ∧ GOK wr ∧ Below w.heap.size w wr ∧ sizedNo c k)
    (fun _ i _ => 5 - (intOf i).toNat)
  case atStart =>
    have b1 := (Blk.new (w.alloc (.cells #[.int .i64 0, .int .i64 0] 225)) 225 #[.int .i64 0, .int .i64 0]).keep hb
    rw [World.size_alloc] at b1
    exact ⟨0, by omega, rfl, rfl, ((Blk.new w 225 _).alloc _).keep hb, b1, ((HG.alloc _).alloc _).keep hb,
      (((Below.refl _ w).alloc (Nat.le_refl _) _).alloc (by simp) _).trans (hb.mono (by simp; omega)), by simp [sizedNo]⟩
  case round =>
    obtain ⟨k, hk, rfl, rfl, b2, b4, hGr, hbr, hno⟩ := hrel
    clear hb h0 h1 hg
    have hs := b4.lt
    obtain ⟨h2, h2f, _⟩ := b2.rules
    obtain ⟨h4, h4f, _⟩ := b4.rules
    obtain ⟨hg, h0, h1⟩ := hGr
    have HN := Lib.hid hno
    clear hno
    rcases (by omega : k = 0 ∨ k = 1 ∨ k = 2 ∨ k = 3 ∨ k = 4 ∨ k = 5) with rfl | rfl | rfl | rfl | rfl | rfl
    · go_wp2
      go_quiet (fail)
      go_wp2
      go_roundw
      case rel => exact ⟨1, by omega, rfl, rfl, (b2.alloc _).drewN _, (b4.alloc _).drewN _, (GOK.alloc ⟨hg, h0, h1⟩ _).drewN _, (by repeat (first | exact hbr | apply bel_drewN | (refine Below.setCell ?_ (by first | (simp; done) | (simp; omega) | omega) _) | (refine Below.alloc ?_ (by first | (simp; done) | (simp; omega) | omega) _))), by simp [sizedNo]⟩
      case measure => simp [intOf]
    · go_wp2
      go_quiet (fail)
      go_wp2
      · have hh : c / 128 = 0 := by
          have h := ‹((c : Int) / 128 == 0) = true›
          simp at h; omega
        rw [Exit.noGoto_ret]
        refine bodyPost_ret (v := .tuple #[.agg #[.int .i64 7, .int .i64 0], .int .i64 1]) (by simp only [results, Tryz.results199]; go_simp) rfl ⟨?_, (by repeat (first | exact hbr | apply bel_drewN | (refine Below.setCell ?_ (by first | (simp; done) | (simp; omega) | omega) _) | (refine Below.alloc ?_ (by first | (simp; done) | (simp; omega) | omega) _)))⟩
        have hno := HN.out
        simp only [sizedNo] at hno
        have hs : sizedS c = (7, 0, 1) := by simp only [sizedS]; rw [if_pos hh]
        rw [hs]; rfl
      · have hh : ¬ c / 128 = 0 := by
          have h := ‹((c : Int) / 128 == 0) = false›
          simp at h; omega
        go_roundw
        case rel => exact ⟨2, by omega, rfl, rfl, (b2.alloc _).drewN _, (b4.alloc _).drewN _, (GOK.alloc ⟨hg, h0, h1⟩ _).drewN _, (by repeat (first | exact hbr | apply bel_drewN | (refine Below.setCell ?_ (by first | (simp; done) | (simp; omega) | omega) _) | (refine Below.alloc ?_ (by first | (simp; done) | (simp; omega) | omega) _))), by have hno := HN.out; simp only [sizedNo] at hno ⊢; omega⟩
        case measure => simp [intOf]
    · go_wp2
      go_quiet (fail)
      go_wp2
      · have hh : c / 32 = 6 := by
          have h := ‹((c : Int) / 32 == 6) = true›
          simp at h; omega
        rw [Exit.noGoto_ret]
        refine bodyPost_ret (v := .tuple #[.agg #[.int .i64 5, .int .i64 192], .int .i64 2]) (by simp only [results, Tryz.results199]; go_simp) rfl ⟨?_, (by repeat (first | exact hbr | apply bel_drewN | (refine Below.setCell ?_ (by first | (simp; done) | (simp; omega) | omega) _) | (refine Below.alloc ?_ (by first | (simp; done) | (simp; omega) | omega) _)))⟩
        have hno := HN.out
        simp only [sizedNo] at hno
        have hs : sizedS c = (5, 192, 2) := by simp only [sizedS]; rw [if_neg (by omega)]; rw [if_pos hh]
        rw [hs]; rfl
      · have hh : ¬ c / 32 = 6 := by
          have h := ‹((c : Int) / 32 == 6) = false›
          simp at h; omega
        go_roundw
        case rel => exact ⟨3, by omega, rfl, rfl, (b2.alloc _).drewN _, (b4.alloc _).drewN _, (GOK.alloc ⟨hg, h0, h1⟩ _).drewN _, (by repeat (first | exact hbr | apply bel_drewN | (refine Below.setCell ?_ (by first | (simp; done) | (simp; omega) | omega) _) | (refine Below.alloc ?_ (by first | (simp; done) | (simp; omega) | omega) _))), by have hno := HN.out; simp only [sizedNo] at hno ⊢; omega⟩
        case measure => simp [intOf]
    · go_wp2
      go_quiet (fail)
      go_wp2
      · have hh : c / 16 = 14 := by
          have h := ‹((c : Int) / 16 == 14) = true›
          simp at h; omega
        rw [Exit.noGoto_ret]
        refine bodyPost_ret (v := .tuple #[.agg #[.int .i64 4, .int .i64 224], .int .i64 3]) (by simp only [results, Tryz.results199]; go_simp) rfl ⟨?_, (by repeat (first | exact hbr | apply bel_drewN | (refine Below.setCell ?_ (by first | (simp; done) | (simp; omega) | omega) _) | (refine Below.alloc ?_ (by first | (simp; done) | (simp; omega) | omega) _)))⟩
        have hno := HN.out
        simp only [sizedNo] at hno
        have hs : sizedS c = (4, 224, 3) := by simp only [sizedS]; rw [if_neg (by omega)]; rw [if_neg (by omega)]; rw [if_pos hh]
        rw [hs]; rfl
      · have hh : ¬ c / 16 = 14 := by
          have h := ‹((c : Int) / 16 == 14) = false›
          simp at h; omega
        go_roundw
        case rel => exact ⟨4, by omega, rfl, rfl, (b2.alloc _).drewN _, (b4.alloc _).drewN _, (GOK.alloc ⟨hg, h0, h1⟩ _).drewN _, (by repeat (first | exact hbr | apply bel_drewN | (refine Below.setCell ?_ (by first | (simp; done) | (simp; omega) | omega) _) | (refine Below.alloc ?_ (by first | (simp; done) | (simp; omega) | omega) _))), by have hno := HN.out; simp only [sizedNo] at hno ⊢; omega⟩
        case measure => simp [intOf]
    · go_wp2
      go_quiet (fail)
      go_wp2
      · have hh : c / 8 = 30 := by
          have h := ‹((c : Int) / 8 == 30) = true›
          simp at h; omega
        rw [Exit.noGoto_ret]
        refine bodyPost_ret (v := .tuple #[.agg #[.int .i64 3, .int .i64 240], .int .i64 4]) (by simp only [results, Tryz.results199]; go_simp) rfl ⟨?_, (by repeat (first | exact hbr | apply bel_drewN | (refine Below.setCell ?_ (by first | (simp; done) | (simp; omega) | omega) _) | (refine Below.alloc ?_ (by first | (simp; done) | (simp; omega) | omega) _)))⟩
        have hno := HN.out
        simp only [sizedNo] at hno
        have hs : sizedS c = (3, 240, 4) := by simp only [sizedS]; rw [if_neg (by omega)]; rw [if_neg (by omega)]; rw [if_neg (by omega)]; rw [if_pos hh]
        rw [hs]; rfl
      · have hh : ¬ c / 8 = 30 := by
          have h := ‹((c : Int) / 8 == 30) = false›
          simp at h; omega
        go_roundw
        case rel => exact ⟨5, by omega, rfl, rfl, (b2.alloc _).drewN _, (b4.alloc _).drewN _, (GOK.alloc ⟨hg, h0, h1⟩ _).drewN _, (by repeat (first | exact hbr | apply bel_drewN | (refine Below.setCell ?_ (by first | (simp; done) | (simp; omega) | omega) _) | (refine Below.alloc ?_ (by first | (simp; done) | (simp; omega) | omega) _))), by have hno := HN.out; simp only [sizedNo] at hno ⊢; omega⟩
        case measure => simp [intOf]
    · go_wp2
      rw [Exit.noGoto_ret]
      refine bodyPost_ret (v := .tuple #[.agg #[.int .i64 0, .int .i64 0], .int .i64 0]) (by simp only [results, Tryz.results199]; go_simp) rfl ⟨?_, (by repeat (first | exact hbr | apply bel_drewN | (refine Below.setCell ?_ (by first | (simp; done) | (simp; omega) | omega) _) | (refine Below.alloc ?_ (by first | (simp; done) | (simp; omega) | omega) _)))⟩
      have hno := HN.out
      simp only [sizedNo] at hno
      have hs : sizedS c = (0, 0, 0) := by simp only [sizedS]; rw [if_neg (by omega), if_neg (by omega), if_neg (by omega), if_neg (by omega)]
      rw [hs]; rfl
end Go.Proofs.YtgolomgmnanbpaaGreatDoor
namespace Go.Proofs.YtgolomgmnanbpaaGreatDoor
set_option linter.unusedVariables false
set_option linter.unusedSimpArgs false
open Go.RowKit
attribute [local go_sem] run_index_arr run_part_agg run_part_one
def gath (l : List UInt8) (p : Nat) (k : Nat) : Nat := ((l.drop 1).take k).foldl (fun p c => p * 64 + c.toNat % 64) p
def contOk (l : List UInt8) (k : Nat) : Bool := !((l.drop 1).take k).any (fun c => c.toNat / 64 != 2)
theorem gath_succ {l : List UInt8} {p k : Nat} {c : UInt8} (h : l[k + 1]? = some c) : gath l p (k + 1) = gath l p k * 64 + c.toNat % 64 := by
  unfold gath
  have : (l.drop 1)[k]? = some c := by rw [List.getElem?_drop, Nat.add_comm]; exact h
  rw [List.take_add_one, this]; simp
theorem contOk_succ {l : List UInt8} {k : Nat} {c : UInt8} (h : l[k + 1]? = some c) : contOk l (k + 1) = (contOk l k && c.toNat / 64 == 2) := by
  unfold contOk
  have : (l.drop 1)[k]? = some c := by rw [List.getElem?_drop, Nat.add_comm]; exact h
  rw [List.take_add_one, this]; simp [bne, Bool.not_not]
theorem contOk_mono {l : List UInt8} {k n : Nat} (h : k ≤ n) (hf : contOk l k = false) : contOk l n = false := by
  induction n with
  | zero => obtain rfl : k = 0 := by omega
            exact hf
  | succ n ih =>
    rcases Nat.lt_or_ge n k with h1 | h1
    · obtain rfl : k = n + 1 := by omega
      exact hf
    · rcases hl : l[n + 1]? with _ | c
      · have h2 : contOk l (n + 1) = contOk l n := by
          unfold contOk
          have : (l.drop 1).length ≤ n := by
            have := List.getElem?_eq_none_iff.1 hl; simp; omega
          rw [List.take_of_length_le (by omega), List.take_of_length_le this]
        rw [h2]; exact ih h1
      · rw [contOk_succ hl, ih h1]; rfl
theorem gath_le (l : List UInt8) (p k : Nat) : gath l p k < (p + 1) * 64 ^ k := by
  unfold gath
  generalize hm : (l.drop 1).take k = m
  have hk : m.length ≤ k := by rw [← hm]; exact List.length_take_le _ _
  clear hm
  have key : ∀ (m : List UInt8) (p : Nat), m.foldl (fun p c => p * 64 + c.toNat % 64) p < (p + 1) * 64 ^ m.length := by
    intro m
    induction m with
    | nil => intro p; simp
    | cons c m ih =>
      intro p
      rw [List.foldl_cons, List.length_cons, Nat.pow_succ]
      refine Nat.lt_of_lt_of_le (ih _) ?_
      have : p * 64 + c.toNat % 64 + 1 ≤ (p + 1) * 64 := by omega
      calc (p * 64 + c.toNat % 64 + 1) * 64 ^ m.length ≤ ((p + 1) * 64) * 64 ^ m.length := Nat.mul_le_mul_right _ this
        _ = (p + 1) * (64 ^ m.length * 64) := by rw [Nat.mul_assoc, Nat.mul_comm 64]
  exact Nat.lt_of_lt_of_le (key m p) (Nat.mul_le_mul_left _ (Nat.pow_le_pow_right (by omega) hk))
set_option maxRecDepth 100000 in
set_option maxHeartbeats 2000000 in
theorem next_2 (b o cap : Nat) (l : List UInt8) (c0 : UInt8) (r : List UInt8) (w : World) (hl : l = c0 :: r) (hG : GOK w) (hb : b < w.heap.size)
    (hx : ∀ i c, l[i]? = some c → w.cell? ⟨b, o + i, none⟩ = some (.int .u8 c.toNat)) (hcap : l.length ≤ cap) (hlen : l.length ≤ 4194304) (hsz : sizedS c0.toNat = (5, 192, 2)) :
    Calls Tryz.prog 189 #[.slice (some ⟨b, o, none⟩) l.length cap] w fun e w' => e = .returned (.tuple #[.int .i64 (nextS l).1, .int .i64 (nextS l).2]) ∧ Below w.heap.size w w' := by
  have hc0 : w.cell? ⟨b, o, none⟩ = some (.int .u8 c0.toNat) := hx 0 c0 (by rw [hl]; rfl)
  have hlt := c0.toNat_lt
  have hpos : 0 < l.length := by rw [hl]; simp
  have hns : nextS l = if l.length < 2 then (0, 0) else if contOk l 1 = false then (0, 0) else if cpLen (gath l (c0.toNat % 2 ^ 5) 1) ≠ 2 then (0, 0) else (gath l (c0.toNat % 2 ^ 5) 1, 2) := by
    subst hl
    simp only [nextS, List.headD_cons, hsz, contOk, gath]
    simp
  have HL := Lib.hid hl
  have HS := Lib.hid hns
  have HZ := Lib.hid hsz
  have HX := Lib.hid hx
  clear hl hns hsz hx
  by_cases hn : l.length < 2
  · rw [show nextS l = (0, 0) from by rw [HS.out, if_pos hn]]
    go_enter Tryz.func189, Tryz.ntmps189
    go_wp2_with (go_at_call 199; refine (sized_any _ _ hG (by omega)).mono ?_; rintro e w1 ⟨rfl, hb1⟩; rw [HZ.out]; have hz1 := hb1.size; obtain ⟨hg, h0, h1⟩ := hG.keep hb1)
    go_ret2
    exact ⟨rfl, (by repeat (first | exact hb1 | apply bel_drewN | (refine Below.setCell ?_ (by first | (simp; done) | (simp; omega) | omega) _) | (refine Below.alloc ?_ (by first | (simp; done) | (simp; omega) | omega) _)))⟩
  · have hnl : (2 : Nat) ≤ l.length := by omega
    have hcl : (2 : Nat) ≤ cap := by omega
    clear hn
    go_enter Tryz.func189, Tryz.ntmps189
    go_wp2_with (go_at_call 199; refine (sized_any _ _ hG (by omega)).mono ?_; rintro e w1 ⟨rfl, hb1⟩; rw [HZ.out]; have hz1 := hb1.size; obtain ⟨hg, h0, h1⟩ := hG.keep hb1; have hc1 : w1.cell? ⟨b, o, none⟩ = some (.int .u8 c0.toNat) := (hb1.cell hb).trans hc0; have hsz : b < w1.heap.size := Nat.lt_of_lt_of_le hb hb1.size)
    go_quiet (fail)
    go_wp2
    have hm : bits BinOp.and IntKind.i64 (c0.toNat : Int) 31 = ((c0.toNat % 2 ^ 5 : Nat) : Int) := i64_mask c0.toNat 5 (by omega) (by decide)
    go_loop [6, 38] (fun p i => ∃ k : Nat, k ≤ 1 ∧ i = .int .i64 k ∧ p = .int .i64 (gath l (c0.toNat % 2 ^ 5) k) ∧ contOk l k = true) (fun _ i => 1 - (intOf i).toNat)
    case atStart => exact ⟨0, by omega, rfl, by rw [hm]; simp [gath], by simp [contOk]⟩
    case round =>
      obtain ⟨k, hk, rfl, rfl, hok⟩ := hrel
      clear hm
      have hgl := gath_le l (c0.toNat % 2 ^ 5) k
      have hgb : gath l (c0.toNat % 2 ^ 5) k < 8388608 := by
        refine Nat.lt_of_lt_of_le hgl ?_
        have h1 : 64 ^ k ≤ 64 ^ 1 := Nat.pow_le_pow_right (by omega) hk
        have h2 : c0.toNat % 2 ^ 5 + 1 ≤ 32 := by have := Nat.mod_lt c0.toNat (show 0 < 2 ^ 5 by decide); omega
        calc (c0.toNat % 2 ^ 5 + 1) * 64 ^ k ≤ 32 * 64 ^ 1 := Nat.mul_le_mul h2 h1
          _ ≤ 8388608 := by decide
      clear hgl
      have HO := Lib.hid hok
      clear hok
      by_cases hk1 : k < 1
      · obtain ⟨c, hc⟩ : ∃ c, l[k + 1]? = some c := ⟨l[k + 1]'(by omega), List.getElem?_eq_getElem _⟩
        have hck : w1.cell? ⟨b, o + 1 + k, none⟩ = some (.int .u8 c.toNat) := (hb1.cell hb).trans (by rw [Nat.add_assoc, Nat.add_comm 1 k]; exact HX.out _ _ hc)
        have hG := Lib.hid (gath_succ (p := c0.toNat % 2 ^ 5) hc)
        have hC := Lib.hid (contOk_succ hc)
        have HC := Lib.hid hc
        clear hc
        have hlt2 := c.toNat_lt
        obtain ⟨p, hp⟩ : ∃ p, gath l (c0.toNat % 2 ^ 5) k = p := ⟨_, rfl⟩
        rw [hp] at hgb hG ⊢
        have HP := Lib.hid hp
        clear hp
        have hj := Lib.hid (i64_join p (c.toNat % 64) 6 (by omega) (by omega))
        go_wp2
        · have hh : ¬ c.toNat / 64 = 2 := by
            have h := ‹((c.toNat : Int) / 64 != 2) = true›
            simp at h; omega
          go_ret2
          refine ⟨?_, (by repeat (first | exact hb1 | apply bel_drewN | (refine Below.setCell ?_ (by first | (simp; done) | (simp; omega) | omega) _) | (refine Below.alloc ?_ (by first | (simp; done) | (simp; omega) | omega) _)))⟩
          have hf : contOk l 1 = false := contOk_mono (k := k + 1) (by omega) (by rw [hC.out]; simp [hh])
          rw [HS.out, if_neg (by omega), if_pos hf]; rfl
        · have hh : c.toNat / 64 = 2 := by
            have h := ‹((c.toNat : Int) / 64 != 2) = false›
            simp at h; omega
          go_round
          case rel => exact ⟨k + 1, by omega, by go_num, by rw [hG.out, ← hj.out]; go_num, by rw [hC.out, HO.out]; simp [hh]⟩
          case measure => simp [intOf]; omega
      · obtain rfl : k = 1 := by omega
        obtain ⟨p, hp⟩ : ∃ p, gath l (c0.toNat % 2 ^ 5) 1 = p := ⟨_, rfl⟩
        have HS2 : Hid (nextS l = if cpLen p ≠ 2 then (0, 0) else (p, 2)) := by
          have := HS.out
          rw [if_neg (by omega), if_neg (by rw [HO.out]; simp), hp] at this
          exact this
        rw [hp] at hgb ⊢
        clear hp
        go_wp2_with (go_at_call 200; refine (size_any _ _).mono ?_; rintro e w' ⟨rfl, rfl⟩)
        · have hh : cpLen p ≠ 2 := by
            have h := ‹(cpSize (p : Int) != 2) = true›
            intro he
            rw [(cpSize_int p 2).2 he] at h
            simp at h
          go_ret2
          exact ⟨by rw [HS2.out, if_pos hh]; rfl, (by repeat (first | exact hb1 | apply bel_drewN | (refine Below.setCell ?_ (by first | (simp; done) | (simp; omega) | omega) _) | (refine Below.alloc ?_ (by first | (simp; done) | (simp; omega) | omega) _)))⟩
        · have hh : cpLen p = 2 := by
            have h := ‹(cpSize (p : Int) != 2) = false›
            exact (cpSize_int p 2).1 (by simpa using h)
          go_ret2
          exact ⟨by rw [HS2.out, if_neg (by simp [hh])]; rfl, (by repeat (first | exact hb1 | apply bel_drewN | (refine Below.setCell ?_ (by first | (simp; done) | (simp; omega) | omega) _) | (refine Below.alloc ?_ (by first | (simp; done) | (simp; omega) | omega) _)))⟩
set_option maxRecDepth 100000 in
set_option maxHeartbeats 2000000 in
theorem next_3 (b o cap : Nat) (l : List UInt8) (c0 : UInt8) (r : List UInt8) (w : World) (hl : l = c0 :: r) (hG : GOK w) (hb : b < w.heap.size)
    (hx : ∀ i c, l[i]? = some c → w.cell? ⟨b, o + i, none⟩ = some (.int .u8 c.toNat)) (hcap : l.length ≤ cap) (hlen : l.length ≤ 4194304) (hsz : sizedS c0.toNat = (4, 224, 3)) :
    Calls Tryz.prog 189 #[.slice (some ⟨b, o, none⟩) l.length cap] w fun e w' => e = .returned (.tuple #[.int .i64 (nextS l).1, .int .i64 (nextS l).2]) ∧ Below w.heap.size w w' := by
  have hc0 : w.cell? ⟨b, o, none⟩ = some (.int .u8 c0.toNat) := hx 0 c0 (by rw [hl]; rfl)
  have hlt := c0.toNat_lt
  have hpos : 0 < l.length := by rw [hl]; simp
  have hns : nextS l = if l.length < 3 then (0, 0) else if contOk l 2 = false then (0, 0) else if cpLen (gath l (c0.toNat % 2 ^ 4) 2) ≠ 3 then (0, 0) else (gath l (c0.toNat % 2 ^ 4) 2, 3) := by
    subst hl
    simp only [nextS, List.headD_cons, hsz, contOk, gath]
    simp
  have HL := Lib.hid hl
  have HS := Lib.hid hns
  have HZ := Lib.hid hsz
  have HX := Lib.hid hx
  clear hl hns hsz hx
  by_cases hn : l.length < 3
  · rw [show nextS l = (0, 0) from by rw [HS.out, if_pos hn]]
    go_enter Tryz.func189, Tryz.ntmps189
    go_wp2_with (go_at_call 199; refine (sized_any _ _ hG (by omega)).mono ?_; rintro e w1 ⟨rfl, hb1⟩; rw [HZ.out]; have hz1 := hb1.size; obtain ⟨hg, h0, h1⟩ := hG.keep hb1)
    go_ret2
    exact ⟨rfl, (by repeat (first | exact hb1 | apply bel_drewN | (refine Below.setCell ?_ (by first | (simp; done) | (simp; omega) | omega) _) | (refine Below.alloc ?_ (by first | (simp; done) | (simp; omega) | omega) _)))⟩
  · have hnl : (3 : Nat) ≤ l.length := by omega
    have hcl : (3 : Nat) ≤ cap := by omega
    clear hn
    go_enter Tryz.func189, Tryz.ntmps189
    go_wp2_with (go_at_call 199; refine (sized_any _ _ hG (by omega)).mono ?_; rintro e w1 ⟨rfl, hb1⟩; rw [HZ.out]; have hz1 := hb1.size; obtain ⟨hg, h0, h1⟩ := hG.keep hb1; have hc1 : w1.cell? ⟨b, o, none⟩ = some (.int .u8 c0.toNat) := (hb1.cell hb).trans hc0; have hsz : b < w1.heap.size := Nat.lt_of_lt_of_le hb hb1.size)
    go_quiet (fail)
    go_wp2
    have hm : bits BinOp.and IntKind.i64 (c0.toNat : Int) 15 = ((c0.toNat % 2 ^ 4 : Nat) : Int) := i64_mask c0.toNat 4 (by omega) (by decide)
    go_loop [6, 38] (fun p i => ∃ k : Nat, k ≤ 2 ∧ i = .int .i64 k ∧ p = .int .i64 (gath l (c0.toNat % 2 ^ 4) k) ∧ contOk l k = true) (fun _ i => 2 - (intOf i).toNat)
    case atStart => exact ⟨0, by omega, rfl, by rw [hm]; simp [gath], by simp [contOk]⟩
    case round =>
      obtain ⟨k, hk, rfl, rfl, hok⟩ := hrel
      clear hm
      have hgl := gath_le l (c0.toNat % 2 ^ 4) k
      have hgb : gath l (c0.toNat % 2 ^ 4) k < 8388608 := by
        refine Nat.lt_of_lt_of_le hgl ?_
        have h1 : 64 ^ k ≤ 64 ^ 2 := Nat.pow_le_pow_right (by omega) hk
        have h2 : c0.toNat % 2 ^ 4 + 1 ≤ 16 := by have := Nat.mod_lt c0.toNat (show 0 < 2 ^ 4 by decide); omega
        calc (c0.toNat % 2 ^ 4 + 1) * 64 ^ k ≤ 16 * 64 ^ 2 := Nat.mul_le_mul h2 h1
          _ ≤ 8388608 := by decide
      clear hgl
      have HO := Lib.hid hok
      clear hok
      by_cases hk1 : k < 2
      · obtain ⟨c, hc⟩ : ∃ c, l[k + 1]? = some c := ⟨l[k + 1]'(by omega), List.getElem?_eq_getElem _⟩
        have hck : w1.cell? ⟨b, o + 1 + k, none⟩ = some (.int .u8 c.toNat) := (hb1.cell hb).trans (by rw [Nat.add_assoc, Nat.add_comm 1 k]; exact HX.out _ _ hc)
        have hG := Lib.hid (gath_succ (p := c0.toNat % 2 ^ 4) hc)
        have hC := Lib.hid (contOk_succ hc)
        have HC := Lib.hid hc
        clear hc
        have hlt2 := c.toNat_lt
        obtain ⟨p, hp⟩ : ∃ p, gath l (c0.toNat % 2 ^ 4) k = p := ⟨_, rfl⟩
        rw [hp] at hgb hG ⊢
        have HP := Lib.hid hp
        clear hp
        have hj := Lib.hid (i64_join p (c.toNat % 64) 6 (by omega) (by omega))
        go_wp2
        · have hh : ¬ c.toNat / 64 = 2 := by
            have h := ‹((c.toNat : Int) / 64 != 2) = true›
            simp at h; omega
          go_ret2
          refine ⟨?_, (by repeat (first | exact hb1 | apply bel_drewN | (refine Below.setCell ?_ (by first | (simp; done) | (simp; omega) | omega) _) | (refine Below.alloc ?_ (by first | (simp; done) | (simp; omega) | omega) _)))⟩
          have hf : contOk l 2 = false := contOk_mono (k := k + 1) (by omega) (by rw [hC.out]; simp [hh])
          rw [HS.out, if_neg (by omega), if_pos hf]; rfl
        · have hh : c.toNat / 64 = 2 := by
            have h := ‹((c.toNat : Int) / 64 != 2) = false›
            simp at h; omega
          go_round
          case rel => exact ⟨k + 1, by omega, by go_num, by rw [hG.out, ← hj.out]; go_num, by rw [hC.out, HO.out]; simp [hh]⟩
          case measure => simp [intOf]; omega
      · obtain rfl : k = 2 := by omega
        obtain ⟨p, hp⟩ : ∃ p, gath l (c0.toNat % 2 ^ 4) 2 = p := ⟨_, rfl⟩
        have HS2 : Hid (nextS l = if cpLen p ≠ 3 then (0, 0) else (p, 3)) := by
          have := HS.out
          rw [if_neg (by omega), if_neg (by rw [HO.out]; simp), hp] at this
          exact this
        rw [hp] at hgb ⊢
        clear hp
        go_wp2_with (go_at_call 200; refine (size_any _ _).mono ?_; rintro e w' ⟨rfl, rfl⟩)
        · have hh : cpLen p ≠ 3 := by
            have h := ‹(cpSize (p : Int) != 3) = true›
            intro he
            rw [(cpSize_int p 3).2 he] at h
            simp at h
          go_ret2
          exact ⟨by rw [HS2.out, if_pos hh]; rfl, (by repeat (first | exact hb1 | apply bel_drewN | (refine Below.setCell ?_ (by first | (simp; done) | (simp; omega) | omega) _) | (refine Below.alloc ?_ (by first | (simp; done) | (simp; omega) | omega) _)))⟩
        · have hh : cpLen p = 3 := by
            have h := ‹(cpSize (p : Int) != 3) = false›
            exact (cpSize_int p 3).1 (by simpa using h)
          go_ret2
          exact ⟨by rw [HS2.out, if_neg (by simp [hh])]; rfl, (by repeat (first | exact hb1 | apply bel_drewN | (refine Below.setCell ?_ (by first | (simp; done) | (simp; omega) | omega) _) | (refine Below.alloc ?_ (by first | (simp; done) | (simp; omega) | omega) _)))⟩
set_option maxRecDepth 100000 in
set_option maxHeartbeats 2000000 in
theorem next_4 (b o cap : Nat) (l : List UInt8) (c0 : UInt8) (r : List UInt8) (w : World) (hl : l = c0 :: r) (hG : GOK w) (hb : b < w.heap.size)
    (hx : ∀ i c, l[i]? = some c → w.cell? ⟨b, o + i, none⟩ = some (.int .u8 c.toNat)) (hcap : l.length ≤ cap) (hlen : l.length ≤ 4194304) (hsz : sizedS c0.toNat = (3, 240, 4)) :
    Calls Tryz.prog 189 #[.slice (some ⟨b, o, none⟩) l.length cap] w fun e w' => e = .returned (.tuple #[.int .i64 (nextS l).1, .int .i64 (nextS l).2]) ∧ Below w.heap.size w w' := by
  have hc0 : w.cell? ⟨b, o, none⟩ = some (.int .u8 c0.toNat) := hx 0 c0 (by rw [hl]; rfl)
  have hlt := c0.toNat_lt
  have hpos : 0 < l.length := by rw [hl]; simp
  have hns : nextS l = if l.length < 4 then (0, 0) else if contOk l 3 = false then (0, 0) else if cpLen (gath l (c0.toNat % 2 ^ 3) 3) ≠ 4 then (0, 0) else (gath l (c0.toNat % 2 ^ 3) 3, 4) := by
    subst hl
    simp only [nextS, List.headD_cons, hsz, contOk, gath]
    simp
  have HL := Lib.hid hl
  have HS := Lib.hid hns
  have HZ := Lib.hid hsz
  have HX := Lib.hid hx
  clear hl hns hsz hx
  by_cases hn : l.length < 4
  · rw [show nextS l = (0, 0) from by rw [HS.out, if_pos hn]]
    go_enter Tryz.func189, Tryz.ntmps189
    go_wp2_with (go_at_call 199; refine (sized_any _ _ hG (by omega)).mono ?_; rintro e w1 ⟨rfl, hb1⟩; rw [HZ.out]; have hz1 := hb1.size; obtain ⟨hg, h0, h1⟩ := hG.keep hb1)
    go_ret2
    exact ⟨rfl, (by repeat (first | exact hb1 | apply bel_drewN | (refine Below.setCell ?_ (by first | (simp; done) | (simp; omega) | omega) _) | (refine Below.alloc ?_ (by first | (simp; done) | (simp; omega) | omega) _)))⟩
  · have hnl : (4 : Nat) ≤ l.length := by omega
    have hcl : (4 : Nat) ≤ cap := by omega
    clear hn
    go_enter Tryz.func189, Tryz.ntmps189
    go_wp2_with (go_at_call 199; refine (sized_any _ _ hG (by omega)).mono ?_; rintro e w1 ⟨rfl, hb1⟩; rw [HZ.out]; have hz1 := hb1.size; obtain ⟨hg, h0, h1⟩ := hG.keep hb1; have hc1 : w1.cell? ⟨b, o, none⟩ = some (.int .u8 c0.toNat) := (hb1.cell hb).trans hc0; have hsz : b < w1.heap.size := Nat.lt_of_lt_of_le hb hb1.size)
    go_quiet (fail)
    go_wp2
    have hm : bits BinOp.and IntKind.i64 (c0.toNat : Int) 7 = ((c0.toNat % 2 ^ 3 : Nat) : Int) := i64_mask c0.toNat 3 (by omega) (by decide)
    go_loop [6, 38] (fun p i => ∃ k : Nat, k ≤ 3 ∧ i = .int .i64 k ∧ p = .int .i64 (gath l (c0.toNat % 2 ^ 3) k) ∧ contOk l k = true) (fun _ i => 3 - (intOf i).toNat)
    case atStart => exact ⟨0, by omega, rfl, by rw [hm]; simp [gath], by simp [contOk]⟩
    case round =>
      obtain ⟨k, hk, rfl, rfl, hok⟩ := hrel
      clear hm
      have hgl := gath_le l (c0.toNat % 2 ^ 3) k
      have hgb : gath l (c0.toNat % 2 ^ 3) k < 8388608 := by
        refine Nat.lt_of_lt_of_le hgl ?_
        have h1 : 64 ^ k ≤ 64 ^ 3 := Nat.pow_le_pow_right (by omega) hk
        have h2 : c0.toNat % 2 ^ 3 + 1 ≤ 8 := by have := Nat.mod_lt c0.toNat (show 0 < 2 ^ 3 by decide); omega
        calc (c0.toNat % 2 ^ 3 + 1) * 64 ^ k ≤ 8 * 64 ^ 3 := Nat.mul_le_mul h2 h1
          _ ≤ 8388608 := by decide
      clear hgl
      have HO := Lib.hid hok
      clear hok
      by_cases hk1 : k < 3
      · obtain ⟨c, hc⟩ : ∃ c, l[k + 1]? = some c := ⟨l[k + 1]'(by omega), List.getElem?_eq_getElem _⟩
        have hck : w1.cell? ⟨b, o + 1 + k, none⟩ = some (.int .u8 c.toNat) := (hb1.cell hb).trans (by rw [Nat.add_assoc, Nat.add_comm 1 k]; exact HX.out _ _ hc)
        have hG := Lib.hid (gath_succ (p := c0.toNat % 2 ^ 3) hc)
        have hC := Lib.hid (contOk_succ hc)
        have HC := Lib.hid hc
        clear hc
        have hlt2 := c.toNat_lt
        obtain ⟨p, hp⟩ : ∃ p, gath l (c0.toNat % 2 ^ 3) k = p := ⟨_, rfl⟩
        rw [hp] at hgb hG ⊢
        have HP := Lib.hid hp
        clear hp
        have hj := Lib.hid (i64_join p (c.toNat % 64) 6 (by omega) (by omega))
        go_wp2
        · have hh : ¬ c.toNat / 64 = 2 := by
            have h := ‹((c.toNat : Int) / 64 != 2) = true›
            simp at h; omega
          go_ret2
          refine ⟨?_, (by repeat (first | exact hb1 | apply bel_drewN | (refine Below.setCell ?_ (by first | (simp; done) | (simp; omega) | omega) _) | (refine Below.alloc ?_ (by first | (simp; done) | (simp; omega) | omega) _)))⟩
          have hf : contOk l 3 = false := contOk_mono (k := k + 1) (by omega) (by rw [hC.out]; simp [hh])
          rw [HS.out, if_neg (by omega), if_pos hf]; rfl
        · have hh : c.toNat / 64 = 2 := by
            have h := ‹((c.toNat : Int) / 64 != 2) = false›
            simp at h; omega
          go_round
          case rel => exact ⟨k + 1, by omega, by go_num, by rw [hG.out, ← hj.out]; go_num, by rw [hC.out, HO.out]; simp [hh]⟩
          case measure => simp [intOf]; omega
      · obtain rfl : k = 3 := by omega
        obtain ⟨p, hp⟩ : ∃ p, gath l (c0.toNat % 2 ^ 3) 3 = p := ⟨_, rfl⟩
        have HS2 : Hid (nextS l = if cpLen p ≠ 4 then (0, 0) else (p, 4)) := by
          have := HS.out
          rw [if_neg (by omega), if_neg (by rw [HO.out]; simp), hp] at this
          exact this
        rw [hp] at hgb ⊢
        clear hp
        go_wp2_with (go_at_call 200; refine (size_any _ _).mono ?_; rintro e w' ⟨rfl, rfl⟩)
        · have hh : cpLen p ≠ 4 := by
            have h := ‹(cpSize (p : Int) != 4) = true›
            intro he
            rw [(cpSize_int p 4).2 he] at h
            simp at h
          go_ret2
          exact ⟨by rw [HS2.out, if_pos hh]; rfl, (by repeat (first | exact hb1 | apply bel_drewN | (refine Below.setCell ?_ (by first | (simp; done) | (simp; omega) | omega) _) | (refine Below.alloc ?_ (by first | (simp; done) | (simp; omega) | omega) _)))⟩
        · have hh : cpLen p = 4 := by
            have h := ‹(cpSize (p : Int) != 4) = false›
            exact (cpSize_int p 4).1 (by simpa using h)
          go_ret2
          exact ⟨by rw [HS2.out, if_neg (by simp [hh])]; rfl, (by repeat (first | exact hb1 | apply bel_drewN | (refine Below.setCell ?_ (by first | (simp; done) | (simp; omega) | omega) _) | (refine Below.alloc ?_ (by first | (simp; done) | (simp; omega) | omega) _)))⟩
set_option maxRecDepth 100000 in
set_option maxHeartbeats 2000000 in
theorem next_1 (b o cap : Nat) (l : List UInt8) (c0 : UInt8) (r : List UInt8) (w : World) (hl : l = c0 :: r) (hG : GOK w) (hb : b < w.heap.size)
    (hx : ∀ i c, l[i]? = some c → w.cell? ⟨b, o + i, none⟩ = some (.int .u8 c.toNat)) (hcap : l.length ≤ cap) (hlen : l.length ≤ 4194304) (hsz : sizedS c0.toNat = (7, 0, 1)) :
    Calls Tryz.prog 189 #[.slice (some ⟨b, o, none⟩) l.length cap] w fun e w' => e = .returned (.tuple #[.int .i64 (nextS l).1, .int .i64 (nextS l).2]) ∧ Below w.heap.size w w' := by
  have hc0 : w.cell? ⟨b, o, none⟩ = some (.int .u8 c0.toNat) := hx 0 c0 (by rw [hl]; rfl)
  have hlt := c0.toNat_lt
  have hpos : 0 < l.length := by rw [hl]; simp
  have h128 : c0.toNat / 128 = 0 := by
    simp only [sizedS] at hsz
    by_cases h : c0.toNat / 128 = 0
    · exact h
    · rw [if_neg h] at hsz; repeat' split at hsz
      all_goals simp at hsz
  have hns : nextS l = (c0.toNat, 1) := by
    rw [nextS_eq l (by rw [hl]; simp)]
    subst hl
    rw [begin_1 ((ok1 _ _).2 (by omega))]
    simp [cpNum]
  have HZ := Lib.hid hsz
  have h7 : c0.toNat < 128 := by omega
  rw [hns]
  clear hl hns hsz hx h128
  have hm : bits BinOp.and IntKind.i64 (c0.toNat : Int) 127 = (c0.toNat : Int) := by
    rw [show (127 : Int) = ((2 ^ 7 - 1 : Nat) : Int) from rfl, i64_mask c0.toNat 7 (by omega) (by decide)]; omega
  have HM := Lib.hid hm
  clear hm
  go_enter Tryz.func189, Tryz.ntmps189
  go_wp2_with (go_at_call 199; refine (sized_any _ _ hG (by omega)).mono ?_; rintro e w1 ⟨rfl, hb1⟩; rw [HZ.out]; have hz1 := hb1.size; obtain ⟨hg, h0, h1⟩ := hG.keep hb1; have hc1 : w1.cell? ⟨b, o, none⟩ = some (.int .u8 c0.toNat) := (hb1.cell hb).trans hc0; have hsz : b < w1.heap.size := Nat.lt_of_lt_of_le hb hb1.size)
  have HC := Lib.hid (show cpSize (c0.toNat : Int) = 1 from (cpSize_int c0.toNat 1).2 ((cpLen_iff _ _).2 (by omega)))
  go_quiet (fail)
  go_wp2
  all_goals
    refine wp_loop_rounds 1 ?_
    rw [rounds_succ, HM.out]
    go_wp2_with (go_at_call 200; refine (size_any _ _).mono ?_; rintro e w' ⟨rfl, rfl⟩; rw [HC.out])
    go_ret2
    exact ⟨rfl, (by repeat (first | exact hb1 | apply bel_drewN | (refine Below.setCell ?_ (by first | (simp; done) | (simp; omega) | omega) _) | (refine Below.alloc ?_ (by first | (simp; done) | (simp; omega) | omega) _)))⟩
set_option maxRecDepth 100000 in
set_option maxHeartbeats 2000000 in
theorem next_0 (b o cap : Nat) (l : List UInt8) (c0 : UInt8) (r : List UInt8) (w : World) (hl : l = c0 :: r) (hG : GOK w) (hb : b < w.heap.size)
    (hx : ∀ i c, l[i]? = some c → w.cell? ⟨b, o + i, none⟩ = some (.int .u8 c.toNat)) (hsz : sizedS c0.toNat = (0, 0, 0)) :
    Calls Tryz.prog 189 #[.slice (some ⟨b, o, none⟩) l.length cap] w fun e w' => e = .returned (.tuple #[.int .i64 (nextS l).1, .int .i64 (nextS l).2]) ∧ Below w.heap.size w w' := by
  have hc0 : w.cell? ⟨b, o, none⟩ = some (.int .u8 c0.toNat) := hx 0 c0 (by rw [hl]; rfl)
  have hlt := c0.toNat_lt
  have hpos : 0 < l.length := by rw [hl]; simp
  have hns : nextS l = (0, 0) := by
    subst hl
    simp [nextS, hsz]
  have HZ := Lib.hid hsz
  rw [hns]
  clear hl hns hsz hx
  go_enter Tryz.func189, Tryz.ntmps189
  go_wp2_with (go_at_call 199; refine (sized_any _ _ hG (by omega)).mono ?_; rintro e w1 ⟨rfl, hb1⟩; rw [HZ.out]; have hz1 := hb1.size; obtain ⟨hg, h0, h1⟩ := hG.keep hb1)
  go_ret2
  exact ⟨rfl, (by repeat (first | exact hb1 | apply bel_drewN | (refine Below.setCell ?_ (by first | (simp; done) | (simp; omega) | omega) _) | (refine Below.alloc ?_ (by first | (simp; done) | (simp; omega) | omega) _)))⟩
theorem next_any (b o cap : Nat) (l : List UInt8) (w : World) (hl : l ≠ []) (hG : GOK w) (hb : b < w.heap.size)
    (hx : ∀ i c, l[i]? = some c → w.cell? ⟨b, o + i, none⟩ = some (.int .u8 c.toNat)) (hcap : l.length ≤ cap) (hlen : l.length ≤ 4194304) :
    Calls Tryz.prog 189 #[.slice (some ⟨b, o, none⟩) l.length cap] w fun e w' => e = .returned (.tuple #[.int .i64 (cpBegin l).1, .int .i64 (cpBegin l).2]) ∧ Below w.heap.size w w' := by
  rw [← nextS_eq l hl]
  obtain ⟨c0, r, hr⟩ := List.exists_cons_of_ne_nil hl
  have hs : sizedS c0.toNat = (7, 0, 1) ∨ sizedS c0.toNat = (5, 192, 2) ∨ sizedS c0.toNat = (4, 224, 3) ∨ sizedS c0.toNat = (3, 240, 4) ∨ sizedS c0.toNat = (0, 0, 0) := by
    unfold sizedS; repeat' split
    all_goals simp
  rcases hs with h | h | h | h | h
  · exact next_1 b o cap l c0 r w hr hG hb hx hcap hlen h
  · exact next_2 b o cap l c0 r w hr hG hb hx hcap hlen h
  · exact next_3 b o cap l c0 r w hr hG hb hx hcap hlen h
  · exact next_4 b o cap l c0 r w hr hG hb hx hcap hlen h
  · exact next_0 b o cap l c0 r w hr hG hb hx h
def nextR (l : List UInt8) (at_ : Int) : Int × Int × Int :=
  if at_ < 0 ∨ (l.length : Int) < at_ then (0, 0, 2) else if at_ = l.length then (0, 0, 6)
  else if (cpBegin (l.drop at_.toNat)).2 = 0 then (0, 0, 110) else ((cpBegin (l.drop at_.toNat)).1, at_ + (cpBegin (l.drop at_.toNat)).2, 0)
end Go.Proofs.YtgolomgmnanbpaaGreatDoor
namespace Go.Proofs.YtgolomgmnanbpaaGreatDoor
set_option linter.unusedVariables false
set_option linter.unusedSimpArgs false
open Go.RowKit Go.Shelf
attribute [local go_sem] run_index_arr run_part_agg run_part_one run_field_agg Oper.semAt_some
end Go.Proofs.YtgolomgmnanbpaaGreatDoor
namespace Go.Proofs.YtgolomgmnanbpaaGreatDoor
set_option linter.unusedVariables false
set_option linter.unusedSimpArgs false
open Go.RowKit Go.Shelf
attribute [local go_sem] run_index_arr run_part_agg run_part_one run_field_agg Oper.semAt_some
theorem infoByte : (Tryz.prog.info? 5).map (fun i => (i.zero, i.size, i.bytes)) = some (some (.int .u8 0), 1, 1) := by kernel_rfl
end Go.Proofs.YtgolomgmnanbpaaGreatDoor
namespace Go.Proofs.YtgolomgmnanbpaaGreatDoor
set_option linter.unusedVariables false
set_option linter.unusedSimpArgs false
open Go.RowKit
attribute [local go_sem] run_index_arr run_part_agg run_part_one run_field_agg
def lettersV : Value := .agg #[.int .u8 34, .int .u8 34, .int .u8 92, .int .u8 92, .int .u8 47, .int .u8 47, .int .u8 98, .int .u8 8, .int .u8 102, .int .u8 12, .int .u8 110, .int .u8 10, .int .u8 114, .int .u8 13, .int .u8 116, .int .u8 9]
set_option maxRecDepth 100000 in
set_option maxHeartbeats 1000000 in
theorem letters_any (w : World) : Calls Tryz.prog 184 #[] w fun e w' => e = .returned lettersV ∧ Below w.heap.size w w' := by
  go_enter Tryz.func184, Tryz.ntmps184
  go_wp2
  go_returns
  exact ⟨rfl, by go_grown⟩
end Go.Proofs.YtgolomgmnanbpaaGreatDoor
namespace Go.Proofs.YtgolomgmnanbpaaGreatDoor
set_option linter.unusedVariables false
set_option linter.unusedSimpArgs false
open Go.RowKit
attribute [local go_sem] run_index_arr run_part_agg run_part_one run_field_agg
end Go.Proofs.YtgolomgmnanbpaaGreatDoor
namespace Go.Proofs.YtgolomgmnanbpaaGreatDoor
set_option linter.unusedVariables false
set_option linter.unusedSimpArgs false
open Go.RowKit
attribute [local go_sem] run_index_arr run_part_agg run_part_one run_field_agg
end Go.Proofs.YtgolomgmnanbpaaGreatDoor
namespace Go.Proofs.YtgolomgmnanbpaaGreatDoor
set_option linter.unusedVariables false
set_option linter.unusedSimpArgs false
open Go.RowKit
attribute [local go_sem] run_index_arr run_part_agg run_part_one run_field_agg
end Go.Proofs.YtgolomgmnanbpaaGreatDoor
namespace Go.Proofs.YtgolomgmnanbpaaGreatDoor
set_option linter.unusedVariables false
set_option linter.unusedSimpArgs false
open Go.RowKit
attribute [local go_sem] run_index_arr run_part_agg run_part_one run_field_agg
def qsS (l : List UInt8) (a : Nat) : Int × Int × Int :=
  match l[a]? with
  | some c => if c.toNat = 92 then escS l a else if c.toNat < 32 ∨ c.toNat = 34 then (0, 0, 7) else nextR l a
  | none => (0, 0, 0)
def qSign (l : List UInt8) (a : Int) : Int × Int × Int :=
  if a < 0 ∨ (l.length : Int) < a then (0, 0, 2) else if a = l.length then (0, 0, 6) else qsS l a.toNat
end Go.Proofs.YtgolomgmnanbpaaGreatDoor
namespace Go.Proofs.YtgolomgmnanbpaaGreatDoor
set_option linter.unusedVariables false
set_option linter.unusedSimpArgs false
open Go.RowKit Go.Shelf
attribute [local go_sem] run_index_arr run_part_agg run_part_one run_field_agg Oper.semAt_some
def signsF (l : List UInt8) : Nat → Nat → List (Int × Int)
  | 0, _ => []
  | k + 1, a => if a < l.length ∧ (qsS l a).2.2 = 0 then ((qsS l a).1, (qsS l a).2.1) :: signsF l k (qsS l a).2.1.toNat else []
def signsL (l : List UInt8) (a : Nat) : List (Int × Int) := signsF l (l.length - a) a
end Go.Proofs.YtgolomgmnanbpaaGreatDoor
namespace Go.Proofs.YtgolomgmnanbpaaGreatDoor
set_option linter.unusedVariables false
set_option linter.unusedSimpArgs false
open Go.RowKit
attribute [local go_sem] run_index_arr run_part_agg run_part_one run_field_agg
structure NSt where
  pos : Nat
  minus : Bool
  size : Nat
  over : Bool
  part : Bool
theorem gb_setCell {a w : World} {g : Nat} (h : a.grownBy w (some g)) (i : Nat) (u : Value) : a.grownBy (w.setCell ⟨g, i, none⟩ u) (some g) :=
  ⟨h.os, h.tape, h.output, by simpa [World.setCell] using h.size, fun j hj hne => (Below.heap_setCell w ⟨g, i, none⟩ u j (fun e => hne (by rw [e]))).trans (h.block j hj hne)⟩
theorem gb_refl (w : World) (row : Option Nat) : w.grownBy w row := ⟨rfl, rfl, rfl, Nat.le_refl _, fun _ _ _ => rfl⟩
theorem Rd.setCell {w : World} {A : Option Addr} {xs : List Value} {g : Nat} (h : Rd w A xs) (hne : ∀ b o, A = some ⟨b, o, none⟩ → xs ≠ [] → b ≠ g) (i : Nat) (u : Value) : Rd (w.setCell ⟨g, i, none⟩ u) A xs := fun hn => by
  obtain ⟨b, o, rfl, hb, hx⟩ := h hn
  refine ⟨b, o, rfl, by simpa [World.setCell] using hb, fun j hj => ?_⟩
  rw [← hx j hj]
  exact World.cell?_of_block (w := w) (Below.heap_setCell w ⟨g, i, none⟩ u b (hne b o rfl hn))
end Go.Proofs.YtgolomgmnanbpaaGreatDoor
namespace Go.Proofs.YtgolomgmnanbpaaGreatDoor
set_option linter.unusedVariables false
set_option linter.unusedSimpArgs false
open Go.RowKit
attribute [local go_sem] run_index_arr run_part_agg run_part_one run_field_agg
def growS (d : Nat) (s : NSt) : NSt := { s with over := s.over || decide ((18446744073709551615 - d) / 10 < s.size), size := (10 * s.size + d) % 18446744073709551616 }
def growAll (ds : List UInt8) (s : NSt) : NSt := ds.foldl (fun s c => growS (dval c) s) s
def digS (gr : Bool) (ds : List UInt8) (s : NSt) : NSt := if gr then { growAll ds s with pos := s.pos + ds.length } else { s with pos := s.pos + ds.length }
end Go.Proofs.YtgolomgmnanbpaaGreatDoor
namespace Go.Proofs.YtgolomgmnanbpaaGreatDoor
set_option linter.unusedVariables false
set_option linter.unusedSimpArgs false
open Go.RowKit
attribute [local go_sem] run_index_arr run_part_agg run_part_one run_field_agg
def takeS (s : List UInt8) (l : List UInt8) (st : NSt) : NSt := if seesB l st.pos s then { st with pos := st.pos + 1 } else st
def rowS (gr : Bool) (l : List UInt8) (st : NSt) : NSt × Option Nat := if digs l st.pos = [] then (st, some st.pos) else (digS gr (digs l st.pos) st, none)
def signS (l : List UInt8) (st : NSt) : NSt × Option Nat := ({ takeS [45] l st with minus := seesB l st.pos [45] }, none)
def wholeS (l : List UInt8) (st : NSt) : NSt × Option Nat := if seesB l st.pos [48] then ({ st with pos := st.pos + 1 }, none) else rowS true l st
def fracS (l : List UInt8) (st : NSt) : NSt × Option Nat := if seesB l st.pos [46] then rowS false l { st with pos := st.pos + 1, part := true } else (st, none)
def expS (l : List UInt8) (st : NSt) : NSt × Option Nat := if seesB l st.pos [101, 69] then rowS false l (takeS [43, 45] l { st with pos := st.pos + 1, part := true }) else (st, none)
end Go.Proofs.YtgolomgmnanbpaaGreatDoor
namespace Go.Proofs.YtgolomgmnanbpaaGreatDoor
set_option linter.unusedVariables false
set_option linter.unusedSimpArgs false
open Go.RowKit
attribute [local go_sem] run_index_arr run_part_agg run_part_one run_field_agg
def stepK : Nat → List UInt8 → NSt → NSt × Option Nat
  | 0 => signS | 1 => wholeS | 2 => fracS | _ => expS
def runK (l : List UInt8) : List Nat → NSt → NSt × Option Nat
  | [], st => (st, none)
  | k :: ks, st => match stepK k l st with | (st', none) => runK l ks st' | r => r
def numRun (l : List UInt8) (st : NSt) : NSt × Option Nat := runK l [0, 1, 2, 3] st
end Go.Proofs.YtgolomgmnanbpaaGreatDoor
namespace Go.Proofs.YtgolomgmnanbpaaGreatDoor
set_option linter.unusedVariables false
set_option linter.unusedSimpArgs false
open Go.RowKit
attribute [local go_sem] run_index_arr run_part_agg run_part_one run_field_agg
def numStart (a : Nat) : NSt := { pos := a, minus := false, size := 0, over := false, part := false }
def numBig (minus : Bool) : Nat := if minus then 9223372036854775808 else 9223372036854775807
def numEnd (st : NSt) (a : Int) : Int × Int × Int :=
  if (st.part || st.over || decide (numBig st.minus < st.size)) = true then (0, a, 130) else ((if st.minus then -(st.size : Int) else st.size), st.pos, 0)
def numRead (l : List UInt8) (a : Int) : Int × Int × Int :=
  if a < 0 ∨ (l.length : Int) < a then (0, 0, 2) else
  match numRun l (numStart a.toNat) with
  | (_, some p) => (0, p, 7)
  | (st, none) => numEnd st a
end Go.Proofs.YtgolomgmnanbpaaGreatDoor
namespace Go.Proofs.YtgolomgmnanbpaaGreatDoor
set_option linter.unusedVariables false
set_option linter.unusedSimpArgs false
open Go.RowKit Go.Shelf
attribute [local go_sem] run_index_arr run_part_agg run_part_one run_field_agg Oper.semAt_some
def StS (Ba : Nat) (A B : World) : Prop := World.grownBy A B (some Ba) ∧ ∀ q : Int, Blk A Ba 3 #[.int .i64 q] → ∃ q' : Int, Blk B Ba 3 #[.int .i64 q']
theorem StS.of_below {Ba : Nat} {A B : World} (h : Below A.heap.size A B) : StS Ba A B := ⟨⟨h.os, h.tape, h.output, h.size, fun i hi _ => h.block i hi⟩, fun q hb => ⟨q, hb.keep h⟩⟩
end Go.Proofs.YtgolomgmnanbpaaGreatDoor
namespace Go.Proofs.YtgolomgmnanbpaaGreatDoor
set_option linter.unusedVariables false
set_option linter.unusedSimpArgs false
open Go.RowKit Go.Shelf
attribute [local go_sem] run_index_arr run_part_agg run_part_one run_field_agg Oper.semAt_some
theorem BS.conv {w : World} {v : Value} {l : List UInt8} (h : BS w v l) : (convert 76 9 v).run Tryz.prog w = .ok (.string ⟨l.toArray⟩) w := by
  obtain ⟨A, cap, rfl, hc, hr⟩ := h
  cases A with
  | none =>
    have hl : l = [] := by
      cases l with
      | nil => rfl
      | cons c r => obtain ⟨b, o, e, _⟩ := hr (by simp [byteV]); cases e
    subst hl
    exact Lib.run_convert_nil_bytes w _ _ 5 cap (by simp [go_sem]) (by simp [go_sem]) (by simp [go_sem])
  | some a =>
    refine Go.run_convert_bytes_back w _ _ 5 a cap l (by simp [go_sem]) (by simp [go_sem]) (by simp [go_sem]) ?_
    intro j hj
    obtain ⟨b, o, e, _, hx⟩ := hr (by intro e; have := byteV_len l; rw [e] at this; simp at this; omega)
    cases e
    have := hx j (by rw [byteV_len]; exact hj)
    have e2 : (⟨b, o, none⟩ : Addr).add j = ⟨b, o + j, none⟩ := by simp [Addr.add]
    rw [e2]
    simpa [byteV] using this
def qBytes (xs : List (Int × Int)) : List UInt8 := xs.flatMap fun x => cpBytes x.1.toNat
def qEnd (a : Nat) (xs : List (Int × Int)) : Nat := match xs.getLast? with | some x => x.2.toNat | none => a
end Go.Proofs.YtgolomgmnanbpaaGreatDoor
namespace Go.Proofs.YtgolomgmnanbpaaGreatDoor
set_option linter.unusedVariables false
set_option linter.unusedSimpArgs false
open Go.RowKit Go.Shelf
attribute [local go_sem] run_index_arr run_part_agg run_part_one run_field_agg Oper.semAt_some
def qRead (l : List UInt8) (a : Int) : List UInt8 × Int × Int :=
  if a < 0 ∨ (l.length : Int) < a then ([], 0, 2) else if a = l.length then ([], a, 6) else if l[a.toNat]? ≠ some 34 then ([], a, 7)
  else if l[qEnd (a.toNat + 1) (signsL l (a.toNat + 1))]? = some 34 then (qBytes (signsL l (a.toNat + 1)), qEnd (a.toNat + 1) (signsL l (a.toNat + 1)) + 1, 0)
  else ([], qEnd (a.toNat + 1) (signsL l (a.toNat + 1)), (qSign l (qEnd (a.toNat + 1) (signsL l (a.toNat + 1)) : Nat)).2.2)
theorem BS.putObj {W : World} {v : Value} {l : List UInt8} {k : Nat} {o : Obj} (o' : Obj) (h : BS W v l) (ho : W.heap[k]? = some o) (hc : o.isCells = false) : BS (W.putObj k o') v l := by
  obtain ⟨A, cap, rfl, hcap, hr⟩ := h
  exact ⟨A, cap, rfl, hcap, hr.putObj o' ho hc⟩
theorem KeepsFrom.below_ {B : Nat} {W W' : World} (h : Below W.heap.size W W') : KeepsFrom B W W' := ⟨h.size, fun k o _ ho _ => (h.block k (Array.getElem?_eq_some_iff.1 ho).1).trans ho⟩
theorem kf_setBlk {B : Nat} {W W' : World} {g : Nat} {t : TypeId} {cs : Array Value} (h : KeepsFrom B W W') (hb : Blk W' g t cs) (i : Nat) (u : Value) : KeepsFrom B W (W'.setCell ⟨g, i, none⟩ u) :=
  ⟨by simpa [World.setCell] using h.1, fun k o hk ho hc => by
    have h1 := h.2 k o hk ho hc
    rw [← h1]
    refine Below.heap_setCell W' ⟨g, i, none⟩ u k ?_
    rintro rfl
    unfold Blk at hb
    rw [hb] at h1
    cases h1
    cases hc⟩
end Go.Proofs.YtgolomgmnanbpaaGreatDoor
namespace Go.Proofs.YtgolomgmnanbpaaGreatDoor
set_option linter.unusedVariables false
set_option linter.unusedSimpArgs false
inductive JV where
  | mk : Int → Int → List UInt8 → List JV → List (List UInt8) → JV
def JV.kind : JV → Int | .mk k _ _ _ _ => k
def JV.num : JV → Int | .mk _ n _ _ _ => n
def JV.txt : JV → List UInt8 | .mk _ _ s _ _ => s
def JV.kids : JV → List JV | .mk _ _ _ l _ => l
def JV.keys : JV → List (List UInt8) | .mk _ _ _ _ k => k
def jZero : JV := .mk 0 0 [] [] []
def ltB (a b : List UInt8) : Bool := Op.bytesLess a b
def insPos (key : List UInt8) (keys : List (List UInt8)) : Nat → Nat
  | 0 => 0
  | n + 1 => if ltB key (keys.getD n []) then insPos key keys n else n + 1
theorem insPos_le (key : List UInt8) (keys : List (List UInt8)) : ∀ n, insPos key keys n ≤ n
  | 0 => Nat.le_refl _
  | n + 1 => by unfold insPos; split; exact Nat.le_succ_of_le (insPos_le key keys n); exact Nat.le_refl _
def insAt {α : Type} (l : List α) (i : Nat) (x : α) : List α := l.take i ++ x :: l.drop i
def addKid (v : JV) (key : List UInt8) (x : JV) : JV :=
  match v with
  | .mk k n s kids keys =>
    if k = 6 then .mk k n s (insAt kids (insPos key keys kids.length) x) (insAt keys (insPos key keys kids.length) key)
    else .mk k n s (kids ++ [x]) keys
abbrev JStk := List (JV × List UInt8)
inductive PRes where
  | fail : Int → Int → PRes
  | done : Nat → JV → PRes
  | go : Nat → Nat → Nat → JStk → PRes
def failF (l : List UInt8) (p e : Int) : Int × Int := (p, if e = 7 ∧ (l.length : Int) ≤ p then 6 else e)
def pFail (l : List UInt8) (p e : Int) : PRes := .fail (failF l p e).1 (failF l p e).2
def pPut (v : JV) (m many : Nat) : JStk → PRes
  | [] => .done m v
  | (top, key) :: r => .go 5 m many ((addKid top key v, key) :: r)
def beginsB (c : UInt8) : Bool := decide (c.toNat = 34 ∨ c.toNat = 91 ∨ c.toNat = 123 ∨ c.toNat = 45 ∨ c.toNat = 110 ∨ c.toNat = 116 ∨ c.toNat = 102 ∨ (48 ≤ c.toNat ∧ c.toNat ≤ 57))
def wordMis (l : List UInt8) (p : Nat) : List UInt8 → Option Nat
  | [] => none
  | c :: r => if l[p]? = some c then wordMis l (p + 1) r else some p
def wordJ (l : List UInt8) (p : Nat) (u : List UInt8) (v : JV) : Sum (JV × Nat) (Int × Int) :=
  match wordMis l p u with | none => .inl (v, p + u.length) | some q => .inr (failF l q 7)
def nullT : List UInt8 := [110, 117, 108, 108]
def trueT : List UInt8 := [116, 114, 117, 101]
def falseT : List UInt8 := [102, 97, 108, 115, 101]
def textJ (l : List UInt8) (p : Nat) : Sum (JV × Nat) (Int × Int) :=
  if (qRead l p).2.2 = 0 then .inl (.mk 4 0 (qRead l p).1 [] [], (qRead l p).2.1.toNat) else .inr (failF l (qRead l p).2.1 (qRead l p).2.2)
def numJ (l : List UInt8) (p : Nat) : Sum (JV × Nat) (Int × Int) :=
  if (numRead l p).2.2 = 0 then .inl (.mk 3 (numRead l p).1 [] [] [], (numRead l p).2.1.toNat) else .inr (failF l (numRead l p).2.1 (numRead l p).2.2)
def atomJ (l : List UInt8) (p : Nat) (c : UInt8) : Sum (JV × Nat) (Int × Int) :=
  if c.toNat = 34 then textJ l p else if c.toNat = 110 then wordJ l p nullT (.mk 1 0 [] [] []) else if c.toNat = 116 then wordJ l p trueT (.mk 2 1 [] [] [])
  else if c.toNat = 102 then wordJ l p falseT (.mk 2 0 [] [] []) else numJ l p
inductive BRes where
  | err : Int → Int → BRes
  | atom : JV → Nat → BRes
  | opens : Nat → Bool → BRes
def beginJ (l : List UInt8) (at_ many deep : Nat) : BRes :=
  match l[skipB l at_]? with
  | none => .err (failF l (skipB l at_) 7).1 (failF l (skipB l at_) 7).2
  | some c =>
    if beginsB c = false then .err (failF l (skipB l at_) 7).1 (failF l (skipB l at_) 7).2
    else if many = 256 then .err (skipB l at_) 151
    else if c.toNat = 91 ∨ c.toNat = 123 then (if deep = 8 then .err (skipB l at_) 150 else .opens (skipB l at_) (decide (c.toNat = 123)))
    else match atomJ l (skipB l at_) c with | .inl (v, m) => .atom v m | .inr (p, e) => .err p e
def pValue (l : List UInt8) (at_ many : Nat) (stk : JStk) : PRes :=
  match beginJ l at_ many stk.length with
  | .err p e => .fail p e
  | .atom v m => pPut v m (many + 1) stk
  | .opens p o => .go (if o then 2 else 1) (p + 1) (many + 1) ((.mk (if o then 6 else 5) 0 [] [] [], []) :: stk)
def pClose (l : List UInt8) (q many : Nat) : JStk → PRes
  | [] => .fail q 0
  | (v, _) :: r => pPut v (q + 1) many r
def pFirst (l : List UInt8) (at_ many : Nat) (stk : JStk) : PRes :=
  if l[skipB l at_]? = some 93 then pClose l (skipB l at_) many stk else pValue l at_ many stk
def pKey (l : List UInt8) (at_ many : Nat) : JStk → PRes
  | [] => .fail at_ 0
  | (v, k) :: r =>
    if l[skipB l at_]? = some 34 then
      if (qRead l (skipB l at_)).2.2 = 0 then
        if (qRead l (skipB l at_)).1 ∈ v.keys then .fail (skipB l at_) 141
        else .go 4 (qRead l (skipB l at_)).2.1.toNat many ((v, (qRead l (skipB l at_)).1) :: r)
      else pFail l (qRead l (skipB l at_)).2.1 (qRead l (skipB l at_)).2.2
    else pFail l (skipB l at_) 7
def pFirstKey (l : List UInt8) (at_ many : Nat) (stk : JStk) : PRes :=
  if l[skipB l at_]? = some 125 then pClose l (skipB l at_) many stk else pKey l at_ many stk
def pColon (l : List UInt8) (at_ many : Nat) (stk : JStk) : PRes :=
  if l[skipB l at_]? = some 58 then .go 0 (skipB l at_ + 1) many stk else pFail l (skipB l at_) 7
def pMore (l : List UInt8) (at_ many : Nat) : JStk → PRes
  | [] => .fail at_ 0
  | (v, k) :: r =>
    if l[skipB l at_]? = some 44 then .go (if v.kind = 6 then 3 else 0) (skipB l at_ + 1) many ((v, k) :: r)
    else if l[skipB l at_]? = some (if v.kind = 6 then 125 else 93) then pClose l (skipB l at_) many ((v, k) :: r)
    else pFail l (skipB l at_) 7
def pStep (l : List UInt8) : PRes → PRes
  | .go 0 a m s => pValue l a m s
  | .go 1 a m s => pFirst l a m s
  | .go 2 a m s => pFirstKey l a m s
  | .go 3 a m s => pKey l a m s
  | .go 4 a m s => pColon l a m s
  | .go 5 a m s => pMore l a m s
  | r => r
def pRun (l : List UInt8) : Nat → PRes → PRes
  | 0, r => r
  | k + 1, r => pRun l k (pStep l r)
end Go.Proofs.YtgolomgmnanbpaaGreatDoor
namespace Go.Proofs.YtgolomgmnanbpaaGreatDoor
set_option linter.unusedVariables false
set_option linter.unusedSimpArgs false
end Go.Proofs.YtgolomgmnanbpaaGreatDoor
namespace Go.Proofs.YtgolomgmnanbpaaGreatDoor
set_option linter.unusedVariables false
set_option linter.unusedSimpArgs false
open Go.RowKit
end Go.Proofs.YtgolomgmnanbpaaGreatDoor
namespace Go.Proofs.YtgolomgmnanbpaaGreatDoor
set_option linter.unusedVariables false
set_option linter.unusedSimpArgs false
section
variable {l : List UInt8}
theorem pRun_add : ∀ (a b : Nat) (r : PRes), pRun l (a + b) r = pRun l b (pRun l a r)
  | 0, b, r => by rw [Nat.zero_add]; rfl
  | a + 1, b, r => by rw [show a + 1 + b = (a + b) + 1 from by omega]; exact pRun_add a b _
def Reach (l : List UInt8) (a b : PRes) : Prop := ∃ k, pRun l k a = b
theorem Reach.refl (a : PRes) : Reach l a a := ⟨0, rfl⟩
theorem Reach.trans {a b c : PRes} : Reach l a b → Reach l b c → Reach l a c
  | ⟨k, h⟩, ⟨k', h'⟩ => ⟨k + k', by rw [pRun_add, h, h']⟩
theorem Reach.step {a c : PRes} (h : Reach l (pStep l a) c) : Reach l a c := by obtain ⟨k, h⟩ := h; exact ⟨k + 1, h⟩
theorem mem_insAt {α : Type} {l : List α} {i : Nat} {x y : α} : y ∈ insAt l i x ↔ y ∈ l ∨ y = x := by
  unfold insAt
  constructor
  · intro h
    rcases List.mem_append.1 h with h | h
    · exact .inl (List.mem_of_mem_take h)
    · rcases List.mem_cons.1 h with h | h
      · exact .inr h
      · exact .inl (List.mem_of_mem_drop h)
  · rintro (h | rfl)
    · rw [← List.take_append_drop i l] at h
      rcases List.mem_append.1 h with h | h
      · exact List.mem_append_left _ h
      · exact List.mem_append_right _ (List.mem_cons_of_mem _ h)
    · simp
structure IsObj (v : JV) (keys : List (List UInt8)) : Prop where
  kind : v.kind = 6
  len : v.keys.length = v.kids.length
  mem : ∀ s, s ∈ v.keys ↔ s ∈ keys
theorem IsObj.add {v : JV} {keys : List (List UInt8)} (h : IsObj v keys) (s : List UInt8) (x : JV) : IsObj (addKid v s x) (keys ++ [s]) := by
  obtain ⟨k, n, t, kids, ks⟩ := v
  have hk : k = 6 := h.kind
  have hl : ks.length = kids.length := h.len
  unfold addKid
  simp only
  rw [if_pos hk]
  refine ⟨hk, ?_, fun y => ?_⟩
  · show (insAt ks _ s).length = (insAt kids _ x).length
    have := insPos_le s ks kids.length
    simp [insAt]; omega
  · show y ∈ insAt ks _ s ↔ _
    rw [mem_insAt, List.mem_append, List.mem_singleton]
    have : y ∈ ks ↔ y ∈ keys := h.mem y
    rw [this]
end
end Go.Proofs.YtgolomgmnanbpaaGreatDoor
namespace Go.Proofs.YtgolomgmnanbpaaGreatDoor
set_option linter.unusedVariables false
set_option linter.unusedSimpArgs false
def later (p : Nat) : PRes → Prop
  | .go _ p' _ _ => p < p'
  | _ => True
section
variable {l : List UInt8}
end
end Go.Proofs.YtgolomgmnanbpaaGreatDoor
namespace Go.Proofs.YtgolomgmnanbpaaGreatDoor
set_option linter.unusedVariables false
set_option linter.unusedSimpArgs false
open Go.RowKit
section Cut
variable {l : List UInt8}
end Cut
end Go.Proofs.YtgolomgmnanbpaaGreatDoor
namespace Go.Proofs.YtgolomgmnanbpaaGreatDoor
set_option linter.unusedVariables false
set_option linter.unusedSimpArgs false
open Go.RowKit
section Cut
variable {l : List UInt8}
end Cut
end Go.Proofs.YtgolomgmnanbpaaGreatDoor
namespace Go.Proofs.YtgolomgmnanbpaaGreatDoor
set_option linter.unusedVariables false
set_option linter.unusedSimpArgs false
open Go.RowKit
section CutN
variable {l : List UInt8}
end CutN
end Go.Proofs.YtgolomgmnanbpaaGreatDoor
namespace Go.Proofs.YtgolomgmnanbpaaGreatDoor
set_option linter.unusedVariables false
set_option linter.unusedSimpArgs false
open Go.RowKit
section CutS
variable {l : List UInt8}
def far (n : Nat) : PRes → Prop
  | .fail _ _ => True
  | .go _ p' _ _ => n < p'
  | .done q _ => n < q
end CutS
end Go.Proofs.YtgolomgmnanbpaaGreatDoor
