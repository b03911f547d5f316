/- The walk of vlex.Name. -/
import Derived.Test.YtalhoacancbldaaDoorVlex
import Derived.Laws.RangeString
import Derived.Laws.RangeAny
namespace Go.Proofs.YtalhoacancbldaaDoor
set_option linter.unusedVariables false
set_option linter.unusedSimpArgs false
open Go.RowKit
attribute [local go_sem] run_index_arr run_part_agg run_part_one run_field_agg

def isLetter (c : UInt8) : Bool := decide (97 ≤ c.toNat ∧ c.toNat ≤ 122)
/-- do the bytes from a place on fit a name? -/
def nameFrom : Nat → List UInt8 → Bool
  | _, [] => true
  | i, c :: r => (isLetter c || (decide (0 < i) && isDig c)) && nameFrom (i + 1) r
def isName (s : ByteArray) : Bool := nameFrom 0 (sl s) && (decide (1 ≤ s.size ∧ s.size ≤ 12) && !isWord (sl s))

theorem bel_iter (w : World) (s : ByteArray) (p : Nat) : Below w.heap.size w (w.iter s p) := (Below.refl _ w).alloc (Nat.le_refl _) _
set_option maxRecDepth 100000 in
set_option maxHeartbeats 1000000 in
theorem Name_any (s : ByteArray) (w : World) : Calls Tryd.prog 20 #[.string s] w fun e w' => e = .returned (.bool (isName s)) ∧ Below w.heap.size w w' := by
  go_enter Tryd.func20, Tryd.ntmps20
  go_wp2
  go_loopw [3] (fun _ wr => ∃ pos : Nat, wr = w.iter s pos ∧ pos ≤ s.size ∧ nameFrom 0 (sl s) = nameFrom pos ((sl s).drop pos)) (fun _ wr => s.size - wr.iterPos w.heap.size)
  case atStart => exact ⟨0, rfl, by omega, by simp⟩
  case round =>
    obtain ⟨pos, rfl, hp, hn⟩ := hrel
    by_cases hlt : pos < s.size
    · have hnext := fun ty => run_next_any (P := Tryd.prog) w s pos ty hlt
      have hd : (sl s).drop pos = s[pos] :: (sl s).drop (pos + 1) := List.drop_eq_getElem_cons (by rw [sl_len]; exact hlt)
      rw [hd] at hn
      obtain ⟨c, hc⟩ : ∃ c, s[pos] = c := ⟨_, rfl⟩
      by_cases hhi : 128 ≤ c.toNat
      · have h1 := (decode_high s pos hlt (by rw [hc]; exact hhi)).1
        obtain ⟨⟨r, k⟩, hr⟩ : ∃ r, Utf8.decode s pos = r := ⟨_, rfl⟩
        rw [hr] at hnext h1
        have HF := Lib.hid (show nameFrom 0 (sl s) = false by
          rw [hn, hc, nameFrom]
          have e1 : isLetter c = false := by simp [isLetter]; omega
          have e2 : isDig c = false := by simp [isDig]; omega
          rw [e1, e2]; simp)
        clear hn hd hc hr
        obtain ⟨x, hx⟩ : ∃ x : Int, (r : Int) = x := ⟨_, rfl⟩
        rw [hx] at hnext
        have h2 : 128 ≤ x := by omega
        clear hx
        go_wp2
        go_ret
        exact ⟨ret_bool (by rw [isName, HF.out]; rfl), bel_iter w s _⟩
      · have h1 := decode_ascii s pos hlt (by rw [hc]; omega)
        rw [hc] at h1
        rw [h1] at hnext
        obtain ⟨b1, hb1⟩ : ∃ b, isLetter c = b := ⟨_, rfl⟩
        obtain ⟨b2, hb2⟩ : ∃ b, isDig c = b := ⟨_, rfl⟩
        have hl := fun w => letter_any c.toNat w
        have hg := fun w => digit_any c.toNat w
        rw [show decide (97 ≤ c.toNat ∧ c.toNat ≤ 122) = b1 from hb1] at hl
        rw [show decide (48 ≤ c.toNat ∧ c.toNat ≤ 57) = b2 from hb2] at hg
        have HL := Lib.hid hl
        have HG := Lib.hid hg
        have hnf : nameFrom 0 (sl s) = ((b1 || (decide (0 < pos) && b2)) && nameFrom (pos + 1) ((sl s).drop (pos + 1))) := by rw [hn, hc, nameFrom, hb1, hb2]
        have HF := Lib.hid hnf
        clear hn hd hc h1 hl hg hnf hb1 hb2
        have hc128 : c.toNat < 128 := by omega
        clear hhi
        obtain ⟨q, hq⟩ : ∃ q, c.toNat = q := ⟨_, rfl⟩
        rw [hq] at hnext hc128 HL HG
        clear hq
        cases b1
        · by_cases h0 : pos = 0
          · subst h0
            go_wp2_with (first | (go_at_call 44; refine (HL.out _).mono ?_; rintro e w1 ⟨rfl, rfl⟩) | (go_at_call 45; refine (HG.out _).mono ?_; rintro e w1 ⟨rfl, rfl⟩))
            go_ret
            exact ⟨ret_bool (by rw [isName, HF.out]; rfl), bel_iter w s _⟩
          · have hp0 : ((pos : Int) == 0) = false := by simp; omega
            cases b2
            · go_wp2_with (first | (go_at_call 44; refine (HL.out _).mono ?_; rintro e w1 ⟨rfl, rfl⟩) | (go_at_call 45; refine (HG.out _).mono ?_; rintro e w1 ⟨rfl, rfl⟩))
              go_ret
              exact ⟨ret_bool (by rw [isName, HF.out]; simp), bel_iter w s _⟩
            · go_wp2_with (first | (go_at_call 44; refine (HL.out _).mono ?_; rintro e w1 ⟨rfl, rfl⟩) | (go_at_call 45; refine (HG.out _).mono ?_; rintro e w1 ⟨rfl, rfl⟩))
              go_roundw
              case rel => exact ⟨pos + 1, rfl, hlt, by rw [HF.out]; simp; omega⟩
              case measure => simp; omega
        · go_wp2_with (first | (go_at_call 44; refine (HL.out _).mono ?_; rintro e w1 ⟨rfl, rfl⟩) | (go_at_call 45; refine (HG.out _).mono ?_; rintro e w1 ⟨rfl, rfl⟩))
          go_roundw
          case rel => exact ⟨pos + 1, rfl, hlt, by rw [HF.out]; simp⟩
          case measure => simp; omega
    · obtain rfl : pos = s.size := by omega
      have hnext := fun ty => run_next_end (P := Tryd.prog) w s s.size ty hlt
      have hnf : nameFrom 0 (sl s) = true := by rw [hn, List.drop_eq_nil_of_le (by rw [sl_len]; exact Nat.le_refl _), nameFrom]
      have HF := Lib.hid hnf
      clear hn hnf
      obtain ⟨b, hb⟩ : ∃ b, isWord (sl s) = b := ⟨_, rfl⟩
      have hw := fun w => Word_any s w
      rw [hb] at hw
      have HW := Lib.hid hw
      have HB := Lib.hid hb
      clear hw hb
      go_wp2_with (go_at_call 22; refine (HW.out _).mono ?_; rintro e w1 ⟨rfl, hb1⟩)
      · go_ret
        refine ⟨ret_bool ?_, (bel_iter w s _).trans (hb1.mono (by simp [World.iter]))⟩
        have h1 : 1 ≤ (s.size : Int) := by assumption
        have h2 : (s.size : Int) ≤ 12 := by assumption
        rw [isName, HF.out, HB.out, decide_eq_true (show 1 ≤ s.size ∧ s.size ≤ 12 by omega)]; rfl
      · go_ret
        have h2 : 12 < (s.size : Int) := by assumption
        exact ⟨ret_bool (by rw [isName, HF.out, decide_eq_false (show ¬ (1 ≤ s.size ∧ s.size ≤ 12) by omega)]; rfl), bel_iter w s _⟩
      · go_ret
        have h2 : (s.size : Int) < 1 := by assumption
        exact ⟨ret_bool (by rw [isName, HF.out, decide_eq_false (show ¬ (1 ≤ s.size ∧ s.size ≤ 12) by omega)]; rfl), bel_iter w s _⟩
end Go.Proofs.YtalhoacancbldaaDoor
