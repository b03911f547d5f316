/- The walk of VlexNames. -/
import Derived.Test.YteeldajkfplomaaDoorRef22b
import Derived.Test.YteeldajkfplomaaDoorVSaid
import Derived.Test.YteeldajkfplomaaDoorStrs
namespace Go.Proofs.YteeldajkfplomaaDoor
set_option linter.unusedVariables false
set_option linter.unusedSimpArgs false
open Go.RowKit
attribute [local go_sem] run_index_arr run_part_agg run_part_one run_field_agg

set_option maxRecDepth 100000 in
set_option maxHeartbeats 2000000 in
theorem vlexNames_any (a : Option Addr) (len cap : Nat) (ss : List ByteArray) (w : World) (hG : GOK w) (hs : IsStrs w a len ss) (hlen : len ≤ maxLen) : Calls Tryd.prog 4 #[.slice a len cap] w (TrueB w) := by
  unfold maxLen at hlen
  have HW := Lib.hid (wakes_any w hG)
  clear hG
  by_cases h0 : len = 0
  · subst h0
    go_enter Tryd.func4, Tryd.ntmps4
    go_wp2_with fail
    refine HW.out.mono ?_
    rintro e w1 ⟨rfl, hb1⟩
    go_wp2_with fail
    go_loopw [9] (fun i wr => i = .int .i64 0 ∧ wr = w1) (fun _ _ => 0)
    case atStart => exact ⟨rfl, rfl⟩
    case round =>
      obtain ⟨rfl, rfl⟩ := hrel
      go_wp2
      go_ret
      exact ⟨rfl, hb1⟩
  · obtain ⟨b, o, rfl, hb, hcells⟩ := hs.at_ (by omega)
    have HC := Lib.hid hcells
    clear hcells hs
    go_enter Tryd.func4, Tryd.ntmps4
    go_wp2_with fail
    refine HW.out.mono ?_
    rintro e w1 ⟨rfl, hb1⟩
    go_wp2_with fail
    go_loopw [9] (fun i wr => ∃ k : Nat, k ≤ len ∧ k ≤ 20 ∧ i = .int .i64 k ∧ Below w.heap.size w wr) (fun i _ => len - (intOf i).toNat)
    case atStart => exact ⟨0, by omega, by omega, rfl, hb1⟩
    case round =>
      obtain ⟨k, hk, hk2, rfl, hbw⟩ := hrel
      by_cases hlt : k < len
      · obtain ⟨s, hsz, hcell0⟩ := HC.out k hlt
        have hcell : wr.cell? ⟨b, o + k, none⟩ = some (.string s) := (hbw.cell (p := ⟨b, o + k, none⟩) hb).trans hcell0
        clear hcell0
        by_cases h20 : k = 20
        · subst h20
          go_wp2
          go_ret
          exact ⟨rfl, hbw⟩
        · have hne : ((k : Int) == 20) = false := by simp; omega
          have HF := Lib.hid (few_any s wr hsz)
          obtain ⟨x, hx⟩ : ∃ x, fewS s = x := ⟨_, rfl⟩
          rw [hx] at HF
          clear hx
          obtain ⟨b1, hb1'⟩ : ∃ b, isName x = b := ⟨_, rfl⟩
          obtain ⟨b2, hb2'⟩ : ∃ b, isWord (sl x) = b := ⟨_, rfl⟩
          have H1 := Lib.hid (nameX x hb1')
          have H2 := Lib.hid (wordX x hb2')
          have h3 := fun w => rName_any x w
          have h4 := fun w => rWord_any x w
          rw [hb1'] at h3
          rw [hb2'] at h4
          have H3 := Lib.hid h3
          have H4 := Lib.hid h4
          clear h3 h4 hb1' hb2'
          go_wp2_with fail
          refine HF.out.mono ?_
          rintro e w2 ⟨rfl, rfl⟩
          go_wp2_with fail
          refine (H1.out _).mono ?_
          rintro e w3 ⟨rfl, hb3⟩
          go_wp2_with fail
          refine (H3.out _).mono ?_
          rintro e w4 ⟨rfl, rfl⟩
          go_wp2_with fail
          refine (H2.out _).mono ?_
          rintro e w5 ⟨rfl, hb5⟩
          go_wp2_with fail
          refine (H4.out _).mono ?_
          rintro e w6 ⟨rfl, rfl⟩
          go_wp2_with fail
          have s1 := hbw.size
          have s3 := hb3.size
          go_roundw
          case rel => exact ⟨k + 1, by omega, by omega, by go_num, (hbw.trans (hb3.mono s1)).trans (hb5.mono (by omega))⟩
          case measure => simp [intOf]; omega
      · obtain rfl : k = len := by omega
        go_wp2
        go_ret
        exact ⟨rfl, hbw⟩
end Go.Proofs.YteeldajkfplomaaDoor
