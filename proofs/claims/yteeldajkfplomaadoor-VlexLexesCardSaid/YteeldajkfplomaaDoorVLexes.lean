/- The walk of VlexLexes. -/
import Derived.Test.YteeldajkfplomaaDoorRef22c
namespace Go.Proofs.YteeldajkfplomaaDoor
set_option linter.unusedVariables false
set_option linter.unusedSimpArgs false
open Go.RowKit
attribute [local go_sem] run_index_arr run_part_agg run_part_one run_field_agg

theorem vLex_len (l : List UInt8) : (vLex l).1.length ≤ 1048576 := by
  unfold vLex
  split
  · simp
  · have := vToks_len l 0
    cases h : (vToks l 0).2 with
    | some e => simp
    | none => simp only []; omega
theorem lexes_below {w w1 w2 w3 : World} (h1 : Below w.heap.size w w1) (h2 : Below w1.heap.size w1 w2) (h3 : Below w2.heap.size w2 w3) (n : Nat) : Below w.heap.size w (w3.drewN n) := by
  have s1 := h1.size
  have s2 := h2.size
  exact bel_drewN ((h1.trans (h2.mono s1)).trans (h3.mono (by omega))) n
def TrueL (w : World) (e : Ending) (w' : World) : Prop := e = .returned (.bool true) ∧ Below w.heap.size w w'
theorem fewS_le (s : ByteArray) : (fewS s).size ≤ 1048576 := by
  rw [← sl_len, fewS, sl_mk, List.length_take]; omega
set_option maxRecDepth 100000 in
set_option maxHeartbeats 1000000 in
theorem vlexLexes_any (s : ByteArray) (w : World) (hG : GOK w) (hs : s.size ≤ maxLen) : Calls Tryd.prog 3 #[.string s] w (TrueL w) := by
  have HW := Lib.hid (wakes_any w hG)
  have HG := Lib.hid hG
  have HF := Lib.hid (few_any s)
  have hx0 := fewS_le s
  obtain ⟨x, hx⟩ : ∃ x, fewS s = x := ⟨_, rfl⟩
  rw [hx] at HF hx0
  obtain ⟨r, hr⟩ : ∃ r, vLex (sl x) = r := ⟨_, rfl⟩
  have hl := vLex_len (sl x)
  have h1 := fun w hG => lex_any x w hG hx0
  have h2 := fun w => rLex_any x w hx0
  rw [hr] at hl h1 h2
  obtain ⟨ts, q, er⟩ := r
  have H1 := Lib.hid h1
  have H2 := Lib.hid h2
  have HL := Lib.hid hl
  have HS := Lib.hid hs
  clear h1 h2 hl hr hx hx0 hG hs
  go_enter Tryd.func3, Tryd.ntmps3
  go_wp2_with fail
  refine HW.out.mono ?_
  rintro e w1 ⟨rfl, hb1⟩
  go_wp2_with fail
  refine (HF.out w1 HS.out).mono ?_
  rintro e w1' ⟨rfl, rfl⟩
  go_wp2_with fail
  refine (H1.out w1 (HG.out.keep hb1)).mono ?_
  rintro e w2 ⟨v1, rfl, hv1, hb2⟩
  go_wp2_with fail
  refine (H2.out w2).mono ?_
  rintro e w3 ⟨v2, rfl, hv2, hb3⟩
  have HV1 := Lib.hid (hv1.below hb3)
  have HV2 := Lib.hid hv2
  clear hv1 hv2
  go_wp2_with fail
  refine (tokEqual_any _ _ _ _ w3 HV1.out HV2.out HL.out HL.out).mono ?_
  rintro e w4 ⟨rfl, n, rfl⟩
  rw [decide_eq_true (show ts = ts from rfl)]
  go_wp2
  all_goals
    go_ret
    exact ⟨rfl, lexes_below hb1 hb2 hb3 n⟩
end Go.Proofs.YteeldajkfplomaaDoor
