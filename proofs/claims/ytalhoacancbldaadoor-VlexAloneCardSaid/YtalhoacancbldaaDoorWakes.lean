/- What davenportlaw22.wakes asks, and its walk. -/
import Derived.Test.YtalhoacancbldaaDoorVlex11
namespace Go.Proofs.YtalhoacancbldaaDoor
set_option linter.unusedVariables false
set_option linter.unusedSimpArgs false
open Go.RowKit
attribute [local go_sem] run_index_arr run_part_agg run_part_one run_field_agg

def wakeToks : List VTok := [(2, 0, [101, 109, 105, 116], 0), (1, 5, [100, 111, 99], 0), (5, 8, [46], 0), (1, 9, [97, 50], 0), (5, 11, [60, 61], 0), (3, 13, [49, 48], 10), (5, 15, [59], 0), (6, 16, [], 0)]
theorem wake1 : vLex [101, 109, 105, 116, 32, 100, 111, 99, 46, 97, 50, 60, 61, 49, 48, 59] = (wakeToks, 0, 0) := by decide +kernel
theorem wake2 : vLex [97, 32, 61, 32, 49] = ([], 2, 320) := by decide +kernel
theorem wake3 : vLex [34, 97] = ([], 2, 6) := by decide +kernel
theorem wake4 : isName ⟨#[100, 111, 99]⟩ = true := by decide +kernel
theorem wake5 : isName ⟨#[105, 110]⟩ = false := by decide +kernel
theorem wake6 : isWord [105, 110] = true := by decide +kernel
theorem wakeL1 (w : World) (hG : GOK w) : Calls Tryd.prog 17 #[.string ⟨#[101, 109, 105, 116, 32, 100, 111, 99, 46, 97, 50, 60, 61, 49, 48, 59]⟩] w (LexPost (wakeToks, 0, 0) w) := by
  have h := lex_any ⟨#[101, 109, 105, 116, 32, 100, 111, 99, 46, 97, 50, 60, 61, 49, 48, 59]⟩ w hG (by decide)
  rw [show sl ⟨#[101, 109, 105, 116, 32, 100, 111, 99, 46, 97, 50, 60, 61, 49, 48, 59]⟩ = [101, 109, 105, 116, 32, 100, 111, 99, 46, 97, 50, 60, 61, 49, 48, 59] from rfl, wake1] at h
  exact h
theorem wakeL2 (w : World) (hG : GOK w) : Calls Tryd.prog 17 #[.string ⟨#[97, 32, 61, 32, 49]⟩] w (LexPost ([], 2, 320) w) := by
  have h := lex_any ⟨#[97, 32, 61, 32, 49]⟩ w hG (by decide)
  rw [show sl ⟨#[97, 32, 61, 32, 49]⟩ = [97, 32, 61, 32, 49] from rfl, wake2] at h
  exact h
theorem wakeL3 (w : World) (hG : GOK w) : Calls Tryd.prog 17 #[.string ⟨#[34, 97]⟩] w (LexPost ([], 2, 6) w) := by
  have h := lex_any ⟨#[34, 97]⟩ w hG (by decide)
  rw [show sl ⟨#[34, 97]⟩ = [34, 97] from rfl, wake3] at h
  exact h

set_option maxRecDepth 100000 in
set_option maxHeartbeats 4000000 in
theorem wakes_any (w : World) (hG : GOK w) : Calls Tryd.prog 15 #[] w fun e w' => e = .returned (.bool true) ∧ Below w.heap.size w w' := by
  have HG := Lib.hid hG
  clear hG
  go_enter Tryd.func15, Tryd.ntmps15
  go_wp2_with fail
  refine (wakeL1 w HG.out).mono ?_
  rintro e w1 ⟨v1, rfl, hv1, hb1⟩
  go_wp2_with fail
  refine (wakeL2 w1 (HG.out.keep hb1)).mono ?_
  rintro e w2 ⟨v2, rfl, hv2, hb2⟩
  go_wp2_with fail
  refine (wakeL3 w2 ((HG.out.keep hb1).keep hb2)).mono ?_
  rintro e w3 ⟨v3, rfl, hv3, hb3⟩
  have hT := fun (W : World) (h : TS W v1 wakeToks) (cs : Array Value) (hcs : cs = (tokCells wakeToks).toArray) => tokEqual_any v1 (.slice (some ⟨W.heap.size, 0, none⟩) 8 8) wakeToks wakeToks (W.alloc (.cells cs 30)) (h.alloc _)
    ⟨_, 8, rfl, by decide, by have h := Rd.of_blk (Blk.new W 30 cs); rw [hcs] at h ⊢; simpa using h⟩ (by decide) (by decide)
  rw [show decide (wakeToks = wakeToks) = true from decide_eq_true rfl] at hT
  have HT := Lib.hid hT
  have HV := Lib.hid ((hv1.below hb2).below hb3)
  clear hT hv1 hv2 hv3
  go_wp2_with fail
  refine (HT.out w3 HV.out _ rfl).mono ?_
  rintro e w4 ⟨rfl, q, rfl⟩
  go_wp2_with fail
  refine (Name_any ⟨#[100, 111, 99]⟩ _).mono ?_
  rw [wake4]
  rintro e w5 ⟨rfl, hb5⟩
  go_wp2_with fail
  refine (Name_any ⟨#[105, 110]⟩ _).mono ?_
  rw [wake5]
  rintro e w6 ⟨rfl, hb6⟩
  go_wp2_with fail
  refine (Word_any ⟨#[105, 110]⟩ _).mono ?_
  rw [show sl ⟨#[105, 110]⟩ = [105, 110] from rfl, wake6]
  rintro e w7 ⟨rfl, hb7⟩
  go_wp2
  go_ret
  refine ⟨rfl, ?_⟩
  have b1 : Below w.heap.size w w3 := (hb1.trans (hb2.mono hb1.size)).trans (hb3.mono (Nat.le_trans hb1.size hb2.size))
  have s4 : w.heap.size ≤ w3.heap.size := b1.size
  have s5 := hb5.size
  have s6 := hb6.size
  simp at s5
  refine (((bel_drewN (b1.alloc s4 _) q).trans (hb5.mono (by simp; omega))).trans (hb6.mono (by omega))).trans (hb7.mono (by omega))
end Go.Proofs.YtalhoacancbldaaDoor
