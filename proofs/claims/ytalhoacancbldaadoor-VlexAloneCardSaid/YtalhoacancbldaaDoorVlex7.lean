/- The walk of package vlex: signs. -/
import Derived.Test.YtalhoacancbldaaDoorVlex6
namespace Go.Proofs.YtalhoacancbldaaDoor
set_option linter.unusedVariables false
set_option linter.unusedSimpArgs false
open Go.RowKit
attribute [local go_sem] run_index_arr run_part_agg run_part_one run_field_agg

def signsT : List (List UInt8) := [[61, 61], [60, 61], [60], [59], [46], [44], [91], [93], [40], [41], [123], [125], [43], [45], [42]]
def signsV : Value := .agg (signsT.map fun l => Value.string ⟨l.toArray⟩).toArray
set_option maxRecDepth 100000 in
set_option maxHeartbeats 1000000 in
theorem vsigns_any (w : World) : Calls Tryd.prog 91 #[] w fun e w' => e = .returned signsV ∧ Below w.heap.size w w' := by
  go_enter Tryd.func91, Tryd.ntmps91
  go_wp2
  go_returns
  exact ⟨rfl, by go_grown⟩
theorem signs_at (k : Nat) (h : k < 15) (w : World) : (Instr.index 126 signsV (.int .i64 (k : Int))).run Tryd.prog w = .ok (.string ⟨(signsT.getD k []).toArray⟩) w := by
  rcases (by omega : k = 0 ∨ k = 1 ∨ k = 2 ∨ k = 3 ∨ k = 4 ∨ k = 5 ∨ k = 6 ∨ k = 7 ∨ k = 8 ∨ k = 9 ∨ k = 10 ∨ k = 11 ∨ k = 12 ∨ k = 13 ∨ k = 14) with rfl | rfl | rfl | rfl | rfl | rfl | rfl | rfl | rfl | rfl | rfl | rfl | rfl | rfl | rfl <;> kernel_rfl
/-- does a sign stand at a place? -/
def standsAt (l : List UInt8) (p : Nat) (s : List UInt8) : Bool := decide ((l.drop p).take s.length = s)
def firstAt (l : List UInt8) (p : Nat) : List (List UInt8) → Option (List UInt8)
  | [] => none
  | s :: r => if standsAt l p s then some s else firstAt l p r
def vSign (l : List UInt8) (p : Nat) : VRes := match firstAt l p signsT with | some s => .inl (5, s, 0, p + s.length) | none => .inr (p, 320)
theorem signsT_len {k : Nat} (h : k < 15) : 1 ≤ (signsT.getD k []).length ∧ (signsT.getD k []).length ≤ 2 := by
  have : ∀ k : Fin 15, 1 ≤ (signsT.getD k []).length ∧ (signsT.getD k []).length ≤ 2 := by decide
  exact this ⟨k, h⟩

set_option maxRecDepth 100000 in
set_option maxHeartbeats 4000000 in
theorem vsign_any (w : World) (g : Nat) (A : Option Addr) (cap : Nat) (l : List UInt8) (p : Nat) (hV : VB w g A cap l p 0) (hp : p < l.length) (hcap : l.length ≤ cap) (hlen : l.length ≤ 1048576) :
    Calls Tryd.prog 71 #[.pointer (some ⟨g, 0, none⟩)] w (TokPost (vSign l p) p w g A cap l) := by
  obtain ⟨hc, hf, hlt⟩ := hV.1.rules
  have hgw : g < w.heap.size := hV.1.lt
  obtain ⟨b, o, rfl, hb, _⟩ := hV.byte (List.getElem?_eq_getElem hp)
  have HV := Lib.hid hV
  clear hV
  unfold vCells at hc
  obtain ⟨W0, hW0⟩ : ∃ W0, w.alloc (.cells #[.int .i64 0, .int .i64 0, .string ⟨#[]⟩, .int .i64 0] 30) = W0 := ⟨_, rfl⟩
  have hst0 : VStep w g (some ⟨b, o, none⟩) cap l p 0 W0 := by rw [← hW0]; exact (VStep.refl HV.out).alloc _
  have hr0 : Blk W0 w.heap.size 30 #[.int .i64 0, .int .i64 0, .string ⟨#[]⟩, .int .i64 0] := by rw [← hW0]; exact Blk.new _ _ _
  go_enter Tryd.func71, Tryd.ntmps71
  go_wp2_with (go_at_call 91; refine (vsigns_any _).mono ?_; rintro e w1 ⟨rfl, hb1⟩)
  have hst1 := hst0.keep hb1
  have hr1 := hr0.keep hb1
  clear hW0 hc hf hlt hst0 hr0 hb
  go_loopw [4, 5, 8] (fun _ _ i wr => ∃ k : Nat, k ≤ 15 ∧ i = .int .i64 k ∧ firstAt l p signsT = firstAt l p (signsT.drop k) ∧ ∃ j, wr = w1.drewN j) (fun _ _ i _ => 15 - (intOf i).toNat)
  case atStart => exact ⟨0, by omega, rfl, rfl, 0, rfl⟩
  case round =>
    obtain ⟨k, hk, rfl, hfa, j, rfl⟩ := hrel
    obtain ⟨hc, hf, hlt⟩ := hst1.1.1.rules
    unfold vCells at hc
    by_cases h15 : k < 15
    · have hix := signs_at k h15 (w1.drewN j)
      have hsl := signsT_len h15
      have hd : signsT.drop k = signsT.getD k [] :: signsT.drop (k + 1) := by
        rw [List.drop_eq_getElem_cons (show k < signsT.length from h15), List.getD_eq_getElem?_getD, List.getElem?_eq_getElem (show k < signsT.length from h15)]; rfl
      rw [hd] at hfa
      obtain ⟨s, hs⟩ : ∃ s, signsT.getD k [] = s := ⟨_, rfl⟩
      rw [hs] at hix hfa hsl
      have hsz : (⟨s.toArray⟩ : ByteArray).size = s.length := by simp [ByteArray.size]
      have HF := Lib.hid hfa
      clear hs hd hfa
      by_cases hend : p + s.length ≤ l.length
      · have hcv : ∀ j, (convert 36 9 (.slice (some ⟨b, o + p, none⟩) s.length (cap - p))).run Tryd.prog (w1.drewN j) = .ok (.string ⟨((l.drop p).take s.length).toArray⟩) (w1.drewN j) := fun j => by
          have h := sub_conv (w := w1.drewN j) (p := p) (k := p + s.length) (by omega) hend hcap (by rw [show p + s.length - p = s.length from by omega]; exact (sub_rd hst1.1.2).drewN j)
          rw [show p + s.length - p = s.length from by omega] at h
          exact h
        have hgt : decide ((p : Int) + (s.length : Int) ≤ (l.length : Int)) = true := by rw [decide_eq_true_eq]; omega
        have h1 : p + s.length - p = s.length := by omega
        have h2 : p + s.length ≤ cap := by omega
        have h3 : ¬ cap = p := by omega
        obtain ⟨x, hx⟩ : ∃ x, (l.drop p).take s.length = x := ⟨_, rfl⟩
        rw [hx] at hcv
        have HX := Lib.hid hx
        clear hx
        by_cases hxs : x = s
        · subst hxs
          have HY := Lib.hid (show standsAt l p x = true by unfold standsAt; rw [HX.out]; simp)
          go_wp2
          go_quiet (fail)
          obtain ⟨W2, hW2⟩ : ∃ W2, (w1.drewN j).drewN nq = W2 := ⟨_, rfl⟩
          have hst2 : VStep w g (some ⟨b, o, none⟩) cap l p 0 W2 := by rw [← hW2]; exact (hst1.drewN _).drewN _
          have hr2 : Blk W2 w.heap.size 30 #[.int .i64 0, .int .i64 0, .string ⟨#[]⟩, .int .i64 0] := by rw [← hW2]; exact (hr1.drewN _).drewN _
          rw [hW2]
          clear hW2 hcv hix hc hf hlt hgt h1 h2 h3 hst1 hr1
          obtain ⟨hc, hf, hlt⟩ := hst2.1.1.rules
          unfold vCells at hc
          obtain ⟨cr, fr, lr⟩ := hr2.rules
          go_wp2
          have hR3 := hr2.far (p := ⟨g, 0, none⟩) (show w.heap.size ≠ g by omega) (.int .i64 ((p : Int) + (x.length : Int)))
          obtain ⟨cf, _, _⟩ := ((Blk.put4 hR3 (.int .i64 5) (.int .i64 p) (.string ⟨x.toArray⟩) (.int .i64 0)).alloc (.cells #[.int .i64 5, .int .i64 p, .string ⟨x.toArray⟩, .int .i64 0] 30)).rules
          refine bodyPost_ret (v := .agg #[.int .i64 5, .int .i64 p, .string ⟨x.toArray⟩, .int .i64 0]) (by simp only [results, Tryd.results71]; go_simp) rfl ?_
          have hv : vSign l p = .inl (5, x, 0, p + x.length) := by unfold vSign; rw [HF.out, firstAt, HY.out]; rfl
          rw [hv]
          exact ⟨rfl, ((hst2.set0 _).put4 hR3 (Nat.le_refl _) hgw _ _ _ _).alloc _⟩
        · have HY := Lib.hid (show standsAt l p s = false by unfold standsAt; rw [HX.out]; simpa using hxs)
          have hbe : (x == s) = false := by simpa using hxs
          go_wp2
          go_quiet (fail)
          go_wp2
          go_roundw
          case rel => exact ⟨k + 1, by omega, by go_num, by rw [HF.out, firstAt, HY.out]; rfl, _, rfl⟩
          case measure => simp [intOf]; omega
      · have HN := Lib.hid (show standsAt l p s = false by
          unfold standsAt
          rw [decide_eq_false_iff_not]
          intro e
          have := congrArg List.length e
          simp at this; omega)
        have hgt : decide ((p : Int) + (s.length : Int) ≤ (l.length : Int)) = false := by rw [decide_eq_false_iff_not]; omega
        go_wp2
        go_quiet (fail)
        go_wp2
        go_roundw
        case rel => exact ⟨k + 1, by omega, by go_num, by rw [HF.out, firstAt, HN.out]; rfl, _, rfl⟩
        case measure => simp [intOf]; omega
    · obtain rfl : k = 15 := by omega
      have hv : vSign l p = .inr (p, 320) := by unfold vSign; rw [hfa, List.drop_eq_nil_of_le (by decide)]; rfl
      have HVV := Lib.hid hv
      clear hfa hv
      go_wp2_with (go_at_call 88; refine (fails_any _ g _ cap l _ _ _ _ (hst1.drewN _).1).mono ?_; rintro e w3 ⟨rfl, hst5⟩; have hR3 := (hr1.drewN j).grown hst5.2 (by simp; omega); obtain ⟨cr3, fr3, lr3⟩ := hR3.rules; unfold zeroTok)
      obtain ⟨cf, _, _⟩ := (Blk.put4 hR3 (.int .i64 0) (.int .i64 0) (.string ⟨#[]⟩) (.int .i64 0)).rules
      refine bodyPost_ret (v := .agg #[.int .i64 0, .int .i64 0, .string ⟨#[]⟩, .int .i64 0]) (by simp only [results, Tryd.results71]; go_simp) rfl ?_
      rw [HVV.out]
      exact ⟨rfl, ((hst1.drewN j).trans hst5).put4 hR3 (Nat.le_refl _) hgw _ _ _ _⟩
end Go.Proofs.YtalhoacancbldaaDoor
