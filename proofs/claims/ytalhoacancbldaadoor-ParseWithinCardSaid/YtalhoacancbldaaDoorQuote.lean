import Derived.Test.YtalhoacancbldaaDoorUtf4
import Derived.Test.YtalhoacancbldaaDoorSpecQuote
import Derived.Laws.EntriesVeiled
import Derived.StillTailTactics
/- The walks of package quote: the table of letters. -/
namespace Go.Proofs.YtalhoacancbldaaDoor
set_option linter.unusedVariables false
set_option linter.unusedSimpArgs false
open Go.RowKit
attribute [local go_sem] run_index_arr run_part_agg run_part_one run_field_agg

def lettersV : Value := .agg #[.int .u8 34, .int .u8 34, .int .u8 92, .int .u8 92, .int .u8 47, .int .u8 47, .int .u8 98, .int .u8 8, .int .u8 102, .int .u8 12, .int .u8 110, .int .u8 10, .int .u8 114, .int .u8 13, .int .u8 116, .int .u8 9]
set_option maxRecDepth 100000 in
set_option maxHeartbeats 1000000 in
theorem letters_any (w : World) : Calls Tryd.prog 148 #[] w fun e w' => e = .returned lettersV ∧ Below w.heap.size w w' := by
  go_enter Tryd.func148, Tryd.ntmps148
  go_wp2
  go_returns
  exact ⟨rfl, by go_grown⟩

end Go.Proofs.YtalhoacancbldaaDoor

/- The walks of package quote: a sign of a quoted string. -/
namespace Go.Proofs.YtalhoacancbldaaDoor
set_option linter.unusedVariables false
set_option linter.unusedSimpArgs false
open Go.RowKit
attribute [local go_sem] run_index_arr run_part_agg run_part_one run_field_agg

set_option maxRecDepth 100000 in
set_option maxHeartbeats 2000000 in
theorem unit_any (A : Option Addr) (cap : Nat) (l : List UInt8) (a : Nat) (w : World) (hr : Rd w A (byteV l)) (hcap : l.length ≤ cap) (hlen : l.length ≤ 1048576) (ha : a ≤ l.length) :
    Calls Tryd.prog 146 #[.agg #[.slice A l.length cap], .int .i64 a] w fun e w' => e = .returned (.int .i64 (unitI l a)) ∧ Below w.heap.size w w' := by
  by_cases h6 : l.length < a + 6
  · have HU := Lib.hid (show unitI l a = -1 by rw [unitI, unitO, if_pos (.inl h6)]; rfl)
    go_enter Tryd.func146, Tryd.ntmps146
    go_wp2
    go_returns
    exact ⟨ret_int HU.out.symm, by go_grown⟩
  · obtain ⟨b, o, rfl, hb, hx⟩ := hr (by intro e; have h3 := byteV_len l; rw [e, List.length_nil] at h3; omega)
    have hby : ∀ i c, l[i]? = some c → w.cell? ⟨b, o + i, none⟩ = some (.int .u8 c.toNat) := fun i c hi => by
      obtain ⟨hlt, e⟩ := List.getElem?_eq_some_iff.1 hi
      rw [hx i (by rw [byteV_len]; exact hlt)]; simp [byteV, e]
    clear hx
    obtain ⟨c0, hc0⟩ : ∃ c, l[a]? = some c := ⟨_, List.getElem?_eq_getElem (by omega)⟩
    obtain ⟨c1, hc1⟩ : ∃ c, l[a + 1]? = some c := ⟨_, List.getElem?_eq_getElem (by omega)⟩
    have hm0 := hby a c0 hc0
    have hm1 := hby (a + 1) c1 hc1
    have hwa : IntKind.i64.wrap ((a : Int) + 1) = ((a + 1 : Nat) : Int) := by rw [IntKind.wrap_i64]; omega
    by_cases h0 : c0 = 92
    · subst h0
      by_cases h1 : c1 = 117
      · subst h1
        have hmem : ∃ m : List UInt8, (l.drop (a + 2)).take 4 = m := ⟨_, rfl⟩
        obtain ⟨m, hm⟩ := hmem
        have hml : m.length = 4 := by rw [← hm]; simp; omega
        have HU := Lib.hid (show unitI l a = optI (hexs m 0) by
          rw [unitI, unitO, if_neg (fun h => h.elim (fun h => h6 h) (fun h => h.elim (fun h => h hc0) (fun h => h hc1))), hm])
        have hmc : ∀ k c, m[k]? = some c → w.cell? ⟨b, o + (a + 2) + k, none⟩ = some (.int .u8 c.toNat) := fun k c hk => by
          have : l[a + 2 + k]? = some c := by
            rw [← hm, List.getElem?_take, List.getElem?_drop] at hk
            split at hk
            · exact hk
            · cases hk
          rw [← hby _ _ this]; simp [Nat.add_assoc]
        have HB := Lib.hid hby
        have HM := Lib.hid hmc
        clear hby hmc hm
        have hm0' : w.cell? ⟨b, o + a, none⟩ = some (.int .u8 92) := hm0
        have hm1' : w.cell? ⟨b, o + (a + 1), none⟩ = some (.int .u8 117) := hm1
        clear hm0 hm1
        go_enter Tryd.func146, Tryd.ntmps146
        go_wp2
        rw [show a + 6 - (a + 2) = 4 from by omega]
        go_loopw [5, 7, 39] (fun s _ i wr => ∃ k n : Nat, k ≤ 4 ∧ i = .int .i64 k ∧ s = .int .i64 n ∧ n < 16 ^ k ∧ hexs (m.drop k) n = hexs m 0 ∧ ∃ j, wr = (w.alloc (.cells #[.slice (some ⟨b, o, none⟩) l.length cap] 152)).drewN j) (fun _ _ i _ => 4 - (intOf i).toNat)
        case atStart => exact ⟨0, 0, by omega, rfl, rfl, by omega, rfl, 0, rfl⟩
        case round =>
          obtain ⟨k, n, hk, rfl, rfl, hn, hh, j, rfl⟩ := hrel
          have HH := Lib.hid hh
          clear hh
          by_cases hk4 : k < 4
          · obtain ⟨c, hc⟩ : ∃ c, m[k]? = some c := ⟨_, List.getElem?_eq_getElem (by omega)⟩
            have hcell := HM.out k c hc
            have hd : m.drop k = c :: m.drop (k + 1) := by
              obtain ⟨hlt, e⟩ := List.getElem?_eq_some_iff.1 hc
              rw [List.drop_eq_getElem_cons hlt, e]
            have HH2 := Lib.hid (show hexs (c :: m.drop (k + 1)) n = hexs m 0 by rw [← hd]; exact HH.out)
            clear hd hc
            have hn4 : n < 4096 := Nat.lt_of_lt_of_le hn (Nat.pow_le_pow_right (by omega) (show k ≤ 3 by omega))
            have h16 : (16 : Nat) ^ (k + 1) = 16 ^ k * 16 := Nat.pow_succ _ _
            have HN := Lib.hid hn
            have H16 := Lib.hid h16
            clear hn h16
            rcases (by omega : (48 ≤ c.toNat ∧ c.toNat ≤ 57) ∨ (97 ≤ c.toNat ∧ c.toNat ≤ 102) ∨ (65 ≤ c.toNat ∧ c.toNat ≤ 70) ∨ (¬ (48 ≤ c.toNat ∧ c.toNat ≤ 57) ∧ ¬ (97 ≤ c.toNat ∧ c.toNat ≤ 102) ∧ ¬ (65 ≤ c.toNat ∧ c.toNat ≤ 70))) with hc | hc | hc | hc
            · have hv : hexv c = some (c.toNat - 48) := by unfold hexv; rw [if_pos hc]
              have HV := Lib.hid hv
              clear hv
              go_wp2
              go_roundw
              case rel =>
                refine ⟨k + 1, n * 16 + (c.toNat - 48), by omega, by go_num, congrArg _ (by omega), ?_, ?_, j, rfl⟩
                · have h1 := HN.out
                  have h2 := H16.out
                  omega
                · rw [← HH2.out, hexs, HV.out]
              case measure => simp [intOf]; omega
            · have hv : hexv c = some (c.toNat - 97 + 10) := by unfold hexv; rw [if_neg (by omega), if_pos hc]
              have HV := Lib.hid hv
              clear hv
              go_wp2
              go_roundw
              case rel =>
                refine ⟨k + 1, n * 16 + (c.toNat - 97 + 10), by omega, by go_num, congrArg _ (by omega), ?_, ?_, j, rfl⟩
                · have h1 := HN.out
                  have h2 := H16.out
                  omega
                · rw [← HH2.out, hexs, HV.out]
              case measure => simp [intOf]; omega
            · have hv : hexv c = some (c.toNat - 65 + 10) := by unfold hexv; rw [if_neg (by omega), if_neg (by omega), if_pos hc]
              have HV := Lib.hid hv
              clear hv
              go_wp2
              go_roundw
              case rel =>
                refine ⟨k + 1, n * 16 + (c.toNat - 65 + 10), by omega, by go_num, congrArg _ (by omega), ?_, ?_, j, rfl⟩
                · have h1 := HN.out
                  have h2 := H16.out
                  omega
                · rw [← HH2.out, hexs, HV.out]
              case measure => simp [intOf]; omega
            · have hv : hexv c = none := by unfold hexv; rw [if_neg hc.1, if_neg hc.2.1, if_neg hc.2.2]
              have HV := Lib.hid hv
              clear hv
              have hU : unitI l a = -1 := by rw [HU.out, ← HH2.out, hexs, HV.out]; rfl
              have HUU := Lib.hid hU
              clear hU
              rcases (by omega : c.toNat < 48 ∨ (57 < c.toNat ∧ c.toNat < 65) ∨ (70 < c.toNat ∧ c.toNat < 97) ∨ 102 < c.toNat) with hd | hd | hd | hd
              all_goals
                clear hc
                go_wp2
                go_ret
                exact ⟨ret_int HUU.out.symm, bel_drewN (by go_grown) _⟩
          · obtain rfl : k = 4 := by omega
            have hU : unitI l a = n := by
              rw [HU.out, ← HH.out, List.drop_eq_nil_of_le (by omega)]; rfl
            have HUU := Lib.hid hU
            clear hU
            go_wp2
            go_returns
            exact ⟨ret_int HUU.out.symm, bel_drewN (by go_grown) _⟩
      · have HU := Lib.hid (show unitI l a = -1 by rw [unitI, unitO, if_pos (.inr (.inr (by rw [hc1]; simpa using h1)))]; rfl)
        have hne : ((c1.toNat : Int) != 117) = true := by
          have : c1.toNat ≠ 117 := fun e => h1 (UInt8.toNat_inj.1 (by simpa using e))
          simp; omega
        have hm0' : w.cell? ⟨b, o + a, none⟩ = some (.int .u8 92) := hm0
        clear hm0 hby h1
        go_enter Tryd.func146, Tryd.ntmps146
        go_wp2
        go_returns
        exact ⟨ret_int HU.out.symm, by go_grown⟩
    · have HU := Lib.hid (show unitI l a = -1 by rw [unitI, unitO, if_pos (.inr (.inl (by rw [hc0]; simpa using h0)))]; rfl)
      have hne : ((c0.toNat : Int) != 92) = true := by
        have : c0.toNat ≠ 92 := fun e => h0 (UInt8.toNat_inj.1 (by simpa using e))
        simp; omega
      clear hby h0
      go_enter Tryd.func146, Tryd.ntmps146
      go_wp2
      go_returns
      exact ⟨ret_int HU.out.symm, by go_grown⟩
end Go.Proofs.YtalhoacancbldaaDoor
