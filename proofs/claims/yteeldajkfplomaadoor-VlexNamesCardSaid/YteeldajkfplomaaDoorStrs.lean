/- A slice of strings that came in, as the frame of a card opens it. -/
import Derived.Test.YteeldajkfplomaaDoorBase
namespace Go.Proofs.YteeldajkfplomaaDoor
set_option linter.unusedVariables false
set_option linter.unusedSimpArgs false
open Go.RowKit

def IsStrs (w : World) (a : Option Addr) (len : Nat) (ss : List ByteArray) : Prop :=
  (a = none ∧ len = 0) ∨ ∃ x, a = some x ∧ len ≤ ss.length ∧ ss.length ≤ maxLen ∧ (∀ i, i < ss.length → w.cell? (x.add i) = some (.string (ss.getD i ByteArray.empty))) ∧ (∀ s ∈ ss, s.size ≤ maxLen)
/-- one string of such a slice -/
theorem IsStrs.at_ {w : World} {a : Option Addr} {len : Nat} {ss : List ByteArray} (h : IsStrs w a len ss) (hn : 0 < len) :
    ∃ b o, a = some ⟨b, o, none⟩ ∧ b < w.heap.size ∧ ∀ i, i < len → ∃ s : ByteArray, s.size ≤ maxLen ∧ w.cell? ⟨b, o + i, none⟩ = some (.string s) := by
  rcases h with ⟨_, h0⟩ | ⟨⟨b, o, sp⟩, rfl, hl, hm, hc, hs⟩
  · omega
  · have h0 := hc 0 (by omega)
    have hsp : sp = none := by simpa [Addr.add] using World.cell?_spot h0
    subst hsp
    refine ⟨b, o, rfl, ?_, fun i hi => ⟨ss.getD i ByteArray.empty, ?_, ?_⟩⟩
    · rcases Nat.lt_or_ge b w.heap.size with hlt | hge
      · exact hlt
      · exfalso
        unfold World.cell? at h0
        simp [Addr.add, Array.getElem?_eq_none hge] at h0
    · rw [List.getD_eq_getElem?_getD, List.getElem?_eq_getElem (by omega)]
      exact hs _ (List.getElem_mem _)
    · have := hc i (by omega)
      have e : (⟨b, o, none⟩ : Addr).add i = ⟨b, o + i, none⟩ := by unfold Addr.add; split <;> simp_all
      rwa [e] at this
end Go.Proofs.YteeldajkfplomaaDoor
