/- []byte(s): a new row that reads as the string's bytes. -/
import Derived.Test.YtalhoacancbldaaDoorBase
import Derived.Laws.IdiomStrings
namespace Go.Proofs.YtalhoacancbldaaDoor
set_option linter.unusedVariables false
set_option linter.unusedSimpArgs false
open Go.RowKit

theorem conv_bytes {P : Program} (w : World) (src dst e : TypeId) (s : ByteArray) (hs : P.underlying src = some .string) (hd : P.underlying dst = some (.slice e)) (he : P.underlying e = some (.int .u8)) :
    ∃ (cap : Nat) (W1 : World), (convert src dst (.string s)).run P w = .ok (.slice (some ⟨w.heap.size, 0, none⟩) s.size cap) W1 ∧ s.size ≤ cap ∧ Below w.heap.size w W1 ∧ W1.heap.size = w.heap.size + 1 ∧
      Rd W1 (some ⟨w.heap.size, 0, none⟩) (byteV (sl s)) := by
  refine ⟨_, _, run_bytes_of_string w src dst e s hs hd he, ?_, ?_, ?_, ?_⟩
  · exact grownCap_ge _ _ _ _
  · exact ⟨rfl, rfl, rfl, by simp, fun k hk => by
      show (w.heap.push _)[k]? = _
      rw [Array.getElem?_push, if_neg (by omega)]⟩
  · simp
  · intro hn
    refine ⟨w.heap.size, 0, rfl, by simp, fun i hi => ?_⟩
    have hlt : i < s.data.size := by simpa [byteV, sl] using hi
    have := World.cell?_alloc_mark w.drew (bytesRow s (grownCap w s.size 0 e)) e ((bytesRow s (grownCap w s.size 0 e)).size, (bytesRow s (grownCap w s.size 0 e)).size + 1) i
    rw [Nat.zero_add]
    refine this.trans ?_
    rw [bytesRow_at s _ i hlt]
    simp [byteV, sl]
end Go.Proofs.YtalhoacancbldaaDoor
