/- A []byte that came in, as bytes. -/
import Derived.Test.YtalhoacancbldaaDoorBase
import Derived.ProofKit
import Derived.WalkKit
namespace Go.Proofs.YtalhoacancbldaaDoor
set_option linter.unusedVariables false
set_option linter.unusedSimpArgs false
open Go.RowKit

theorem byte_of_wf {n : Int} (h : (Lit.int .u8 n).wf = true) : ((UInt8.ofNat n.toNat).toNat : Int) = n := by
  have h := of_decide_eq_true (p := IntKind.u8.min ≤ n ∧ n ≤ IntKind.u8.max) (by simpa [Lit.wf] using h)
  have h1 : IntKind.u8.min = 0 := by decide
  have h2 : IntKind.u8.max = 255 := by decide
  rw [UInt8.toNat_ofNat']
  omega
theorem BS.of_ints {w : World} {x : Addr} {len cap : Nat} {zs : List Int} (hl : len ≤ cap) (hz : zs.length = cap) (hcell : ∀ i, i < zs.length → w.cell? (x.add i) = some (.int .u8 (zs.getD i 0)))
    (hw : ∀ n ∈ zs, (Lit.int .u8 n).wf = true) : ∃ l : List UInt8, l.length = len ∧ BS w (.slice (some x) len cap) l := by
  refine ⟨(zs.take len).map (fun z => UInt8.ofNat z.toNat), by simp; omega, some x, cap, ?_, by simp; omega, ?_⟩
  · congr 1; simp; omega
  · intro hne
    have hlen : 0 < len := by
      rcases Nat.eq_zero_or_pos len with h | h
      · subst h; simp [byteV] at hne
      · exact h
    obtain ⟨b, o, sp⟩ := x
    have h0 := hcell 0 (by omega)
    have hsp : sp = none := by simpa [Addr.add] using World.cell?_spot h0
    subst hsp
    refine ⟨b, o, rfl, ?_, fun i hi => ?_⟩
    · rcases Nat.lt_or_ge b w.heap.size with hlt | hge
      · exact hlt
      · exfalso
        unfold World.cell? at h0
        simp [Addr.add, Array.getElem?_eq_none hge] at h0
    · have hi' : i < len := by simp [byteV] at hi; omega
      have hc := hcell i (by omega)
      have e : (⟨b, o, none⟩ : Addr).add i = ⟨b, o + i, none⟩ := by simp [Addr.add]
      rw [e] at hc
      rw [hc]
      have hlt : i < zs.length := by omega
      have hwf := byte_of_wf (hw _ (List.getElem_mem hlt))
      simp only [byteV, List.getElem_map, List.getElem_take, List.getD_eq_getElem?_getD, List.getElem?_eq_getElem hlt, Option.getD_some]
      rw [hwf]
end Go.Proofs.YtalhoacancbldaaDoor
