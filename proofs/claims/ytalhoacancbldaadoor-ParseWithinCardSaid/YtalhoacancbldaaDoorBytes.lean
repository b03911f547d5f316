import Derived.Test.YtalhoacancbldaaDoorBase
import Derived.Laws.IdiomStrings
import Derived.ProofKit
import Derived.WalkKit
/- []byte(s): a new row that reads as the string's bytes. -/
namespace Go.Proofs.YtalhoacancbldaaDoor
set_option linter.unusedVariables false
set_option linter.unusedSimpArgs false
open Go.RowKit

theorem conv_bytes {P : Program} (w : World) (src dst e : TypeId) (s : ByteArray) (hs : P.underlying src = some .string) (hd : P.underlying dst = some (.slice e)) (he : P.underlying e = some (.int .u8)) :
    ∃ (cap : Nat) (W1 : World), (convert src dst (.string s)).run P w = .ok (.slice (some ⟨w.heap.size, 0, none⟩) s.size cap) W1 ∧ s.size ≤ cap ∧ Below w.heap.size w W1 ∧ W1.heap.size = w.heap.size + 1 ∧
      Rd W1 (some ⟨w.heap.size, 0, none⟩) (byteV (sl s)) := by
  refine ⟨_, _, run_bytes_of_string w src dst e s hs hd he, ?_, ?_, ?_, ?_⟩
  · exact grownCap_ge _ _ _ _
  · exact ⟨rfl, rfl, rfl, by simp, fun k hk => by
      show (w.heap.push _)[k]? = _
      rw [Array.getElem?_push, if_neg (by omega)]⟩
  · simp
  · intro hn
    refine ⟨w.heap.size, 0, rfl, by simp, fun i hi => ?_⟩
    have hlt : i < s.data.size := by simpa [byteV, sl] using hi
    have := World.cell?_alloc_mark w.drew (bytesRow s (grownCap w s.size 0 e)) e ((bytesRow s (grownCap w s.size 0 e)).size, (bytesRow s (grownCap w s.size 0 e)).size + 1) i
    rw [Nat.zero_add]
    refine this.trans ?_
    rw [bytesRow_at s _ i hlt]
    simp [byteV, sl]
end Go.Proofs.YtalhoacancbldaaDoor

/- A []byte that came in, as bytes. -/
namespace Go.Proofs.YtalhoacancbldaaDoor
set_option linter.unusedVariables false
set_option linter.unusedSimpArgs false
open Go.RowKit

theorem byte_of_wf {n : Int} (h : (Lit.int .u8 n).wf = true) : ((UInt8.ofNat n.toNat).toNat : Int) = n := by
  have h := of_decide_eq_true (p := IntKind.u8.min ≤ n ∧ n ≤ IntKind.u8.max) (by simpa [Lit.wf] using h)
  have h1 : IntKind.u8.min = 0 := by decide
  have h2 : IntKind.u8.max = 255 := by decide
  rw [UInt8.toNat_ofNat']
  omega
theorem BS.of_ints {w : World} {x : Addr} {len cap : Nat} {zs : List Int} (hl : len ≤ cap) (hz : zs.length = cap) (hcell : ∀ i, i < zs.length → w.cell? (x.add i) = some (.int .u8 (zs.getD i 0)))
    (hw : ∀ n ∈ zs, (Lit.int .u8 n).wf = true) : ∃ l : List UInt8, l.length = len ∧ BS w (.slice (some x) len cap) l := by
  refine ⟨(zs.take len).map (fun z => UInt8.ofNat z.toNat), by simp; omega, some x, cap, ?_, by simp; omega, ?_⟩
  · congr 1; simp; omega
  · intro hne
    have hlen : 0 < len := by
      rcases Nat.eq_zero_or_pos len with h | h
      · subst h; simp [byteV] at hne
      · exact h
    obtain ⟨b, o, sp⟩ := x
    have h0 := hcell 0 (by omega)
    have hsp : sp = none := by simpa [Addr.add] using World.cell?_spot h0
    subst hsp
    refine ⟨b, o, rfl, ?_, fun i hi => ?_⟩
    · rcases Nat.lt_or_ge b w.heap.size with hlt | hge
      · exact hlt
      · exfalso
        unfold World.cell? at h0
        simp [Addr.add, Array.getElem?_eq_none hge] at h0
    · have hi' : i < len := by simp [byteV] at hi; omega
      have hc := hcell i (by omega)
      have e : (⟨b, o, none⟩ : Addr).add i = ⟨b, o + i, none⟩ := by simp [Addr.add]
      rw [e] at hc
      rw [hc]
      have hlt : i < zs.length := by omega
      have hwf := byte_of_wf (hw _ (List.getElem_mem hlt))
      simp only [byteV, List.getElem_map, List.getElem_take, List.getD_eq_getElem?_getD, List.getElem?_eq_getElem hlt, Option.getD_some]
      rw [hwf]
end Go.Proofs.YtalhoacancbldaaDoor
