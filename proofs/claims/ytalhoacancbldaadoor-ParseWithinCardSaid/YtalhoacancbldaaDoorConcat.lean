import Derived.Test.YtalhoacancbldaaDoorParse18
import Derived.Shelf.Spec.SlicesGrow
/- slices.Grow of the kit's shelf, laid at []byte: a nil row with room. -/
namespace Go.Proofs
open Go.Shelf
shelf_lay_g Lays8.n4 Nm8 4 at Tryd 62 as Tryd.growB
end Go.Proofs
namespace Go.Proofs.YtalhoacancbldaaDoor
set_option linter.unusedVariables false
set_option linter.unusedSimpArgs false
open Go.RowKit Go.Shelf
/-- slices.Grow of no row: a row of one's own with room -/
theorem growB_any (n : Nat) (w : World) (hn : n ≤ 1048576) :
    Calls Tryd.prog 62 #[.slice none 0 0, .int .i64 n] w fun e w' => ∃ v, e = .returned v ∧ w'.ownsRow w.heap.size 5 1 v 0 [] ∧ Below w.heap.size w w' := by
  obtain ⟨i0, hi, hz0, hz1, hz2⟩ := info_parts infoByte5
  rcases Nat.eq_zero_or_pos n with h0 | h0
  · subst h0
    refine (Any8.slices_Grow_room Tryd.growB none 0 0 0 w (Nat.le_refl _) (by decide) (by decide) (by decide)).mono ?_
    rintro e w' ⟨rfl, rfl⟩
    exact ⟨_, rfl, ⟨rfl, .inl ⟨rfl, rfl⟩⟩, Below.refl _ _⟩
  · refine (Any8.slices_Grow_grow Tryd.growB i0 _ hi hz0 (by omega) none 0 0 n [] w (Nat.le_refl _) (by omega) (by rw [hz2]; omega) (by omega) (by simp) (fun _ => rfl) (fun a h => by cases h)).mono ?_
    rintro e w' ⟨rfl, rfl⟩
    obtain ⟨G, hG⟩ : ∃ G, G = grownCap w (0 + n) 0 (Tryd.growB_ren.t 25) := ⟨_, rfl⟩
    have hge : 0 + n ≤ grownCap w (0 + n) 0 (Tryd.growB_ren.t 25) := grownCap_ge w _ _ _
    have hle := grownCap_le_maxLen w (0 + n) 0 (Tryd.growB_ren.t 25) (by unfold maxLen; omega)
    rw [← hG] at hge hle ⊢
    refine ⟨_, rfl, ?_, ((bel_drewN (Below.refl _ w) 1).alloc (Nat.le_refl _) _)⟩
    exact World.ownsRow_made (base := w.heap.size) (e := 5) (size := 1) w.drew _ G (Nat.le_refl _) hle (by simp [size_zeroCells, Value.cells]; omega)
end Go.Proofs.YtalhoacancbldaaDoor

/- The walk of slices.Concat over rows of bytes. -/
namespace Go.Proofs.YtalhoacancbldaaDoor
set_option linter.unusedVariables false
set_option linter.unusedSimpArgs false
open Go.RowKit
attribute [local go_sem] run_index_arr run_part_agg run_part_one run_field_agg

/-- a row of rows of bytes, in memory -/
def BSS (w : World) (b o : Nat) (ls : List (List UInt8)) : Prop := ∀ i l, ls[i]? = some l → ∃ v, w.cell? ⟨b, o + i, none⟩ = some v ∧ BS w v l
def lensTo (ls : List (List UInt8)) (k : Nat) : Nat := ((ls.take k).flatten).length
theorem lensTo_succ {ls : List (List UInt8)} {k : Nat} {l : List UInt8} (h : ls[k]? = some l) : lensTo ls (k + 1) = lensTo ls k + l.length := by
  unfold lensTo; rw [List.take_add_one, h]; simp
theorem flat_succ {ls : List (List UInt8)} {k : Nat} {l : List UInt8} (h : ls[k]? = some l) : (ls.take (k + 1)).flatten = (ls.take k).flatten ++ l := by
  rw [List.take_add_one, h]; simp
theorem lensTo_le (ls : List (List UInt8)) (k : Nat) : lensTo ls k ≤ ls.flatten.length := by
  unfold lensTo
  have h := List.take_append_drop k ls
  have e : ls.flatten = (ls.take k).flatten ++ (ls.drop k).flatten := by rw [← List.flatten_append, h]
  rw [e, List.length_append]; omega
set_option maxRecDepth 100000 in
set_option maxHeartbeats 4000000 in
theorem concat_any (b o n cap : Nat) (ls : List (List UInt8)) (w : World) (hn : ls.length = n) (hc : n ≤ cap) (hn8 : n ≤ 1048576) (hb : b < w.heap.size) (hr : BSS w b o ls) (hl : ls.flatten.length ≤ 1048576) :
    Calls Tryd.prog 34 #[.slice (some ⟨b, o, none⟩) n cap] w (RetB5 ls.flatten w) := by
  obtain ⟨i0, hi, hz0, hz1, hz2⟩ := info_parts infoByte5
  have HN := Lib.hid hn
  have HR := Lib.hid hr
  have HL := Lib.hid hl
  have HI := Lib.hid hi
  clear hn hr hl hi
  go_enter Tryd.func34, Tryd.ntmps34
  go_wp2
  go_loopg [11, 3] n (fun gk i s wr => ∃ k : Nat, k ≤ n ∧ gk = n - k ∧ i = .int .i64 k ∧ s = .int .i64 (lensTo ls k) ∧ w = wr)
  case atStart => exact ⟨0, Nat.zero_le _, rfl, rfl, rfl, rfl⟩
  case round =>
    obtain ⟨k, hk, hgk, rfl, rfl, rfl⟩ := hrel
    have HG := Lib.hid hgk
    clear hgk
    obtain ⟨S, hS⟩ : ∃ S, lensTo ls k = S := ⟨_, rfl⟩
    rw [hS]
    have HS := Lib.hid hS
    have hS2 : S ≤ 1048576 := by have := lensTo_le ls k; have := HL.out; omega
    clear hS
    by_cases hlt : k < n
    · obtain ⟨a, ha⟩ : ∃ x, ls[k]? = some x := ⟨_, List.getElem?_eq_getElem (by rw [HN.out]; exact hlt)⟩
      obtain ⟨v, hcell, A, ca, rfl, hca, hra⟩ := HR.out k a ha
      have hsum := lensTo_succ ha
      have hS3 : S + a.length ≤ 1048576 := by have h1 := lensTo_le ls (k + 1); have h2 := HL.out; have h3 := HS.out; omega
      have HA := Lib.hid ha
      have HSU := Lib.hid hsum
      clear ha hsum
      go_wp2
      go_roundg (n - (k + 1))
      case measure => rw [HG.out]; omega
      case rel => exact ⟨k + 1, hlt, rfl, by go_num, by rw [HSU.out, HS.out]; go_num, rfl⟩
    · obtain rfl : n = k := by omega
      have HGr := Lib.hid (growB_any S w hS2)
      go_wp2_with fail
      refine HGr.out.mono ?_
      rintro e w1 ⟨v, rfl, hown, hb1⟩
      have HO := Lib.hid hown
      have HB := Lib.hid hb1
      clear hown hb1
      go_wp2_with fail
      go_loopg [27, 6] n (fun gk i s wr => ∃ k : Nat, k ≤ n ∧ gk = n - k ∧ i = .int .i64 k ∧ Hid (wr.ownsRow w.heap.size 5 1 s (lensTo ls k) (byteV (ls.take k).flatten)) ∧ Hid (Below w.heap.size w wr))
      case atStart => exact ⟨0, Nat.zero_le _, rfl, rfl, HO, HB⟩
      case round =>
        obtain ⟨k, hk, hgk, rfl, HO2, HB2⟩ := hrel
        have HG2 := Lib.hid hgk
        clear hgk
        by_cases hlt2 : k < n
        · obtain ⟨a, ha⟩ : ∃ x, ls[k]? = some x := ⟨_, List.getElem?_eq_getElem (by rw [HN.out]; exact hlt2)⟩
          obtain ⟨v, hcell, A, ca, rfl, hca, hra⟩ := HR.out k a ha
          have hcell2 := ((bcell HB2.out).1 b _ hb).trans hcell
          have HRA := Lib.hid (hra.below HB2.out)
          have hsum := Lib.hid (lensTo_succ ha)
          have hflat := Lib.hid (flat_succ ha)
          have HT := Lib.hid (Nat.le_trans (lensTo_le ls (k + 1)) HL.out)
          have hnil : A = none → a.length = 0 := by
            rintro rfl
            rcases a with _ | ⟨c, r⟩
            · rfl
            · obtain ⟨b', o', e, _⟩ := hra (by simp [byteV])
              cases e
          have HNI := Lib.hid hnil
          clear hcell hra ha hnil
          go_wp2_with (at_builtin; refine wpList_append_rd _ rfl _ _ 36 rfl w.heap.size 5 i0 _ 1 1 Tryd.underlying36 HI.out hz0 hz1 hz2 rfl (by decide) _ _ _ rfl HO2.out A a.length ca HNI.out (byteV a) rfl (by rw [byteV_len, Nat.mul_one]) HRA.out (byteV_one a) (by have h1 := HT.out; have h2 := hsum.out; unfold maxLen; omega) (by have h1 := HT.out; have h2 := hsum.out; omega) HB2.out.size ?_; intro v' w2 hown2 hgr _)
          go_roundg (n - (k + 1))
          case measure => rw [HG2.out]; omega
          case rel =>
            refine ⟨k + 1, hlt2, rfl, by go_num, Lib.hid ?_, Lib.hid ?_⟩
            · rw [hsum.out, hflat.out]
              have e : byteV ((ls.take k).flatten ++ a) = byteV (ls.take k).flatten ++ byteV a := by simp [byteV]
              rw [e]; exact hown2
            · exact HB2.out.grown hgr HB2.out.size (fun q e => (HO2.out.lt q e).1)
        · obtain rfl : n = k := by omega
          go_wp2
          go_ret
          have h := HO2.out
          have e : lensTo ls n = ls.flatten.length := by unfold lensTo; rw [List.take_of_length_le (by rw [HN.out]; exact Nat.le_refl _)]
          rw [e, List.take_of_length_le (by rw [HN.out]; exact Nat.le_refl _)] at h
          exact ⟨_, rfl, BS.of_own h, HB2.out⟩
end Go.Proofs.YtalhoacancbldaaDoor
