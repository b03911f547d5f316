/- The walks of slices.Clone over bytes and of slices.Equal over texts; a kid's cells. -/
import Derived.Test.YtoejdhabpajhlaaDoorVal
import Derived.Test.YtoejdhabpajhlaaDoorBase
import Derived.WalkMore
namespace Go.Proofs.YtoejdhabpajhlaaDoor
set_option linter.unusedVariables false
set_option linter.unusedSimpArgs false
open Go.RowKit
attribute [local go_sem] run_index_arr run_part_agg run_part_one run_field_agg

theorem infoByte5 : (Tryd.prog.info? 5).map (fun i => (i.zero, i.size, i.bytes)) = some (some (.int .u8 0), 1, 1) := by kernel_rfl
def RetB5 (l : List UInt8) (W : World) (e : Ending) (W' : World) : Prop := ∃ v, e = .returned v ∧ BS W' v l ∧ Below W.heap.size W W'
set_option maxRecDepth 100000 in
set_option maxHeartbeats 2000000 in
theorem byteClone_any (A : Option Addr) (n cap : Nat) (l : List UInt8) (w : World) (hn : l.length = n) (hc : n ≤ cap) (hr : Rd w A (byteV l)) (hl : l.length ≤ 4194304) :
    Calls Tryd.prog 20 #[.slice A n cap] w (RetB5 l w) := by
  subst hn
  obtain ⟨i0, hi, hz0, hz1, hz2⟩ := info_parts infoByte5
  have hnil := fun (A : Option Addr) (n c : Nat) (w : World) => Lib.run_eql_slice_nil (P := Tryd.prog) (w := w) 22 5 A n c 0 0 Tryd.underlying22
  rcases A with _ | ad
  · have hts : l = [] := by
      cases l with
      | nil => rfl
      | cons x r =>
        obtain ⟨b, o, e, _⟩ := hr (by simp [byteV])
        cases e
    subst hts
    go_enter Tryd.func20, Tryd.ntmps20
    go_wp2
    go_ret
    exact ⟨_, rfl, BS.nil, Below.refl _ _⟩
  · go_enter Tryd.func20, Tryd.ntmps20
    go_wp2_with (at_builtin; refine wpList_append_rd _ rfl _ _ 22 rfl w.heap.size 5 i0 _ 1 1 Tryd.underlying22 hi hz0 hz1 hz2 rfl (by decide) _ 0 [] rfl (World.ownsRow_made w #[] 0 (Nat.le_refl _) (by decide) rfl) (some ad) l.length cap (by intro h; cases h) (byteV l) rfl (by rw [byteV_len, Nat.mul_one]) (hr.alloc _) (byteV_one l) (by unfold maxLen; omega) (by omega) (by simp) ?_; intro v' w1 hown hgr _)
    go_ret
    rw [Nat.zero_add, List.nil_append] at hown
    exact ⟨_, rfl, BS.of_own hown, ((Below.refl _ w).alloc (Nat.le_refl _) _).grown hgr (by simp) (fun k e => by cases e; exact Nat.le_refl _)⟩
set_option maxRecDepth 100000 in
set_option maxHeartbeats 4000000 in
/-- slices.Equal over texts -/
theorem strEqual_any (A1 A2 : Option Addr) (n1 n2 c1 c2 : Nat) (k1 k2 : List (List UInt8)) (w : World) (hn1 : k1.length = n1) (hn2 : k2.length = n2) (h1 : Rd w A1 (strV k1)) (h2 : Rd w A2 (strV k2)) (hc1 : n1 ≤ c1) (hc2 : n2 ≤ c2) (hl1 : n1 ≤ 4194304) (hl2 : n2 ≤ 4194304) :
    Calls Tryd.prog 18 #[.slice A1 n1 c1, .slice A2 n2 c2] w fun e w' => e = .returned (.bool (decide (k1 = k2))) ∧ ∃ q, w.drewN q = w' := by
  by_cases hlen : n1 = n2
  · subst hlen
    have HN1 := Lib.hid hn1
    have HN2 := Lib.hid hn2
    clear hn1 hn2
    go_enter Tryd.func18, Tryd.ntmps18
    go_wp2
    go_loopg [13] n1 (fun gk i wr => ∃ k q : Nat, k ≤ n1 ∧ gk = n1 - k ∧ i = .int .i64 k ∧ wr = w.drewN q ∧ Hid (k1.take k = k2.take k))
    case atStart => exact ⟨0, 0, Nat.zero_le _, rfl, rfl, rfl, Lib.hid rfl⟩
    case round =>
      obtain ⟨k, q, hk, hgk, rfl, rfl, HE⟩ := hrel
      have HG := Lib.hid hgk
      clear hgk
      by_cases hlt : k < n1
      · obtain ⟨a, ha⟩ : ∃ x, k1[k]? = some x := ⟨_, List.getElem?_eq_getElem (by rw [HN1.out]; exact hlt)⟩
        obtain ⟨b, hb⟩ : ∃ x, k2[k]? = some x := ⟨_, List.getElem?_eq_getElem (by rw [HN2.out]; exact hlt)⟩
        have key : ∀ (A : Option Addr) (ks : List (List UInt8)) (x : List UInt8), Rd w A (strV ks) → ks[k]? = some x → ∃ b o, A = some ⟨b, o, none⟩ ∧ w.cell? ⟨b, o + k, none⟩ = some (.string ⟨x.toArray⟩) := fun A ks x hr hx => by
          have hkl := (List.getElem?_eq_some_iff.1 hx)
          obtain ⟨b, o, rfl, _, hc⟩ := hr (by intro e; have h := strV_len ks; rw [e] at h; have := hkl.1; simp at h; omega)
          refine ⟨b, o, rfl, ?_⟩
          rw [hc k (by rw [strV_len]; exact hkl.1)]
          simp [strV, hkl.2]
        obtain ⟨b1, o1, rfl, x1⟩ := key A1 k1 a h1 ha
        obtain ⟨b2, o2, rfl, x2⟩ := key A2 k2 b h2 hb
        have HA := Lib.hid ha
        have HB := Lib.hid hb
        clear ha hb key
        by_cases hab : a = b
        · subst hab
          go_wp2
          go_quiet (fail)
          go_wp2
          go_roundg (n1 - (k + 1))
          case measure => rw [HG.out]; omega
          case rel => exact ⟨k + 1, q + nq, hlt, rfl, by go_num, rfl, Lib.hid (by rw [List.take_add_one, List.take_add_one, HE.out, HA.out, HB.out])⟩
        · have hbe : (a == b) = false := by simpa using hab
          have hbe2 : (a != b) = true := by simpa using hab
          have HF := Lib.hid (show k1 ≠ k2 from fun e => hab (by have h := HA.out; rw [e, HB.out] at h; injection h with h; exact h.symm))
          clear hab
          go_wp2
          go_quiet (fail)
          go_wp2
          go_ret
          exact ⟨ret_bool (by rw [decide_eq_false HF.out]), q + nq, (World.drewN_drewN _ _ _).symm⟩
      · obtain rfl : k = n1 := by omega
        go_wp2
        go_ret
        refine ⟨ret_bool ?_, q, rfl⟩
        have h := HE.out
        rw [List.take_of_length_le (by rw [HN1.out]; exact Nat.le_refl _), List.take_of_length_le (by rw [HN2.out]; exact Nat.le_refl _)] at h
        simp [h]
  · have hne : ((n1 : Int) != (n2 : Int)) = true := by simp; omega
    have HF := Lib.hid (show k1 ≠ k2 from fun e => hlen (by rw [← hn1, ← hn2, e]))
    clear hlen
    go_enter Tryd.func18, Tryd.ntmps18
    go_wp2
    go_ret
    exact ⟨ret_bool (by rw [decide_eq_false HF.out]), 0, rfl⟩
/-- a kid's cells, by the address of its row -/
theorem VRs.cell {W : World} {F : Nat → Prop} {css : List (List Value)} {xs : List JV} {A : Option Addr} (h : VRs W F css xs) (hr : RdF W F A css.flatten) {i : Nat} {x : JV} (hx : xs[i]? = some x) :
    ∃ b o c, A = some ⟨b, o, none⟩ ∧ b < W.heap.size ∧ F b ∧ VR W F c x ∧ ∀ (j : Nat) (u : Value), j < 5 → c[j]? = some u → W.cell? ⟨b, o + (i * 5 + j), none⟩ = some u := by
  obtain ⟨c, hc, hv⟩ := h.get_ hx
  have hl : css.flatten ≠ [] := by
    have h3 := flat5_len h.five
    have h4 := (List.getElem?_eq_some_iff.1 hc).1
    intro e
    rw [e] at h3
    simp at h3
    omega
  obtain ⟨b, o, rfl, hb, hf, hx⟩ := hr hl
  refine ⟨b, o, c, rfl, hb, hf, hv, fun j u hj hu => ?_⟩
  have h1 := flat5_get h.five hc hj
  rw [hu] at h1
  obtain ⟨hlt, e⟩ := List.getElem?_eq_some_iff.1 h1
  rw [hx _ hlt, e]
end Go.Proofs.YtoejdhabpajhlaaDoor
