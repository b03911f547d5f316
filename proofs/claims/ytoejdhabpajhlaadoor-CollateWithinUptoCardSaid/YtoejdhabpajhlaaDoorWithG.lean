/- The walks of the reference davenportref04: within, Right, of any value. -/
import Derived.Test.YtoejdhabpajhlaaDoorAloneG
import Derived.Test.YtoejdhabpajhlaaDoorOrdP
import Derived.Test.YtoejdhabpajhlaaDoorRef2d
import Derived.Test.YtoejdhabpajhlaaDoorAll5
namespace Go.Proofs.YtoejdhabpajhlaaDoor
set_option linter.unusedVariables false
set_option linter.unusedSimpArgs false
open Go.RowKit
attribute [local go_sem] run_index_arr run_part_agg run_part_one run_field_agg

/-- the five cells of a kid, as a walk reads them -/
theorem kid_cellsG {W : World} {F : Nat → Prop} {css : List (List Value)} {xs : List JV} {A : Option Addr} (h : VRs W F css xs) (hr : RdF W F A css.flatten) {i : Nat} {x : JV} (hx : xs[i]? = some x) :
    ∃ (b o : Nat) (k n : Int) (s : ByteArray) (A' : Option Addr) (na ca : Nat) (B' : Option Addr) (nb cb : Nat), A = some ⟨b, o, none⟩ ∧ b < W.heap.size ∧ VR W F [.int .i64 k, .int .i64 n, .string s, .slice A' na ca, .slice B' nb cb] x ∧
      ∀ W', Below W.heap.size W W' → W'.cell? ⟨b, o + i * 5, none⟩ = some (.int .i64 k) ∧ W'.cell? ⟨b, o + i * 5 + 1, none⟩ = some (.int .i64 n) ∧ W'.cell? ⟨b, o + i * 5 + 2, none⟩ = some (.string s) ∧ W'.cell? ⟨b, o + i * 5 + 3, none⟩ = some (.slice A' na ca) ∧ W'.cell? ⟨b, o + i * 5 + 4, none⟩ = some (.slice B' nb cb) := by
  obtain ⟨b, o, c, rfl, hb, _, hv, hc⟩ := h.cell hr hx
  obtain ⟨k, n, s, A', na, ca, B', nb, cb, rfl⟩ := hv.form
  refine ⟨b, o, k, n, s, A', na, ca, B', nb, cb, rfl, hb, hv, fun W' hW => ?_⟩
  have z := fun (j : Nat) u (hj : j < 5) hu => (hW.cell (p := ⟨b, o + (i * 5 + j), none⟩) hb).trans (hc j u hj hu)
  exact ⟨z 0 _ (by decide) rfl, z 1 _ (by decide) rfl, z 2 _ (by decide) rfl, z 3 _ (by decide) rfl, z 4 _ (by decide) rfl⟩
/-- how many nodes a value has, if it is right within so many levels and nodes -/
def withinR (d most : Nat) (v : JV) : Nat := if goodJ d v = true ∧ nodesJ v ≤ most then nodesJ v else 0
theorem withinR_bad {d most : Nat} {k n : Int} {s : List UInt8} {kids : List JV} {keys : List (List UInt8)} (h : goodA k n s kids.length keys = false) : withinR d most (.mk k n s kids keys) = 0 := by
  unfold withinR
  rw [if_neg]
  rintro ⟨h1, _⟩
  rw [(goodJ_out h1).1] at h; cases h
theorem withinR_deep {most : Nat} {k n : Int} {s : List UInt8} {kids : List JV} {keys : List (List UInt8)} (h : 5 ≤ k) : withinR 0 most (.mk k n s kids keys) = 0 := by
  unfold withinR
  rw [if_neg]
  rintro ⟨h1, _⟩
  exact (goodJ_out h1).2.1 h rfl
theorem withinR_kid {d most i : Nat} {k n : Int} {s : List UInt8} {kids : List JV} {keys : List (List UInt8)} {x : JV} (hx : kids[i]? = some x) (h : withinR (d - 1) (most - (1 + nodesL (kids.take i))) x = 0) : withinR d most (.mk k n s kids keys) = 0 := by
  unfold withinR
  rw [if_neg]
  rintro ⟨h1, h2⟩
  obtain ⟨_, _, h3⟩ := goodJ_out h1
  obtain ⟨hn1, hn2⟩ := nodesL_at hx
  unfold nodesJ at h2
  have hp := nodesJ_pos x
  unfold withinR at h
  rw [if_pos ⟨goodL_iff.1 h3 x (List.mem_of_getElem? hx), by omega⟩] at h
  omega
theorem withinR_step {d m : Nat} {x : JV} {r : Nat} (h : withinR d m x = r) (hr : r ≠ 0) : goodJ d x = true ∧ nodesJ x = r ∧ r ≤ m := by
  unfold withinR at h
  split at h
  · rename_i hh; exact ⟨hh.1, h, by omega⟩
  · exact absurd h.symm hr
theorem withinR_all {d most : Nat} {k n : Int} {s : List UInt8} {kids : List JV} {keys : List (List UInt8)} (ha : goodA k n s kids.length keys = true) (hd : 5 ≤ k → d ≠ 0) (hk : ∀ x ∈ kids, goodJ (d - 1) x = true) (hm : 1 + nodesL kids ≤ most) : withinR d most (.mk k n s kids keys) = 1 + nodesL kids := by
  unfold withinR
  have : goodJ d (.mk k n s kids keys) = true := by
    unfold goodJ
    rw [ha, decide_eq_true hd, goodL_iff.2 hk]; rfl
  rw [if_pos ⟨this, by unfold nodesJ; exact hm⟩]
  unfold nodesJ; rfl
set_option maxRecDepth 100000 in
set_option maxHeartbeats 4000000 in
theorem rWithinG : ∀ (N : Nat) (v : JV), nodesJ v ≤ N → ∀ (d most : Nat) (cs : List Value) (F : Nat → Prop) (w : World), VR w F cs v → Came v → most ≤ 256 → d ≤ 8 →
    Calls Tryd.prog 71 #[.agg cs.toArray, .int .i64 d, .int .i64 most] w fun e w' => e = .returned (.int .i64 (withinR d most v)) ∧ Below w.heap.size w w'
  | 0, v, h, _, _, _, _, _, _, _, _, _ => by have := nodesJ_pos v; omega
  | N + 1, .mk k n s kids keys, hN, d, most, cs, F, w, hv, hR, hm, hd => by
    have ih := rWithinG N
    unfold nodesJ at hN
    have hAL := fun W (h : Below w.heap.size w W) => rAloneG cs k n s kids keys F W (hv.bel h) hR
    obtain ⟨b1, b2, b3, hkl, b5, b6, hck⟩ := hR.out
    obtain ⟨A, B, ca, cb, css, rfl, h1, h2, h3, h4, h5, h6, h7⟩ := hv.out
    have HIH := Lib.hid (fun (i : Nat) (x : JV) (hx : kids[i]? = some x) => kid_cellsG h1 h6 hx)
    have HCK := Lib.hid hck
    have HI := Lib.hid ih
    have HAL := Lib.hid hAL
    obtain ⟨rr, hrr⟩ : ∃ rr, withinR d most (.mk k n s kids keys) = rr := ⟨_, rfl⟩
    rw [hrr]
    have HRR := Lib.hid hrr
    have HKID := Lib.hid (fun (i : Nat) (x : JV) (hx : kids[i]? = some x) => withinR_kid (d := d) (most := most) (k := k) (n := n) (s := s) (keys := keys) hx)
    have HALL := Lib.hid (withinR_all (d := d) (most := most) (k := k) (n := n) (s := s) (kids := kids) (keys := keys))
    have HBAD := Lib.hid (withinR_bad (d := d) (most := most) (k := k) (n := n) (s := s) (kids := kids) (keys := keys))
    have HDEEP := Lib.hid (withinR_deep (most := most) (k := k) (n := n) (s := s) (kids := kids) (keys := keys))
    have HLEAF := Lib.hid (fun (h : goodA k n s kids.length keys = true) (h5 : k < 5) => (goodA_leaf h h5).1)
    have hz0 : most = 0 → rr = 0 := fun h => by
      rw [← hrr]; unfold withinR; rw [if_neg]
      rintro ⟨_, h2⟩
      have := nodesJ_pos (.mk k n s kids keys)
      omega
    obtain ⟨g, hg⟩ : ∃ g, goodA k n s kids.length keys = g := ⟨_, rfl⟩
    rw [hg] at HAL HALL HBAD HLEAF
    obtain ⟨nk, hnk⟩ : ∃ nk, kids.length = nk := ⟨_, rfl⟩
    obtain ⟨ny, hny⟩ : ∃ ny, keys.length = ny := ⟨_, rfl⟩
    rw [hnk, hny] at HAL
    rw [hnk] at h2 hkl HLEAF ⊢
    rw [hny] at h3 ⊢
    have HNK := Lib.hid hnk
    have HBW := Lib.hid ((Below.refl w.heap.size w).alloc (Nat.le_refl _) (.cells #[.int .i64 k, .int .i64 n, .string ⟨s.toArray⟩, .slice A nk ca, .slice B ny cb] 28))
    clear hv hR h1 h4 h5 h6 h7 hnk hny ih hAL hrr hg hck b1 b2 b3 b5 b6
    by_cases hm0 : most = 0
    · obtain rfl := hz0 hm0
      subst hm0
      clear hz0
      go_enter Tryd.func71, Tryd.ntmps71
      go_wp2
      go_ret
      exact ⟨rfl, HBW.out⟩
    have hm1 : ¬ (most : Int) < 1 := by omega
    clear hz0
    cases g with
    | false =>
      have h0 := HBAD.out rfl
      rw [HRR.out] at h0
      subst h0
      go_enter Tryd.func71, Tryd.ntmps71
      go_wp2_with fail
      refine (HAL.out _ HBW.out).mono ?_
      rintro e w1 ⟨rfl, hb1⟩
      have HB1 := Lib.hid (HBW.out.trans (hb1.mono HBW.out.size))
      clear hb1
      go_wp2
      go_ret
      exact ⟨rfl, HB1.out⟩
    | true =>
    by_cases hdeep : 5 ≤ k ∧ d = 0
    · obtain ⟨h5, rfl⟩ := hdeep
      have h0 := HDEEP.out h5
      rw [HRR.out] at h0
      subst h0
      go_enter Tryd.func71, Tryd.ntmps71
      go_wp2_with fail
      refine (HAL.out _ HBW.out).mono ?_
      rintro e w1 ⟨rfl, hb1⟩
      have hbk := (Blk.new w 28 #[.int .i64 k, .int .i64 n, .string ⟨s.toArray⟩, .slice A nk ca, .slice B ny cb]).keep hb1
      have HB1 := Lib.hid (HBW.out.trans (hb1.mono HBW.out.size))
      obtain ⟨c1, f1, l1⟩ := hbk.rules
      clear hb1 hbk
      have z0 := c1 0
      simp at z0
      go_wp2
      go_ret
      exact ⟨rfl, HB1.out⟩
    have hcs : (5 ≤ k ∧ ((d : Int) == 0) = false) ∨ ¬ 5 ≤ k := by
      by_cases h : 5 ≤ k
      · exact .inl ⟨h, by simp; omega⟩
      · exact .inr h
    rcases hcs with ⟨h5, hdi⟩ | h5
    all_goals
      go_enter Tryd.func71, Tryd.ntmps71
      go_wp2_with fail
      refine (HAL.out _ HBW.out).mono ?_
      rintro e w1 ⟨rfl, hb1⟩
      have hbk := (Blk.new w 28 #[.int .i64 k, .int .i64 n, .string ⟨s.toArray⟩, .slice A nk ca, .slice B ny cb]).keep hb1
      have HB1 := Lib.hid (HBW.out.trans (hb1.mono HBW.out.size))
      obtain ⟨c1, f1, l1⟩ := hbk.rules
      have HBK := Lib.hid hbk
      clear hb1 hbk
      have z0 := c1 0
      simp at z0
      go_wp2
      clear c1 f1 l1 z0
      go_loopg [7, 8] nk (fun gk s7 s8 wr => ∃ i m1 : Nat, i ≤ nk ∧ gk = nk - i ∧ s7 = .int .i64 m1 ∧ s8 = .int .i64 i ∧ 1 ≤ m1 ∧ m1 ≤ most ∧ Hid (m1 = 1 + nodesL (kids.take i)) ∧ Hid (∀ y ∈ kids.take i, goodJ (d - 1) y = true) ∧ Hid (Blk wr w.heap.size 28 #[.int .i64 k, .int .i64 n, .string ⟨s.toArray⟩, .slice A nk ca, .slice B ny cb]) ∧ Hid (Below w.heap.size w wr))
      case atStart => exact ⟨0, 1, Nat.zero_le _, rfl, by go_num, by go_num, Nat.le_refl _, by omega, Lib.hid rfl, Lib.hid (fun y hy => by simp at hy), HBK, HB1⟩
      case round =>
        obtain ⟨i, m1, hi, hgk, rfl, rfl, hm0, hm9, HM, HGD, HBK, HB1⟩ := hrel
        have HG := Lib.hid hgk
        clear hgk
        obtain ⟨c1, f1, l1⟩ := HBK.out.rules
        have z3 := c1 3
        simp at z3
        by_cases hlt : i < nk
        · obtain ⟨x, hx⟩ : ∃ x, kids[i]? = some x := ⟨_, List.getElem?_eq_getElem (by rw [HNK.out]; exact hlt)⟩
          obtain ⟨b, o, k', n', s', A', na, ca', B', nb, cb', rfl, hb, hvx, hz⟩ := HIH.out i x hx
          obtain ⟨q0, q1, q2, q3, q4⟩ := hz _ HB1.out
          have hd1 : 1 ≤ d := by
            rcases (show 5 ≤ k ∨ k < 5 by omega) with h | h
            · omega
            · have := HLEAF.out (by trivial) h; omega
          obtain ⟨hn1, hn2⟩ := nodesL_at hx
          have hn3 := HM.out
          have hcl := HI.out x (by omega) (d - 1) (most - m1) _ F _ (hvx.bel HB1.out) (HCK.out x (List.mem_of_getElem? hx)) (by omega) (by omega)
          obtain ⟨r, hr⟩ : ∃ r, withinR (d - 1) (most - m1) x = r := ⟨_, rfl⟩
          rw [hr, show (((d - 1 : Nat)) : Int) = (d : Int) - 1 by omega, show (((most - m1 : Nat)) : Int) = (most : Int) - (m1 : Int) by omega] at hcl
          have HCL := Lib.hid hcl
          by_cases hr0 : r = 0
          · have h0 := HKID.out i x hx (by rw [← hn3, hr]; exact hr0)
            rw [HRR.out] at h0
            subst h0
            subst hr0
            clear hz hvx hx hcl hr hn1 hn2 hn3 HM
            go_wp2_with fail
            refine HCL.out.mono ?_
            rintro e w2 ⟨rfl, hb2⟩
            have HB2 := Lib.hid (HB1.out.trans (hb2.mono HB1.out.size))
            clear hb2
            go_wp2
            go_ret
            exact ⟨rfl, HB2.out⟩
          obtain ⟨hgx, hnx, hrm⟩ := withinR_step hr hr0
          rw [hnx] at hn1 hn2
          have HM2 := Lib.hid (show m1 + r = 1 + nodesL (kids.take (i + 1)) by omega)
          have HGD2 := Lib.hid (show ∀ y ∈ kids.take (i + 1), goodJ (d - 1) y = true from fun y hy => by
            rw [List.take_add_one, hx] at hy
            rcases List.mem_append.1 hy with hy | hy
            · exact HGD.out y hy
            · obtain rfl : y = x := by simpa using hy
              exact hgx)
          have hmr : m1 + r ≤ most := by omega
          have hrb : ((r : Int) == 0) = false := by simp; omega
          clear hz hvx hx hcl hr hn1 hn2 hn3 HM hgx hnx
          go_wp2_with fail
          refine HCL.out.mono ?_
          rintro e w2 ⟨rfl, hb2⟩
          have HBK2 := Lib.hid (HBK.out.keep hb2)
          have HB2 := Lib.hid (HB1.out.trans (hb2.mono HB1.out.size))
          clear hb2
          go_wp2
          go_roundg (nk - (i + 1))
          case measure => rw [HG.out]; omega
          case rel => exact ⟨i + 1, m1 + r, hlt, rfl, by go_num, by go_num, by omega, hmr, HM2, HGD2, HBK2, HB2⟩
        · obtain rfl : i = nk := by omega
          have hn3 := HM.out
          have hgd := HGD.out
          rw [List.take_of_length_le (by rw [HNK.out]; exact Nat.le_refl _)] at hn3 hgd
          have h0 := HALL.out (by trivial) (fun h e => hdeep ⟨h, e⟩) hgd (by omega)
          rw [HRR.out, ← hn3] at h0
          subst h0
          go_wp2
          go_ret
          exact ⟨rfl, HB1.out⟩
theorem withinR_good (v : JV) : good v = decide (0 < withinR 8 256 v) := by
  unfold good withinR
  have := nodesJ_pos v
  by_cases h : goodJ 8 v = true ∧ nodesJ v ≤ 256
  · rw [if_pos h, h.1, decide_eq_true h.2, decide_eq_true (by omega)]; rfl
  · rw [if_neg h]
    rw [Bool.eq_iff_iff]
    simp only [Bool.and_eq_true, decide_eq_true_eq]
    exact ⟨fun h' => absurd h' h, fun h' => absurd h' (by omega)⟩
set_option maxRecDepth 100000 in
set_option maxHeartbeats 4000000 in
theorem rRightG (v : JV) (cs : List Value) (F : Nat → Prop) (w : World) (hv : VR w F cs v) (hc : Came v) :
    Calls Tryd.prog 43 #[.agg cs.toArray] w (BoolS (good v) w) := by
  have hW := fun W (h : Below w.heap.size w W) => rWithinG _ v (Nat.le_refl _) 8 256 cs F W (hv.bel h) hc (Nat.le_refl _) (Nat.le_refl _)
  obtain ⟨k0, n0, s0, A0, na0, ca0, B0, nb0, cb0, rfl⟩ := hv.form
  have hp := withinR_good v
  obtain ⟨r, hr⟩ : ∃ r, withinR 8 256 v = r := ⟨_, rfl⟩
  rw [hr, show ((8 : Nat) : Int) = 8 from rfl, show ((256 : Nat) : Int) = 256 from rfl] at hW
  rw [hr] at hp
  rw [hp]
  have HW := Lib.hid hW
  have HBW := Lib.hid ((Below.refl w.heap.size w).alloc (Nat.le_refl _) (.cells #[.int .i64 k0, .int .i64 n0, .string s0, .slice A0 na0 ca0, .slice B0 nb0 cb0] 28))
  clear hW hr hv hc hp
  by_cases hr0 : r = 0
  · subst hr0
    go_enter Tryd.func43, Tryd.ntmps43
    go_wp2_with fail
    refine (HW.out _ HBW.out).mono ?_
    rintro e w1 ⟨rfl, hb1⟩
    have HB1 := Lib.hid (HBW.out.trans (hb1.mono HBW.out.size))
    clear hb1
    go_wp2
    go_ret
    exact ⟨rfl, HB1.out⟩
  · have hr1 : (0 : Int) < (r : Int) := by omega
    rw [decide_eq_true (show 0 < r by omega)]
    go_enter Tryd.func43, Tryd.ntmps43
    go_wp2_with fail
    refine (HW.out _ HBW.out).mono ?_
    rintro e w1 ⟨rfl, hb1⟩
    have HB1 := Lib.hid (HBW.out.trans (hb1.mono HBW.out.size))
    clear hb1
    go_wp2
    go_ret
    refine ⟨ret_bool ?_, HB1.out⟩
    simp; omega
end Go.Proofs.YtoejdhabpajhlaaDoor
