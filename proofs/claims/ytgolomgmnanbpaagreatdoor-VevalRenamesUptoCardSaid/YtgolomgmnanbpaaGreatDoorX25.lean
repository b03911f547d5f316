import Derived.Test.YtgolomgmnanbpaaGreatDoorX04
import Derived.Test.YtgolomgmnanbpaaGreatDoorX24
import Derived.Test.YtgolomgmnanbpaaGreatDoorX20
import Derived.Deep.RegionHeld3
import Derived.Test.YtgolomgmnanbpaaGreatDoorX23
import Derived.Test.YtgolomgmnanbpaaGreatDoorX08
import Derived.Test.YtgolomgmnanbpaaGreatDoorX19
namespace Go.Proofs.YtgolomgmnanbpaaGreatDoor
set_option linter.unusedVariables false
set_option linter.unusedSimpArgs false
open Go.RowKit
attribute [local go_sem] run_index_arr run_part_agg run_part_one run_field_agg
theorem kid_cellsM {W : World} {F : Nat → Prop} {css : List (List Value)} {xs : List (JV × JV)} {A : Option Addr} (h : EmRs W F css xs) (hr : RdF W F A css.flatten) {i : Nat} {x : JV × JV} (hx : xs[i]? = some x) :
    ∃ (b o : Nat) (k n : Int) (s : ByteArray) (A1 : Option Addr) (na ca : Nat) (B1 : Option Addr) (nb cb : Nat) (k' n' : Int) (s' : ByteArray) (A1' : Option Addr) (na' ca' : Nat) (B1' : Option Addr) (nb' cb' : Nat), A = some ⟨b, o, none⟩ ∧ b < W.heap.size ∧
      VR W F [.int .i64 k, .int .i64 n, .string s, .slice A1 na ca, .slice B1 nb cb] x.1 ∧ VR W F [.int .i64 k', .int .i64 n', .string s', .slice A1' na' ca', .slice B1' nb' cb'] x.2 ∧
      ∀ W', Below W.heap.size W W' → (W'.cell? ⟨b, o + i * 10, none⟩ = some (.int .i64 k) ∧ W'.cell? ⟨b, o + i * 10 + 1, none⟩ = some (.int .i64 n) ∧ W'.cell? ⟨b, o + i * 10 + 2, none⟩ = some (.string s) ∧ W'.cell? ⟨b, o + i * 10 + 3, none⟩ = some (.slice A1 na ca) ∧
        W'.cell? ⟨b, o + i * 10 + 4, none⟩ = some (.slice B1 nb cb)) ∧ (W'.cell? ⟨b, o + i * 10 + 5, none⟩ = some (.int .i64 k') ∧ W'.cell? ⟨b, o + i * 10 + 6, none⟩ = some (.int .i64 n') ∧ W'.cell? ⟨b, o + i * 10 + 7, none⟩ = some (.string s') ∧
        W'.cell? ⟨b, o + i * 10 + 8, none⟩ = some (.slice A1' na' ca') ∧ W'.cell? ⟨b, o + i * 10 + 9, none⟩ = some (.slice B1' nb' cb')) := by
  obtain ⟨b, o, c, rfl, hb, _, hc, hv, hz⟩ := h.cell (fun c x h => h.len) (by decide) hr hx
  obtain ⟨c1, c2, rfl, hv1, hv2⟩ := hv
  obtain ⟨k, n, s, A1, na, ca, B1, nb, cb, rfl⟩ := hv1.form
  obtain ⟨k', n', s', A1', na', ca', B1', nb', cb', rfl⟩ := hv2.form
  refine ⟨b, o, k, n, s, A1, na, ca, B1, nb, cb, k', n', s', A1', na', ca', B1', nb', cb', rfl, hb, hv1, hv2, fun W' hW => ?_⟩
  have z := fun (j : Nat) u (hj : j < 10) hu => (hW.cell (p := ⟨b, o + (i * 10 + j), none⟩) hb).trans (hz j u hj hu)
  exact ⟨⟨z 0 _ (by decide) rfl, z 1 _ (by decide) rfl, z 2 _ (by decide) rfl, z 3 _ (by decide) rfl, z 4 _ (by decide) rfl⟩, z 5 _ (by decide) rfl, z 6 _ (by decide) rfl, z 7 _ (by decide) rfl, z 8 _ (by decide) rfl, z 9 _ (by decide) rfl⟩
theorem vSameYes {v : JV} (hg : good v = true) (hc : Came v) {cs cs' : List Value} {w : World} (hG : GOK w) (h : VR w TT cs v) (h' : VR w TT cs' v) : Calls Tryz.prog 64 #[.agg cs.toArray, .agg cs'.toArray] w (BoolS true w) := by
  refine (vSameG v v cs cs' TT TT w hG h h' hc hc).mono ?_
  rintro e w' ⟨t, rfl, ht, hb⟩
  exact ⟨by rw [ht.2 ⟨hg, hg, rfl⟩], hb⟩
set_option maxRecDepth 100000 in
set_option maxHeartbeats 16000000 in
theorem lSameE (xs : List (JV × JV)) (A B : Option Addr) (n ca cb : Nat) (css dss : List (List Value)) (w : World) (hG : GOK w) (h1 : EmRs w TT css xs) (r1 : RdF w TT A css.flatten) (h2 : EmRs w TT dss xs) (r2 : RdF w TT B dss.flatten) (hn : xs.length = n) (hn4 : n ≤ 4)
    (hg : ∀ y ∈ xs, good y.1 = true ∧ good y.2 = true) (hc : ∀ y ∈ xs, Came y.1 ∧ Came y.2) :
    Calls Tryz.prog 32 #[.slice A n ca, .slice B n cb] w (BoolS true w) := by
  have HK := Lib.hid (And.intro (And.intro h1 r1) (And.intro h2 r2))
  have HQ := Lib.hid (And.intro hn (And.intro hg hc))
  have HG := Lib.hid hG
  have HW := Lib.hid (Below.refl w.heap.size w)
  clear h1 r1 h2 r2 hn hg hc hG
  go_enter Tryz.func32, Tryz.ntmps32
  go_upto_region 4 with fail
  go_loopg [13] n (fun gk s13 wr => ∃ (i : Nat), i ≤ n ∧ gk = n - i ∧ s13 = .int .i64 (i : Int) ∧ Hid (Below w.heap.size w wr))
  case atStart => exact ⟨0, Nat.zero_le _, by go_num, rfl, HW⟩
  case round =>
    obtain ⟨i, hin, hgk, rfl, HWR⟩ := hrel
    have HGK := Lib.hid hgk
    clear hgk
    by_cases hlt : i < n
    · obtain ⟨x, hx⟩ : ∃ x, xs[i]? = some x := ⟨_, List.getElem?_eq_getElem (by rw [HQ.out.1]; omega)⟩
      have hxm := List.mem_of_getElem? hx
      obtain ⟨b1, o1, k1, n1, s1, A1, na1, ca1, B1, nb1, cb1, k2, n2, s2, A2, na2, ca2, B2, nb2, cb2, rfl, hb1, hv1, hv2, hz1⟩ := kid_cellsM HK.out.1.1 HK.out.1.2 hx
      obtain ⟨b2, o2, k3, n3, s3, A3, na3, ca3, B3, nb3, cb3, k4, n4, s4, A4, na4, ca4, B4, nb4, cb4, rfl, hb2, hv3, hv4, hz2⟩ := kid_cellsM HK.out.2.1 HK.out.2.2 hx
      have HZ1 := Lib.hid hz1
      have HZ2 := Lib.hid hz2
      have HS1 := Lib.hid (fun (W : World) (h : Below wr.heap.size wr W) => have hb := HWR.out.trans (h.mono HWR.out.size); vSameYes (HQ.out.2.1 x hxm).1 (HQ.out.2.2 x hxm).1 (HG.out.keep hb) (hv1.bel hb) (hv3.bel hb))
      have HS2 := Lib.hid (fun (W : World) (h : Below wr.heap.size wr W) => have hb := HWR.out.trans (h.mono HWR.out.size); vSameYes (HQ.out.2.1 x hxm).2 (HQ.out.2.2 x hxm).2 (HG.out.keep hb) (hv2.bel hb) (hv4.bel hb))
      have hp1 : b1 < wr.heap.size := Nat.lt_of_lt_of_le hb1 HWR.out.size
      have hp2 : b2 < wr.heap.size := Nat.lt_of_lt_of_le hb2 HWR.out.size
      clear hx hxm hb1 hv1 hv2 hz1 hb2 hv3 hv4 hz2
      go_upto_region 6 with fail
      refine wp_region_held_drew (S := fun W' => Below wr.heap.size wr W') (by kernel_rfl) (by exact (Below.refl _ _).drew) (fun hHeld => ?_)
      refine wpAnyH_worldM (fun w2 hw2 => ?_)
      have HB2 := Lib.hid (show Below wr.heap.size wr w2 by rw [hw2]; exact (Below.refl _ _).drew)
      clear hw2
      refine wpAnyH_take (i := 0) (oi := ⟨some 16, _, _, _, _, _⟩) (v := .slice (some ⟨b1, o1, none⟩) n ca) rfl (by kernel_rfl) (by kernel_rfl) (by kernel_rfl) (fun _ _ _ h => h) (Or.inl ⟨by kernel_rfl, ?_⟩) (by assumption) ?_
      · intro W hSw; go_simp
      try simp only [Act.put, List.setIfInBounds_toArray, List.set_cons_zero, List.set_cons_succ]
      refine wpAnyH_take (i := 1) (oi := ⟨some 17, _, _, _, _, _⟩) (v := .int .i64 (i : Int)) rfl (by kernel_rfl) (by kernel_rfl) (by kernel_rfl) (fun _ _ _ h => h) (Or.inl ⟨by kernel_rfl, ?_⟩) (by assumption) ?_
      · intro W hSw; go_simp
      try simp only [Act.put, List.setIfInBounds_toArray, List.set_cons_zero, List.set_cons_succ]
      refine wpAnyH_take (i := 2) (oi := ⟨some 18, _, _, _, _, _⟩) (v := .pointer (some ⟨b1, o1 + i * 10, none⟩)) rfl (by kernel_rfl) (by kernel_rfl) (by kernel_rfl) (fun _ _ _ h => h) (Or.inl ⟨by kernel_rfl, ?_⟩) (by assumption) ?_
      · intro W hSw; go_simp
      try simp only [Act.put, List.setIfInBounds_toArray, List.set_cons_zero, List.set_cons_succ]
      refine wpAnyH_take (i := 3) (oi := ⟨some 19, _, _, _, _, _⟩) (v := .pointer (some ⟨b1, o1 + i * 10, none⟩)) rfl (by kernel_rfl) (by kernel_rfl) (by kernel_rfl) (fun _ _ _ h => h) (Or.inl ⟨by kernel_rfl, ?_⟩) (by assumption) ?_
      · intro W hSw; go_simp
      try simp only [Act.put, List.setIfInBounds_toArray, List.set_cons_zero, List.set_cons_succ]
      refine wpAnyH_take (i := 4) (oi := ⟨some 20, _, _, _, _, _⟩) (v := .agg #[.int .i64 k1, .int .i64 n1, .string s1, .slice A1 na1 ca1, .slice B1 nb1 cb1]) rfl (by kernel_rfl) (by kernel_rfl) (by kernel_rfl) (fun _ _ _ h => h) (Or.inl ⟨by kernel_rfl, ?_⟩) (by assumption) ?_
      · intro W hSw; obtain ⟨⟨z0, z1, z2, z3, z4⟩, z5, z6, z7, z8, z9⟩ := HZ1.out W (Below.trans HWR.out (hSw.mono HWR.out.size)); go_simp
      try simp only [Act.put, List.setIfInBounds_toArray, List.set_cons_zero, List.set_cons_succ]
      refine wpAnyH_take (i := 5) (oi := ⟨some 21, _, _, _, _, _⟩) (v := .slice (some ⟨b2, o2, none⟩) n cb) rfl (by kernel_rfl) (by kernel_rfl) (by kernel_rfl) (fun _ _ _ h => h) (Or.inl ⟨by kernel_rfl, ?_⟩) (by assumption) ?_
      · intro W hSw; go_simp
      try simp only [Act.put, List.setIfInBounds_toArray, List.set_cons_zero, List.set_cons_succ]
      refine wpAnyH_take (i := 6) (oi := ⟨some 22, _, _, _, _, _⟩) (v := .int .i64 (i : Int)) rfl (by kernel_rfl) (by kernel_rfl) (by kernel_rfl) (fun _ _ _ h => h) (Or.inl ⟨by kernel_rfl, ?_⟩) (by assumption) ?_
      · intro W hSw; go_simp
      try simp only [Act.put, List.setIfInBounds_toArray, List.set_cons_zero, List.set_cons_succ]
      refine wpAnyH_take (i := 7) (oi := ⟨some 23, _, _, _, _, _⟩) (v := .pointer (some ⟨b2, o2 + i * 10, none⟩)) rfl (by kernel_rfl) (by kernel_rfl) (by kernel_rfl) (fun _ _ _ h => h) (Or.inl ⟨by kernel_rfl, ?_⟩) (by assumption) ?_
      · intro W hSw; go_simp
      try simp only [Act.put, List.setIfInBounds_toArray, List.set_cons_zero, List.set_cons_succ]
      refine wpAnyH_take (i := 8) (oi := ⟨some 24, _, _, _, _, _⟩) (v := .pointer (some ⟨b2, o2 + i * 10, none⟩)) rfl (by kernel_rfl) (by kernel_rfl) (by kernel_rfl) (fun _ _ _ h => h) (Or.inl ⟨by kernel_rfl, ?_⟩) (by assumption) ?_
      · intro W hSw; go_simp
      try simp only [Act.put, List.setIfInBounds_toArray, List.set_cons_zero, List.set_cons_succ]
      refine wpAnyH_take (i := 9) (oi := ⟨some 25, _, _, _, _, _⟩) (v := .agg #[.int .i64 k3, .int .i64 n3, .string s3, .slice A3 na3 ca3, .slice B3 nb3 cb3]) rfl (by kernel_rfl) (by kernel_rfl) (by kernel_rfl) (fun _ _ _ h => h) (Or.inl ⟨by kernel_rfl, ?_⟩) (by assumption) ?_
      · intro W hSw; obtain ⟨⟨z0, z1, z2, z3, z4⟩, z5, z6, z7, z8, z9⟩ := HZ2.out W (Below.trans HWR.out (hSw.mono HWR.out.size)); go_simp
      try simp only [Act.put, List.setIfInBounds_toArray, List.set_cons_zero, List.set_cons_succ]
      refine wpAnyH_ready (rs := [10]) (by kernel_rfl) (by simp) ?_
      refine AllReadyH.cons (o := ⟨some 26, _, _, _, _, _⟩) rfl (fun K hK => ?_) AllReadyH.nil
      go_simp
      refine (HS1.out _ HB2.out).mono ?_
      rintro e w3 ⟨rfl, hb3⟩
      have HB3 := Lib.hid (HB2.out.trans (hb3.mono HB2.out.size))
      clear hb3
      refine hK.out _ _ (by exact HB3.out) (fun hHeld2 => ?_)
      clear hK K hHeld
      have hHeld := hHeld2
      clear hHeld2
      try simp only [Act.put, List.setIfInBounds_toArray, List.set_cons_zero, List.set_cons_succ]
      refine wpAnyH_take (i := 11) (oi := ⟨some 27, _, _, _, _, _⟩) (v := .bool false) rfl (by kernel_rfl) (by kernel_rfl) (by kernel_rfl) (fun _ _ _ h => h) (Or.inl ⟨by kernel_rfl, ?_⟩) (by assumption) ?_
      · intro W hSw; go_simp
      try simp only [Act.put, List.setIfInBounds_toArray, List.set_cons_zero, List.set_cons_succ]
      refine wpAnyH_take (i := 12) (oi := ⟨some 28, _, _, _, _, _⟩) (v := .bool false) rfl (by kernel_rfl) (by kernel_rfl) (by kernel_rfl) (fun _ _ _ h => h) (Or.inl ⟨by kernel_rfl, ?_⟩) (by assumption) ?_
      · intro W hSw; go_simp
      try simp only [Act.put, List.setIfInBounds_toArray, List.set_cons_zero, List.set_cons_succ]
      refine wpAnyH_take (i := 13) (oi := ⟨some 29, _, _, _, _, _⟩) (v := .slice (some ⟨b1, o1, none⟩) n ca) rfl (by kernel_rfl) (by kernel_rfl) (by kernel_rfl) (fun _ _ _ h => h) (Or.inl ⟨by kernel_rfl, ?_⟩) (by assumption) ?_
      · intro W hSw; go_simp
      try simp only [Act.put, List.setIfInBounds_toArray, List.set_cons_zero, List.set_cons_succ]
      refine wpAnyH_take (i := 14) (oi := ⟨some 30, _, _, _, _, _⟩) (v := .int .i64 (i : Int)) rfl (by kernel_rfl) (by kernel_rfl) (by kernel_rfl) (fun _ _ _ h => h) (Or.inl ⟨by kernel_rfl, ?_⟩) (by assumption) ?_
      · intro W hSw; go_simp
      try simp only [Act.put, List.setIfInBounds_toArray, List.set_cons_zero, List.set_cons_succ]
      refine wpAnyH_take (i := 15) (oi := ⟨some 31, _, _, _, _, _⟩) (v := .pointer (some ⟨b1, o1 + i * 10, none⟩)) rfl (by kernel_rfl) (by kernel_rfl) (by kernel_rfl) (fun _ _ _ h => h) (Or.inl ⟨by kernel_rfl, ?_⟩) (by assumption) ?_
      · intro W hSw; go_simp
      try simp only [Act.put, List.setIfInBounds_toArray, List.set_cons_zero, List.set_cons_succ]
      refine wpAnyH_take (i := 16) (oi := ⟨some 32, _, _, _, _, _⟩) (v := .pointer (some ⟨b1, o1 + i * 10 + 5, none⟩)) rfl (by kernel_rfl) (by kernel_rfl) (by kernel_rfl) (fun _ _ _ h => h) (Or.inl ⟨by kernel_rfl, ?_⟩) (by assumption) ?_
      · intro W hSw; go_simp
      try simp only [Act.put, List.setIfInBounds_toArray, List.set_cons_zero, List.set_cons_succ]
      refine wpAnyH_take (i := 17) (oi := ⟨some 33, _, _, _, _, _⟩) (v := .agg #[.int .i64 k2, .int .i64 n2, .string s2, .slice A2 na2 ca2, .slice B2 nb2 cb2]) rfl (by kernel_rfl) (by kernel_rfl) (by kernel_rfl) (fun _ _ _ h => h) (Or.inl ⟨by kernel_rfl, ?_⟩) (by assumption) ?_
      · intro W hSw; obtain ⟨⟨z0, z1, z2, z3, z4⟩, z5, z6, z7, z8, z9⟩ := HZ1.out W (Below.trans HWR.out (hSw.mono HWR.out.size)); go_simp
      try simp only [Act.put, List.setIfInBounds_toArray, List.set_cons_zero, List.set_cons_succ]
      refine wpAnyH_take (i := 18) (oi := ⟨some 34, _, _, _, _, _⟩) (v := .slice (some ⟨b2, o2, none⟩) n cb) rfl (by kernel_rfl) (by kernel_rfl) (by kernel_rfl) (fun _ _ _ h => h) (Or.inl ⟨by kernel_rfl, ?_⟩) (by assumption) ?_
      · intro W hSw; go_simp
      try simp only [Act.put, List.setIfInBounds_toArray, List.set_cons_zero, List.set_cons_succ]
      refine wpAnyH_take (i := 19) (oi := ⟨some 35, _, _, _, _, _⟩) (v := .int .i64 (i : Int)) rfl (by kernel_rfl) (by kernel_rfl) (by kernel_rfl) (fun _ _ _ h => h) (Or.inl ⟨by kernel_rfl, ?_⟩) (by assumption) ?_
      · intro W hSw; go_simp
      try simp only [Act.put, List.setIfInBounds_toArray, List.set_cons_zero, List.set_cons_succ]
      refine wpAnyH_take (i := 20) (oi := ⟨some 36, _, _, _, _, _⟩) (v := .pointer (some ⟨b2, o2 + i * 10, none⟩)) rfl (by kernel_rfl) (by kernel_rfl) (by kernel_rfl) (fun _ _ _ h => h) (Or.inl ⟨by kernel_rfl, ?_⟩) (by assumption) ?_
      · intro W hSw; go_simp
      try simp only [Act.put, List.setIfInBounds_toArray, List.set_cons_zero, List.set_cons_succ]
      refine wpAnyH_take (i := 21) (oi := ⟨some 37, _, _, _, _, _⟩) (v := .pointer (some ⟨b2, o2 + i * 10 + 5, none⟩)) rfl (by kernel_rfl) (by kernel_rfl) (by kernel_rfl) (fun _ _ _ h => h) (Or.inl ⟨by kernel_rfl, ?_⟩) (by assumption) ?_
      · intro W hSw; go_simp
      try simp only [Act.put, List.setIfInBounds_toArray, List.set_cons_zero, List.set_cons_succ]
      refine wpAnyH_take (i := 22) (oi := ⟨some 38, _, _, _, _, _⟩) (v := .agg #[.int .i64 k4, .int .i64 n4, .string s4, .slice A4 na4 ca4, .slice B4 nb4 cb4]) rfl (by kernel_rfl) (by kernel_rfl) (by kernel_rfl) (fun _ _ _ h => h) (Or.inl ⟨by kernel_rfl, ?_⟩) (by assumption) ?_
      · intro W hSw; obtain ⟨⟨z0, z1, z2, z3, z4⟩, z5, z6, z7, z8, z9⟩ := HZ2.out W (Below.trans HWR.out (hSw.mono HWR.out.size)); go_simp
      try simp only [Act.put, List.setIfInBounds_toArray, List.set_cons_zero, List.set_cons_succ]
      refine wpAnyH_ready (rs := [23]) (by kernel_rfl) (by simp) ?_
      refine AllReadyH.cons (o := ⟨some 39, _, _, _, _, _⟩) rfl (fun K hK => ?_) AllReadyH.nil
      go_simp
      refine (HS2.out _ HB3.out).mono ?_
      rintro e w4 ⟨rfl, hb4⟩
      have HB4 := Lib.hid (HB3.out.trans (hb4.mono HB3.out.size))
      clear hb4
      refine hK.out _ _ (by exact HB4.out) (fun hHeld2 => ?_)
      clear hK K hHeld
      have hHeld := hHeld2
      clear hHeld2
      try simp only [Act.put, List.setIfInBounds_toArray, List.set_cons_zero, List.set_cons_succ]
      refine wpAnyH_take (i := 24) (oi := ⟨some 40, _, _, _, _, _⟩) (v := .bool false) rfl (by kernel_rfl) (by kernel_rfl) (by kernel_rfl) (fun _ _ _ h => h) (Or.inl ⟨by kernel_rfl, ?_⟩) (by assumption) ?_
      · intro W hSw; go_simp
      try simp only [Act.put, List.setIfInBounds_toArray, List.set_cons_zero, List.set_cons_succ]
      refine wpAnyH_take (i := 25) (oi := ⟨some 41, _, _, _, _, _⟩) (v := .bool false) rfl (by kernel_rfl) (by kernel_rfl) (by kernel_rfl) (fun _ _ _ h => h) (Or.inl ⟨by kernel_rfl, ?_⟩) (by assumption) ?_
      · intro W hSw; go_simp
      try simp only [Act.put, List.setIfInBounds_toArray, List.set_cons_zero, List.set_cons_succ]
      refine wpAnyH_done (by kernel_rfl) ?_ _
      go_wp2
      go_roundg (n - (i + 1))
      case measure => have := HGK.out; omega
      case rel => exact ⟨i + 1, by omega, rfl, by go_num, Lib.hid (HWR.out.trans (HB4.out.mono HWR.out.size))⟩
    · obtain rfl : i = n := by omega
      go_wp2
      go_ret
      exact ⟨rfl, HWR.out⟩
end Go.Proofs.YtgolomgmnanbpaaGreatDoor
namespace Go.Proofs.YtgolomgmnanbpaaGreatDoor
set_option linter.unusedVariables false
set_option linter.unusedSimpArgs false
open Go.RowKit
attribute [local go_sem] run_index_arr run_part_agg run_part_one run_field_agg
mutual
theorem cam_locE : ∀ (x : EJ), locE 4194304 x → camE x
  | .mk k v s kids, h => by
    unfold locE at h
    obtain ⟨_, h1, h2, h3, h4, h5, h6⟩ := h
    unfold camE
    exact ⟨h1, Came.of h2 h3, h4, h5, cam_locEL kids h6⟩
theorem cam_locEL : ∀ (l : List EJ), locEL 4194304 l → camEL l
  | [], _ => trivial
  | x :: r, h => by unfold locEL at h; unfold camEL; exact ⟨cam_locE x h.1, cam_locEL r h.2⟩
end
theorem mapJ_out (l : List SJ) (id : List UInt8) (v : JV) : (∃ q, mapJ l id v = ([], q) ∧ (q = 332 ∨ q = 290 ∨ q = 140)) ∨
    (mapJ l id v).2 = 0 ∧ (mapJ l id v).1.length ≤ 4 ∧ ∀ y ∈ (mapJ l id v).1, good y.1 = true ∧ good y.2 = true ∧ (codeJ y.1).length ≤ 90 ∧ (canJ y.2).length ≤ 100 := by
  unfold mapJ
  by_cases h1 : mayP l = false
  · rw [if_pos h1]; exact .inl ⟨332, rfl, .inl rfl⟩
  rw [if_neg h1]
  by_cases h2 : idOk id = false
  · rw [if_pos h2]; exact .inl ⟨290, rfl, .inr (.inl rfl)⟩
  rw [if_neg h2]
  by_cases h3 : good v = false
  · rw [if_pos h3]; exact .inl ⟨140, rfl, .inr (.inr rfl)⟩
  rw [if_neg h3]
  right
  have hgt : good (jText id) = true := by
    have h1 := idOk_txt (show idOk id = true by simpa using h2)
    unfold good jText goodJ goodA nodesJ nodesL goodL
    simp [h1]
  have h := (goL_ok l (envM id v) 12 (0, []) (fun b hb => by
    rcases List.mem_cons.1 hb with rfl | hb
    · simpa using h3
    · obtain rfl := List.mem_singleton.1 hb; exact hgt) (by unfold mayP at h1; simpa using h1) ⟨by show 0 ≤ 4; omega, by show 0 ≤ 256; omega, fun e he => by cases he⟩).1
  exact ⟨rfl, h.1, h.2.2⟩
end Go.Proofs.YtgolomgmnanbpaaGreatDoor
