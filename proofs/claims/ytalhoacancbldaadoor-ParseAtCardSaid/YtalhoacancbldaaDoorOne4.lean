import Derived.Test.YtalhoacancbldaaDoorText4
import Derived.Test.YtalhoacancbldaaDoorReadsP
/- The walks of the reference davenportref04: one, Same, Zero; of davenportlaw05.alike. -/
namespace Go.Proofs.YtalhoacancbldaaDoor
set_option linter.unusedVariables false
set_option linter.unusedSimpArgs false
open Go.RowKit
attribute [local go_sem] run_index_arr run_part_agg run_part_one run_field_agg

def TwoB (w : World) (t : TypeId) (cs cs' : Array Value) (wr : World) : Prop := Blk wr w.heap.size t cs ∧ Blk wr (w.heap.size + 1) t cs' ∧ Below w.heap.size w wr
theorem TwoB.new (w : World) (t : TypeId) (cs cs' : Array Value) : TwoB w t cs cs' ((w.alloc (.cells cs t)).alloc (.cells cs' t)) := by
  refine ⟨(Blk.new w t cs).alloc _, ?_, ((Below.refl _ w).alloc (Nat.le_refl _) _).alloc (by simp) _⟩
  have := Blk.new (w.alloc (.cells cs t)) t cs'
  rw [World.size_alloc] at this; exact this
theorem TwoB.keep {w wr wx : World} {t : TypeId} {cs cs' : Array Value} (h : TwoB w t cs cs' wr) (hb : Below wr.heap.size wr wx) : TwoB w t cs cs' wx := ⟨h.1.keep hb, h.2.1.keep hb, h.2.2.trans (hb.mono h.2.2.size)⟩
theorem TwoB.drew {w wr : World} {t : TypeId} {cs cs' : Array Value} (h : TwoB w t cs cs' wr) : TwoB w t cs cs' wr.drew := ⟨h.1.drew, h.2.1.drew, h.2.2.drew⟩
set_option maxRecDepth 100000 in
set_option maxHeartbeats 4000000 in
theorem rOne_all : ∀ (N : Nat) (v : JV), nodesJ v ≤ N → ∀ (d : Nat) (cs cs' : List Value) (F F' : Nat → Prop) (w : World), VR w F cs v → VR w F' cs' v → rightJ d v → nodesJ v ≤ 256 →
    Calls Tryd.prog 80 #[.agg cs.toArray, .agg cs'.toArray] w fun e w' => e = .returned (.bool true) ∧ Below w.heap.size w w'
  | 0, v, h, _, _, _, _, _, _, _, _, _, _ => by have := nodesJ_pos v; omega
  | N + 1, .mk k n s kids keys, hN, d, cs, cs', F, F', w, hv, hv', hR, hmost => by
    have ih := rOne_all N
    unfold rightJ at hR
    obtain ⟨hal, hdd, hrk⟩ := hR
    unfold nodesJ at hN hmost
    have hkl : kids.length ≤ 256 := by have := nodesL_len kids; omega
    obtain ⟨A, B, ca, cb, css, rfl, h1, h2, h3, h4, h5, h6, h7⟩ := hv.out
    obtain ⟨A', B', ca', cb', css', rfl, h1', h2', h3', h4', h5', h6', h7'⟩ := hv'.out
    have HIH := Lib.hid (fun (i : Nat) (x : JV) (hx : kids[i]? = some x) => kid_cells h1 h6 hx)
    have HIH' := Lib.hid (fun (i : Nat) (x : JV) (hx : kids[i]? = some x) => kid_cells h1' h6' hx)
    have HKY := Lib.hid (show RdF w (fun _ => True) B (strV keys) from h7.mono fun _ _ _ => trivial)
    have HKY' := Lib.hid (show RdF w (fun _ => True) B' (strV keys) from h7'.mono fun _ _ _ => trivial)
    have hk6 : k = 6 → keys.length = kids.length := fun h => by have h9 := hal.keyed; rw [if_pos h] at h9; exact h9
    have HRK := Lib.hid (rightL_iff.1 hrk)
    have HI := Lib.hid ih
    obtain ⟨nk, hnk⟩ : ∃ nk, kids.length = nk := ⟨_, rfl⟩
    obtain ⟨ny, hny⟩ : ∃ ny, keys.length = ny := ⟨_, rfl⟩
    rw [hnk] at h2 h2' hkl hk6 ⊢
    rw [hny] at h3 h3' hk6 ⊢
    have HNK := Lib.hid hnk
    have HNY := Lib.hid hny
    obtain ⟨T, hT⟩ : ∃ T, nodesL kids = T := ⟨_, rfl⟩
    have HT := Lib.hid hT
    rw [hT] at hN hmost
    have HTB := Lib.hid (TwoB.new w 40 #[.int .i64 k, .int .i64 n, .string ⟨s.toArray⟩, .slice A nk ca, .slice B ny cb] #[.int .i64 k, .int .i64 n, .string ⟨s.toArray⟩, .slice A' nk ca', .slice B' ny cb'])
    have hcs : (k == 6) = true ∧ ny = nk ∨ (k == 6) = false := by
      by_cases h : k = 6
      · exact .inl ⟨by simpa using h, hk6 h⟩
      · exact .inr (by simpa using h)
    clear hv hv' hal hrk h1 h1' h4 h4' h5 h5' h6 h6' h7 h7' hnk hny hT ih hk6 hdd
    have y1 : w.heap.size ≠ w.heap.size + 1 := by omega
    have y2 : w.heap.size + 1 ≠ w.heap.size := by omega
    go_enter Tryd.func80, Tryd.ntmps80
    go_wp2
    go_loopg [5] nk (fun gk s5 wr => ∃ i : Nat, i ≤ nk ∧ gk = nk - i ∧ s5 = .int .i64 i ∧ Hid (TwoB w 40 #[.int .i64 k, .int .i64 n, .string ⟨s.toArray⟩, .slice A nk ca, .slice B ny cb] #[.int .i64 k, .int .i64 n, .string ⟨s.toArray⟩, .slice A' nk ca', .slice B' ny cb'] wr))
    case atStart => exact ⟨0, Nat.zero_le _, rfl, by go_num, HTB⟩
    case round =>
      obtain ⟨i, hi, hgk, rfl, HB⟩ := hrel
      have HG := Lib.hid hgk
      clear hgk HTB
      obtain ⟨c1, f1, l1⟩ := HB.out.1.rules
      obtain ⟨c2, f2, l2⟩ := HB.out.2.1.rules
      have z0 := c1 0
      have z3 := c1 3
      have z4 := c1 4
      have u3 := c2 3
      have u4 := c2 4
      simp at z0 z3 z4 u3 u4
      by_cases hlt : i < nk
      · obtain ⟨x, hx⟩ : ∃ x, kids[i]? = some x := ⟨_, List.getElem?_eq_getElem (by rw [HNK.out]; exact hlt)⟩
        obtain ⟨b, o, k1, n1, s1, A1, na1, ca1, B1, nb1, cb1, rfl, hb, hvx, hz⟩ := HIH.out i x hx
        obtain ⟨b', o', k2, n2, s2, A2, na2, ca2, B2, nb2, cb2, rfl, hb', hvx', hz'⟩ := HIH'.out i x hx
        obtain ⟨q0, q1, q2, q3, q4⟩ := hz _ HB.out.2.2
        obtain ⟨p0, p1, p2, p3, p4⟩ := hz' _ HB.out.2.2
        obtain ⟨hn1, hn2⟩ := nodesL_at hx
        have hn4 := HT.out
        have hcl := HI.out x (by omega) (d - 1) _ _ F F' _ (hvx.bel HB.out.drew.2.2) (hvx'.bel HB.out.drew.2.2) (HRK.out x (List.mem_of_getElem? hx)) (by omega)
        have HCL := Lib.hid hcl
        have HZ := Lib.hid hz
        have HZ' := Lib.hid hz'
        clear hcl hz hz' hvx hvx' hx hn1 hn2 hn4 c1 c2
        rcases hcs with ⟨hk6, rfl⟩ | hk6
        · obtain ⟨t, ht⟩ : ∃ t, keys[i]? = some t := ⟨_, List.getElem?_eq_getElem (by rw [HNY.out]; exact hlt)⟩
          obtain ⟨d1, o1, rfl, hd1⟩ := strV_some HKY.out (by rw [HNY.out]; omega)
          obtain ⟨d2, o2, rfl, hd2⟩ := strV_some HKY'.out (by rw [HNY.out]; omega)
          have HC1 := Lib.hid (fun W (h : Below w.heap.size w W) => strV_cell (n := 0) (HKY.out.keep (KeepF.of_below h)) ht)
          have HC2 := Lib.hid (fun W (h : Below w.heap.size w W) => strV_cell (n := 0) (HKY'.out.keep (KeepF.of_below h)) ht)
          have x1 := HC1.out _ HB.out.2.2
          have x2 := HC2.out _ HB.out.2.2
          clear ht
          go_wp2
          go_region_held3 (fun w' => w'.cell? ⟨w.heap.size, 0, none⟩ = some (.int .i64 k) ∧ w'.cell? ⟨w.heap.size, 3, none⟩ = some (.slice (some ⟨b, o, none⟩) ny ca) ∧ w'.cell? ⟨w.heap.size, 4, none⟩ = some (.slice (some ⟨d1, o1, none⟩) ny cb) ∧ w'.cell? ⟨w.heap.size + 1, 3, none⟩ = some (.slice (some ⟨b', o', none⟩) ny ca') ∧ w'.cell? ⟨w.heap.size + 1, 4, none⟩ = some (.slice (some ⟨d2, o2, none⟩) ny cb') ∧
            w'.cell? ⟨d1, o1 + i, none⟩ = some (.string ⟨t.toArray⟩) ∧ w'.cell? ⟨d2, o2 + i, none⟩ = some (.string ⟨t.toArray⟩) ∧
            w'.cell? ⟨b, o + i * 5, none⟩ = some (.int .i64 k1) ∧ w'.cell? ⟨b, o + i * 5 + 1, none⟩ = some (.int .i64 n1) ∧ w'.cell? ⟨b, o + i * 5 + 2, none⟩ = some (.string s1) ∧ w'.cell? ⟨b, o + i * 5 + 3, none⟩ = some (.slice A1 na1 ca1) ∧ w'.cell? ⟨b, o + i * 5 + 4, none⟩ = some (.slice B1 nb1 cb1) ∧
            w'.cell? ⟨b', o' + i * 5, none⟩ = some (.int .i64 k2) ∧ w'.cell? ⟨b', o' + i * 5 + 1, none⟩ = some (.int .i64 n2) ∧ w'.cell? ⟨b', o' + i * 5 + 2, none⟩ = some (.string s2) ∧ w'.cell? ⟨b', o' + i * 5 + 3, none⟩ = some (.slice A2 na2 ca2) ∧ w'.cell? ⟨b', o' + i * 5 + 4, none⟩ = some (.slice B2 nb2 cb2)) (go_keep)
            ((go_at_call 80; refine HCL.out.mono ?_; rintro e w2 ⟨rfl, hb2⟩; have hB2 := HB.out.drew.keep hb2; have e0 := hB2.1.cell 0; have e3 := hB2.1.cell 3; have e4 := hB2.1.cell 4; have r3 := hB2.2.1.cell 3; have r4 := hB2.2.1.cell 4; simp at e0 e3 e4 r3 r4; have x3 := HC1.out _ hB2.2.2; have x4 := HC2.out _ hB2.2.2; obtain ⟨v0, v1, v2, v3, v4⟩ := HZ.out _ hB2.2.2; obtain ⟨t0, t1, t2, t3, t4⟩ := HZ'.out _ hB2.2.2))
          have HB2 := Lib.hid hB2
          clear hB2 hb2
          go_wp2
          go_roundg (ny - (i + 1))
          case measure => rw [HG.out]; omega
          case rel => exact ⟨i + 1, hlt, rfl, by go_num, HB2⟩
        · go_wp2
          refine wp_region_held_drew (S := fun w' => w'.cell? ⟨w.heap.size, 0, none⟩ = some (.int .i64 k) ∧ w'.cell? ⟨w.heap.size, 3, none⟩ = some (.slice (some ⟨b, o, none⟩) nk ca) ∧ w'.cell? ⟨w.heap.size + 1, 3, none⟩ = some (.slice (some ⟨b', o', none⟩) nk ca') ∧
                      w'.cell? ⟨b, o + i * 5, none⟩ = some (.int .i64 k1) ∧ w'.cell? ⟨b, o + i * 5 + 1, none⟩ = some (.int .i64 n1) ∧ w'.cell? ⟨b, o + i * 5 + 2, none⟩ = some (.string s1) ∧ w'.cell? ⟨b, o + i * 5 + 3, none⟩ = some (.slice A1 na1 ca1) ∧ w'.cell? ⟨b, o + i * 5 + 4, none⟩ = some (.slice B1 nb1 cb1) ∧
                      w'.cell? ⟨b', o' + i * 5, none⟩ = some (.int .i64 k2) ∧ w'.cell? ⟨b', o' + i * 5 + 1, none⟩ = some (.int .i64 n2) ∧ w'.cell? ⟨b', o' + i * 5 + 2, none⟩ = some (.string s2) ∧ w'.cell? ⟨b', o' + i * 5 + 3, none⟩ = some (.slice A2 na2 ca2) ∧ w'.cell? ⟨b', o' + i * 5 + 4, none⟩ = some (.slice B2 nb2 cb2)) (by kernel_rfl) (by exact ⟨z0, z3, u3, q0, q1, q2, q3, q4, p0, p1, p2, p3, p4⟩) (fun hHeld => ?_)
          refine wpAnyH_take (i := 0) (oi := ⟨some 41, _, _, _, _, _⟩) (v := .pointer (some ⟨w.heap.size, 0, none⟩)) rfl (by kernel_rfl) (by kernel_rfl) (by kernel_rfl) (fun _ _ _ h => h) (Or.inl ⟨by kernel_rfl, ?_⟩) (by assumption) ?_
          · intro w hSw; (try dsimp only at hSw); go_simp
          try simp only [Act.put, List.setIfInBounds_toArray, List.set_cons_zero, List.set_cons_succ]
          refine wpAnyH_take (i := 1) (oi := ⟨some 42, _, _, _, _, _⟩) (v := .int .i64 k) rfl (by kernel_rfl) (by kernel_rfl) (by kernel_rfl) (fun _ _ _ h => h) (Or.inl ⟨by kernel_rfl, ?_⟩) (by assumption) ?_
          · intro w hSw; (try dsimp only at hSw); go_simp
          try simp only [Act.put, List.setIfInBounds_toArray, List.set_cons_zero, List.set_cons_succ]
          refine wpAnyH_take (i := 2) (oi := ⟨some 43, _, _, _, _, _⟩) (v := .bool false) rfl (by kernel_rfl) (by kernel_rfl) (by kernel_rfl) (fun _ _ _ h => h) (Or.inl ⟨by kernel_rfl, ?_⟩) (by assumption) ?_
          · intro w hSw; (try dsimp only at hSw); go_simp
          try simp only [Act.put, List.setIfInBounds_toArray, List.set_cons_zero, List.set_cons_succ]
          refine wpAnyH_take (i := 3) (oi := ⟨some 44, _, _, _, _, _⟩) (v := .bool false) rfl (by kernel_rfl) (by kernel_rfl) (by kernel_rfl) (fun _ _ _ h => h) (Or.inl ⟨by kernel_rfl, ?_⟩) (by assumption) ?_
          · intro w hSw; (try dsimp only at hSw); go_simp
          try simp only [Act.put, List.setIfInBounds_toArray, List.set_cons_zero, List.set_cons_succ]
          refine wpAnyH_take (i := 4) (oi := ⟨some 45, _, _, _, _, _⟩) (v := undef) rfl (by kernel_rfl) (by kernel_rfl) (by kernel_rfl) (fun _ _ _ h => h) (Or.inr ⟨by kernel_rfl, rfl⟩) (by assumption) ?_
          try simp only [Act.put, List.setIfInBounds_toArray, List.set_cons_zero, List.set_cons_succ]
          refine wpAnyH_take (i := 5) (oi := ⟨some 46, _, _, _, _, _⟩) (v := undef) rfl (by kernel_rfl) (by kernel_rfl) (by kernel_rfl) (fun _ _ _ h => h) (Or.inr ⟨by kernel_rfl, rfl⟩) (by assumption) ?_
          try simp only [Act.put, List.setIfInBounds_toArray, List.set_cons_zero, List.set_cons_succ]
          refine wpAnyH_take (i := 6) (oi := ⟨some 47, _, _, _, _, _⟩) (v := undef) rfl (by kernel_rfl) (by kernel_rfl) (by kernel_rfl) (fun _ _ _ h => h) (Or.inr ⟨by kernel_rfl, rfl⟩) (by assumption) ?_
          try simp only [Act.put, List.setIfInBounds_toArray, List.set_cons_zero, List.set_cons_succ]
          refine wpAnyH_take (i := 7) (oi := ⟨some 48, _, _, _, _, _⟩) (v := undef) rfl (by kernel_rfl) (by kernel_rfl) (by kernel_rfl) (fun _ _ _ h => h) (Or.inr ⟨by kernel_rfl, rfl⟩) (by assumption) ?_
          try simp only [Act.put, List.setIfInBounds_toArray, List.set_cons_zero, List.set_cons_succ]
          refine wpAnyH_take (i := 8) (oi := ⟨some 49, _, _, _, _, _⟩) (v := undef) rfl (by kernel_rfl) (by kernel_rfl) (by kernel_rfl) (fun _ _ _ h => h) (Or.inr ⟨by kernel_rfl, rfl⟩) (by assumption) ?_
          try simp only [Act.put, List.setIfInBounds_toArray, List.set_cons_zero, List.set_cons_succ]
          refine wpAnyH_take (i := 9) (oi := ⟨some 50, _, _, _, _, _⟩) (v := undef) rfl (by kernel_rfl) (by kernel_rfl) (by kernel_rfl) (fun _ _ _ h => h) (Or.inr ⟨by kernel_rfl, rfl⟩) (by assumption) ?_
          try simp only [Act.put, List.setIfInBounds_toArray, List.set_cons_zero, List.set_cons_succ]
          refine wpAnyH_take (i := 10) (oi := ⟨some 51, _, _, _, _, _⟩) (v := undef) rfl (by kernel_rfl) (by kernel_rfl) (by kernel_rfl) (fun _ _ _ h => h) (Or.inr ⟨by kernel_rfl, rfl⟩) (by assumption) ?_
          try simp only [Act.put, List.setIfInBounds_toArray, List.set_cons_zero, List.set_cons_succ]
          refine wpAnyH_take (i := 11) (oi := ⟨some 52, _, _, _, _, _⟩) (v := undef) rfl (by kernel_rfl) (by kernel_rfl) (by kernel_rfl) (fun _ _ _ h => h) (Or.inr ⟨by kernel_rfl, rfl⟩) (by assumption) ?_
          try simp only [Act.put, List.setIfInBounds_toArray, List.set_cons_zero, List.set_cons_succ]
          refine wpAnyH_take (i := 12) (oi := ⟨some 53, _, _, _, _, _⟩) (v := undef) rfl (by kernel_rfl) (by kernel_rfl) (by kernel_rfl) (fun _ _ _ h => h) (Or.inr ⟨by kernel_rfl, rfl⟩) (by assumption) ?_
          try simp only [Act.put, List.setIfInBounds_toArray, List.set_cons_zero, List.set_cons_succ]
          refine wpAnyH_take (i := 13) (oi := ⟨some 54, _, _, _, _, _⟩) (v := undef) rfl (by kernel_rfl) (by kernel_rfl) (by kernel_rfl) (fun _ _ _ h => h) (Or.inr ⟨by kernel_rfl, rfl⟩) (by assumption) ?_
          try simp only [Act.put, List.setIfInBounds_toArray, List.set_cons_zero, List.set_cons_succ]
          refine wpAnyH_take (i := 14) (oi := ⟨some 55, _, _, _, _, _⟩) (v := undef) rfl (by kernel_rfl) (by kernel_rfl) (by kernel_rfl) (fun _ _ _ h => h) (Or.inr ⟨by kernel_rfl, rfl⟩) (by assumption) ?_
          try simp only [Act.put, List.setIfInBounds_toArray, List.set_cons_zero, List.set_cons_succ]
          refine wpAnyH_take (i := 15) (oi := ⟨some 56, _, _, _, _, _⟩) (v := .bool false) rfl (by kernel_rfl) (by kernel_rfl) (by kernel_rfl) (fun _ _ _ h => h) (Or.inl ⟨by kernel_rfl, ?_⟩) (by assumption) ?_
          · intro w hSw; (try dsimp only at hSw); go_simp
          try simp only [Act.put, List.setIfInBounds_toArray, List.set_cons_zero, List.set_cons_succ]
          refine wpAnyH_take (i := 16) (oi := ⟨some 57, _, _, _, _, _⟩) (v := .bool false) rfl (by kernel_rfl) (by kernel_rfl) (by kernel_rfl) (fun _ _ _ h => h) (Or.inl ⟨by kernel_rfl, ?_⟩) (by assumption) ?_
          · intro w hSw; (try dsimp only at hSw); go_simp
          try simp only [Act.put, List.setIfInBounds_toArray, List.set_cons_zero, List.set_cons_succ]
          refine wpAnyH_take (i := 17) (oi := ⟨some 58, _, _, _, _, _⟩) (v := .pointer (some ⟨w.heap.size, 3, none⟩)) rfl (by kernel_rfl) (by kernel_rfl) (by kernel_rfl) (fun _ _ _ h => h) (Or.inl ⟨by kernel_rfl, ?_⟩) (by assumption) ?_
          · intro w hSw; (try dsimp only at hSw); go_simp
          try simp only [Act.put, List.setIfInBounds_toArray, List.set_cons_zero, List.set_cons_succ]
          refine wpAnyH_take (i := 18) (oi := ⟨some 59, _, _, _, _, _⟩) (v := .slice (some ⟨b, o, none⟩) nk ca) rfl (by kernel_rfl) (by kernel_rfl) (by kernel_rfl) (fun _ _ _ h => h) (Or.inl ⟨by kernel_rfl, ?_⟩) (by assumption) ?_
          · intro w hSw; (try dsimp only at hSw); go_simp
          try simp only [Act.put, List.setIfInBounds_toArray, List.set_cons_zero, List.set_cons_succ]
          refine wpAnyH_take (i := 19) (oi := ⟨some 60, _, _, _, _, _⟩) (v := .int .i64 i) rfl (by kernel_rfl) (by kernel_rfl) (by kernel_rfl) (fun _ _ _ h => h) (Or.inl ⟨by kernel_rfl, ?_⟩) (by assumption) ?_
          · intro w hSw; (try dsimp only at hSw); go_simp
          try simp only [Act.put, List.setIfInBounds_toArray, List.set_cons_zero, List.set_cons_succ]
          refine wpAnyH_take (i := 20) (oi := ⟨some 61, _, _, _, _, _⟩) (v := .pointer (some ⟨b, o + i * 5, none⟩)) rfl (by kernel_rfl) (by kernel_rfl) (by kernel_rfl) (fun _ _ _ h => h) (Or.inl ⟨by kernel_rfl, ?_⟩) (by assumption) ?_
          · intro w hSw; (try dsimp only at hSw); go_simp
          try simp only [Act.put, List.setIfInBounds_toArray, List.set_cons_zero, List.set_cons_succ]
          refine wpAnyH_take (i := 21) (oi := ⟨some 62, _, _, _, _, _⟩) (v := .agg #[.int .i64 k1, .int .i64 n1, .string s1, .slice A1 na1 ca1, .slice B1 nb1 cb1]) rfl (by kernel_rfl) (by kernel_rfl) (by kernel_rfl) (fun _ _ _ h => h) (Or.inl ⟨by kernel_rfl, ?_⟩) (by assumption) ?_
          · intro w hSw; (try dsimp only at hSw); go_simp
          try simp only [Act.put, List.setIfInBounds_toArray, List.set_cons_zero, List.set_cons_succ]
          refine wpAnyH_take (i := 22) (oi := ⟨some 63, _, _, _, _, _⟩) (v := .pointer (some ⟨w.heap.size + 1, 3, none⟩)) rfl (by kernel_rfl) (by kernel_rfl) (by kernel_rfl) (fun _ _ _ h => h) (Or.inl ⟨by kernel_rfl, ?_⟩) (by assumption) ?_
          · intro w hSw; (try dsimp only at hSw); go_simp
          try simp only [Act.put, List.setIfInBounds_toArray, List.set_cons_zero, List.set_cons_succ]
          refine wpAnyH_take (i := 23) (oi := ⟨some 64, _, _, _, _, _⟩) (v := .slice (some ⟨b', o', none⟩) nk ca') rfl (by kernel_rfl) (by kernel_rfl) (by kernel_rfl) (fun _ _ _ h => h) (Or.inl ⟨by kernel_rfl, ?_⟩) (by assumption) ?_
          · intro w hSw; (try dsimp only at hSw); go_simp
          try simp only [Act.put, List.setIfInBounds_toArray, List.set_cons_zero, List.set_cons_succ]
          refine wpAnyH_take (i := 24) (oi := ⟨some 65, _, _, _, _, _⟩) (v := .int .i64 i) rfl (by kernel_rfl) (by kernel_rfl) (by kernel_rfl) (fun _ _ _ h => h) (Or.inl ⟨by kernel_rfl, ?_⟩) (by assumption) ?_
          · intro w hSw; (try dsimp only at hSw); go_simp
          try simp only [Act.put, List.setIfInBounds_toArray, List.set_cons_zero, List.set_cons_succ]
          refine wpAnyH_take (i := 25) (oi := ⟨some 66, _, _, _, _, _⟩) (v := .pointer (some ⟨b', o' + i * 5, none⟩)) rfl (by kernel_rfl) (by kernel_rfl) (by kernel_rfl) (fun _ _ _ h => h) (Or.inl ⟨by kernel_rfl, ?_⟩) (by assumption) ?_
          · intro w hSw; (try dsimp only at hSw); go_simp
          try simp only [Act.put, List.setIfInBounds_toArray, List.set_cons_zero, List.set_cons_succ]
          refine wpAnyH_take (i := 26) (oi := ⟨some 67, _, _, _, _, _⟩) (v := .agg #[.int .i64 k2, .int .i64 n2, .string s2, .slice A2 na2 ca2, .slice B2 nb2 cb2]) rfl (by kernel_rfl) (by kernel_rfl) (by kernel_rfl) (fun _ _ _ h => h) (Or.inl ⟨by kernel_rfl, ?_⟩) (by assumption) ?_
          · intro w hSw; (try dsimp only at hSw); go_simp
          try simp only [Act.put, List.setIfInBounds_toArray, List.set_cons_zero, List.set_cons_succ]
          refine wpAnyH_ready (rs := [27]) (by kernel_rfl) (by simp) ?_
          refine AllReadyH.cons (o := ⟨some 68, _, _, _, _, _⟩) rfl (fun K hK => ?_) AllReadyH.nil
          go_simp
          refine HCL.out.mono ?_
          rintro e w2 ⟨rfl, hb2⟩
          have hB2 := HB.out.drew.keep hb2
          have e0 := hB2.1.cell 0
          have e3 := hB2.1.cell 3
          have r3 := hB2.2.1.cell 3
          simp at e0 e3 r3
          obtain ⟨v0, v1, v2, v3, v4⟩ := HZ.out _ hB2.2.2
          obtain ⟨t0, t1, t2, t3, t4⟩ := HZ'.out _ hB2.2.2
          refine hK.out _ _ (⟨e0, e3, r3, v0, v1, v2, v3, v4, t0, t1, t2, t3, t4⟩) (fun hHeld2 => ?_)
          clear hK K hHeld
          try simp only [Act.put, List.setIfInBounds_toArray, List.set_cons_zero, List.set_cons_succ]
          refine wpAnyH_take (i := 28) (oi := ⟨some 69, _, _, _, _, _⟩) (v := .bool false) rfl (by kernel_rfl) (by kernel_rfl) (by kernel_rfl) (fun _ _ _ h => h) (Or.inl ⟨by kernel_rfl, ?_⟩) (by assumption) ?_
          · intro w hSw; (try dsimp only at hSw); go_simp
          try simp only [Act.put, List.setIfInBounds_toArray, List.set_cons_zero, List.set_cons_succ]
          refine wpAnyH_take (i := 29) (oi := ⟨some 70, _, _, _, _, _⟩) (v := .bool false) rfl (by kernel_rfl) (by kernel_rfl) (by kernel_rfl) (fun _ _ _ h => h) (Or.inl ⟨by kernel_rfl, ?_⟩) (by assumption) ?_
          · intro w hSw; (try dsimp only at hSw); go_simp
          try simp only [Act.put, List.setIfInBounds_toArray, List.set_cons_zero, List.set_cons_succ]
          refine wpAnyH_done (by kernel_rfl) ?_ _
          have HB2 := Lib.hid hB2
          clear hB2 hb2
          go_wp2
          go_roundg (nk - (i + 1))
          case measure => rw [HG.out]; omega
          case rel => exact ⟨i + 1, hlt, rfl, by go_num, HB2⟩
      · obtain rfl : i = nk := by omega
        go_wp2
        go_ret
        exact ⟨rfl, HB.out.2.2⟩
set_option maxRecDepth 100000 in
set_option maxHeartbeats 4000000 in
theorem rSame_any (v : JV) (cs cs' : List Value) (F F' : Nat → Prop) (w : World) (hv : VR w F cs v) (hv' : VR w F' cs' v) (hR : rightJ 8 v) (hn : nodesJ v ≤ 256) :
    Calls Tryd.prog 55 #[.agg cs.toArray, .agg cs'.toArray] w fun e w' => e = .returned (.bool true) ∧ Below w.heap.size w w' := by
  have H1 := Lib.hid (fun W (h : Below w.heap.size w W) => rRight_any v cs F W (hv.bel h) hR hn)
  have H2 := Lib.hid (fun W (h : Below w.heap.size w W) => rRight_any v cs' F' W (hv'.bel h) hR hn)
  have H3 := Lib.hid (fun W (h : Below w.heap.size w W) => rOne_all _ v (Nat.le_refl _) 8 cs cs' F F' W (hv.bel h) (hv'.bel h) hR hn)
  obtain ⟨k0, n0, s0, A0, na0, ca0, B0, nb0, cb0, rfl⟩ := hv.form
  obtain ⟨k1, n1, s1, A1, na1, ca1, B1, nb1, cb1, rfl⟩ := hv'.form
  have HB := Lib.hid (TwoB.new w 40 #[.int .i64 k0, .int .i64 n0, .string s0, .slice A0 na0 ca0, .slice B0 nb0 cb0] #[.int .i64 k1, .int .i64 n1, .string s1, .slice A1 na1 ca1, .slice B1 nb1 cb1])
  clear hv hv' hR hn
  go_enter Tryd.func55, Tryd.ntmps55
  go_wp2_with fail
  refine (H1.out _ HB.out.2.2).mono ?_
  rintro e w1 ⟨rfl, hb1⟩
  have HB1 := Lib.hid (HB.out.keep hb1)
  clear hb1
  obtain ⟨c1, f1, l1⟩ := HB1.out.1.rules
  obtain ⟨c2, f2, l2⟩ := HB1.out.2.1.rules
  go_wp2_with fail
  refine (H2.out _ HB1.out.2.2).mono ?_
  rintro e w2 ⟨rfl, hb2⟩
  have HB2 := Lib.hid (HB1.out.keep hb2)
  clear hb2 c1 f1 l1 c2 f2 l2
  obtain ⟨c1, f1, l1⟩ := HB2.out.1.rules
  obtain ⟨c2, f2, l2⟩ := HB2.out.2.1.rules
  go_wp2_with fail
  refine (H3.out _ HB2.out.2.2).mono ?_
  rintro e w3 ⟨rfl, hb3⟩
  have HB3 := Lib.hid (HB2.out.keep hb3)
  clear hb3
  go_wp2
  go_ret
  exact ⟨rfl, HB3.out.2.2⟩
end Go.Proofs.YtalhoacancbldaaDoor

/- The walks of the reference davenportref04 at the empty value; of davenportlaw05.alike. -/
namespace Go.Proofs.YtalhoacancbldaaDoor
set_option linter.unusedVariables false
set_option linter.unusedSimpArgs false
open Go.RowKit
attribute [local go_sem] run_index_arr run_part_agg run_part_one run_field_agg

abbrev zV5 (A B : Option Addr) (ca cb : Nat) : Array Value := #[.int .i64 0, .int .i64 0, .string ⟨#[]⟩, .slice A 0 ca, .slice B 0 cb]
theorem zB5 (A B : Option Addr) (ca cb : Nat) (w : World) : Hid (Below w.heap.size w (w.alloc (.cells (zV5 A B ca cb) 40))) := Lib.hid ((Below.refl _ w).alloc (Nat.le_refl _) _)
set_option maxRecDepth 100000 in
set_option maxHeartbeats 4000000 in
theorem rZero_zero (A B : Option Addr) (ca cb : Nat) (w : World) : Calls Tryd.prog 32 #[.agg #[.int .i64 0, .int .i64 0, .string ⟨#[]⟩, .slice A 0 ca, .slice B 0 cb]] w fun e w' => e = .returned (.bool true) ∧ Below w.heap.size w w' := by
  have HB := Lib.hid ((Below.refl w.heap.size w).alloc (Nat.le_refl _) (.cells #[.int .i64 0, .int .i64 0, .string ⟨#[]⟩, .slice A 0 ca, .slice B 0 cb] 40))
  go_enter Tryd.func32, Tryd.ntmps32
  go_wp2
  go_ret
  exact ⟨rfl, HB.out⟩
set_option maxRecDepth 100000 in
set_option maxHeartbeats 4000000 in
theorem rAlone_zero (A B : Option Addr) (ca cb : Nat) (w : World) : Calls Tryd.prog 125 #[.agg (zV5 A B ca cb)] w fun e w' => e = .returned (.bool false) ∧ Below w.heap.size w w' := by
  have HB := zB5 A B ca cb w
  obtain ⟨W1, hW1⟩ : ∃ W1, w.alloc (.cells (zV5 A B ca cb) 40) = W1 := ⟨_, rfl⟩
  have hbk : Blk W1 w.heap.size 40 (zV5 A B ca cb) := by rw [← hW1]; exact Blk.new w _ _
  rw [hW1] at HB
  have HBK := Lib.hid hbk
  have HW1 := Lib.hid hW1
  clear hbk hW1
  go_enter Tryd.func125, Tryd.ntmps125
  go_upto_region 1 with (fail)
  rw [HW1.out]
  clear HW1
  obtain ⟨c1, f1, l1⟩ := HBK.out.rules
  have g0 := c1 0
  have g3 := c1 3
  have g4 := c1 4
  simp at g0 g3 g4
  go_wp2
  go_loopg [3] 0 (fun gk s3 wr => s3 = .int .i64 0 ∧ wr = W1)
  case atStart => exact ⟨by go_num, rfl⟩
  case round =>
    obtain ⟨rfl, rfl⟩ := hrel
    go_wp2
    go_region_held3 (fun w' => w'.cell? ⟨w.heap.size, 3, none⟩ = some (.slice A 0 ca) ∧ w'.cell? ⟨w.heap.size, 4, none⟩ = some (.slice B 0 cb)) (go_keep) (fail)
    all_goals
      go_wp2
      go_ret
      exact ⟨rfl, HB.out.drew⟩
set_option maxRecDepth 100000 in
set_option maxHeartbeats 4000000 in
theorem rWithin_zero (A B : Option Addr) (ca cb : Nat) (w : World) : Calls Tryd.prog 104 #[.agg (zV5 A B ca cb), .int .i64 8, .int .i64 256] w fun e w' => e = .returned (.int .i64 0) ∧ Below w.heap.size w w' := by
  have HB := zB5 A B ca cb w
  have HA := Lib.hid (fun W => rAlone_zero A B ca cb W)
  go_enter Tryd.func104, Tryd.ntmps104
  go_wp2_with fail
  refine (HA.out _).mono ?_
  rintro e w1 ⟨rfl, hb1⟩
  have HB1 := Lib.hid (HB.out.trans (hb1.mono HB.out.size))
  clear hb1
  go_wp2
  go_ret
  exact ⟨rfl, HB1.out⟩
set_option maxRecDepth 100000 in
set_option maxHeartbeats 4000000 in
theorem rRight_zero (A B : Option Addr) (ca cb : Nat) (w : World) : Calls Tryd.prog 79 #[.agg (zV5 A B ca cb)] w fun e w' => e = .returned (.bool false) ∧ Below w.heap.size w w' := by
  have HB := zB5 A B ca cb w
  have HA := Lib.hid (fun W => rWithin_zero A B ca cb W)
  go_enter Tryd.func79, Tryd.ntmps79
  go_wp2_with fail
  refine (HA.out _).mono ?_
  rintro e w1 ⟨rfl, hb1⟩
  have HB1 := Lib.hid (HB.out.trans (hb1.mono HB.out.size))
  clear hb1
  go_wp2
  go_ret
  exact ⟨rfl, HB1.out⟩
set_option maxRecDepth 100000 in
set_option maxHeartbeats 4000000 in
theorem rSame_zero (A B : Option Addr) (ca cb : Nat) (A' B' : Option Addr) (ca' cb' : Nat) (w : World) : Calls Tryd.prog 55 #[.agg (zV5 A B ca cb), .agg (zV5 A' B' ca' cb')] w fun e w' => e = .returned (.bool false) ∧ Below w.heap.size w w' := by
  have HB := Lib.hid (TwoB.new w 40 (zV5 A B ca cb) (zV5 A' B' ca' cb'))
  have HA := Lib.hid (fun W => rRight_zero A B ca cb W)
  go_enter Tryd.func55, Tryd.ntmps55
  go_wp2_with fail
  refine (HA.out _).mono ?_
  rintro e w1 ⟨rfl, hb1⟩
  have HB1 := Lib.hid (HB.out.keep hb1)
  clear hb1
  go_wp2
  go_ret
  exact ⟨rfl, HB1.out.2.2⟩
set_option maxRecDepth 100000 in
set_option maxHeartbeats 4000000 in
theorem rAlike_zero (A B : Option Addr) (ca cb : Nat) (A' B' : Option Addr) (ca' cb' : Nat) (w : World) : Calls Tryd.prog 29 #[.agg (zV5 A B ca cb), .agg (zV5 A' B' ca' cb')] w fun e w' => e = .returned (.bool true) ∧ Below w.heap.size w w' := by
  have HB := Lib.hid (TwoB.new w 40 (zV5 A B ca cb) (zV5 A' B' ca' cb'))
  have HA := Lib.hid (fun W => rSame_zero A B ca cb A' B' ca' cb' W)
  have HZ := Lib.hid (fun W => rZero_zero A B ca cb W)
  have HZ' := Lib.hid (fun W => rZero_zero A' B' ca' cb' W)
  go_enter Tryd.func29, Tryd.ntmps29
  go_wp2_with fail
  refine (HA.out _).mono ?_
  rintro e w1 ⟨rfl, hb1⟩
  have HB1 := Lib.hid (HB.out.keep hb1)
  obtain ⟨c1, f1, l1⟩ := HB1.out.1.rules
  obtain ⟨c2, f2, l2⟩ := HB1.out.2.1.rules
  clear hb1
  go_wp2_with fail
  refine (HZ.out _).mono ?_
  rintro e w2 ⟨rfl, hb2⟩
  have HB2 := Lib.hid (HB1.out.keep hb2)
  clear hb2 c1 f1 l1 c2 f2 l2
  obtain ⟨c1, f1, l1⟩ := HB2.out.1.rules
  obtain ⟨c2, f2, l2⟩ := HB2.out.2.1.rules
  go_wp2_with fail
  refine (HZ'.out _).mono ?_
  rintro e w3 ⟨rfl, hb3⟩
  have HB3 := Lib.hid (HB2.out.keep hb3)
  clear hb3
  go_wp2
  go_ret
  exact ⟨rfl, HB3.out.2.2⟩
set_option maxRecDepth 100000 in
set_option maxHeartbeats 4000000 in
theorem rAlike_fine (v : JV) (cs cs' : List Value) (F F' : Nat → Prop) (w : World) (hv : VR w F cs v) (hv' : VR w F' cs' v) (hR : rightJ 8 v) (hn : nodesJ v ≤ 256) :
    Calls Tryd.prog 29 #[.agg cs.toArray, .agg cs'.toArray] w fun e w' => e = .returned (.bool true) ∧ Below w.heap.size w w' := by
  have H1 := Lib.hid (fun W (h : Below w.heap.size w W) => rSame_any v cs cs' F F' W (hv.bel h) (hv'.bel h) hR hn)
  obtain ⟨k0, n0, s0, A0, na0, ca0, B0, nb0, cb0, rfl⟩ := hv.form
  obtain ⟨k1, n1, s1, A1, na1, ca1, B1, nb1, cb1, rfl⟩ := hv'.form
  have HB := Lib.hid (TwoB.new w 40 #[.int .i64 k0, .int .i64 n0, .string s0, .slice A0 na0 ca0, .slice B0 nb0 cb0] #[.int .i64 k1, .int .i64 n1, .string s1, .slice A1 na1 ca1, .slice B1 nb1 cb1])
  clear hv hv' hR hn
  go_enter Tryd.func29, Tryd.ntmps29
  go_wp2_with fail
  refine (H1.out _ HB.out.2.2).mono ?_
  rintro e w1 ⟨rfl, hb1⟩
  have HB1 := Lib.hid (HB.out.keep hb1)
  clear hb1
  go_wp2
  go_ret
  exact ⟨rfl, HB1.out.2.2⟩
theorem VR.zero_is {w : World} {F : Nat → Prop} {cs : List Value} (h : VR w F cs jZero) : ∃ A B ca cb, cs = [.int .i64 0, .int .i64 0, .string ⟨#[]⟩, .slice A 0 ca, .slice B 0 cb] := by
  obtain ⟨A, B, ca, cb, css, e, _⟩ := VR.out (k := 0) (n := 0) (s := []) (kids := []) (keys := []) h
  exact ⟨A, B, ca, cb, e⟩
theorem rAlike_any (v : JV) (cs cs' : List Value) (F F' : Nat → Prop) (w : World) (hv : VR w F cs v) (hv' : VR w F' cs' v) (h : FineJ v) :
    Calls Tryd.prog 29 #[.agg cs.toArray, .agg cs'.toArray] w fun e w' => e = .returned (.bool true) ∧ Below w.heap.size w w' := by
  rcases h with rfl | ⟨h1, h2⟩
  · obtain ⟨A, B, ca, cb, rfl⟩ := hv.zero_is
    obtain ⟨A', B', ca', cb', rfl⟩ := hv'.zero_is
    exact rAlike_zero A B ca cb A' B' ca' cb' w
  · exact rAlike_fine v cs cs' F F' w hv hv' h1 h2
end Go.Proofs.YtalhoacancbldaaDoor
