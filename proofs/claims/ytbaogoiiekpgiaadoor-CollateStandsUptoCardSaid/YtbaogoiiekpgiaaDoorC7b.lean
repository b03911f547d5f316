/- The walk of CollateFronts. -/
import Derived.Test.YtbaogoiiekpgiaaDoorC7a
namespace Go.Proofs.YtbaogoiiekpgiaaDoor
set_option linter.unusedVariables false
set_option linter.unusedSimpArgs false
open Go.RowKit
attribute [local go_sem] run_index_arr run_part_agg run_part_one run_field_agg

set_option maxRecDepth 100000 in
set_option maxHeartbeats 8000000 in
theorem rZero7 (cs : List Value) (W0 w : World) (h : VR W0 TT cs jZero) : Calls Tryd.prog 29 #[.agg cs.toArray] w (BoolS true w) := by
  obtain ⟨A, B, ca, cb, css, rfl, _⟩ := VR.out (k := 0) (n := 0) (s := []) (kids := []) (keys := []) h
  have HB := Lib.hid ((Below.refl w.heap.size w).alloc (Nat.le_refl _) (.cells #[.int .i64 0, .int .i64 0, .string ⟨#[]⟩, .slice A 0 ca, .slice B 0 cb] 28))
  clear h
  go_enter Tryd.func29, Tryd.ntmps29
  go_wp2
  go_ret
  exact ⟨rfl, HB.out⟩
theorem rSame_yes {v : JV} (g : gd v) (c : Came v) (cs cs' : List Value) (F F' : Nat → Prop) (w : World) (h : VR w F cs v) (h' : VR w F' cs' v) : Calls Tryd.prog 30 #[.agg cs.toArray, .agg cs'.toArray] w (BoolS true w) :=
  (rSameG v v cs cs' F F' w h h' c c).mono fun e w' ⟨t, h1, h2, h3⟩ => ⟨by rw [h1, h2.2 ⟨g, g, rfl⟩], h3⟩
/-- Front, and what it tells -/
def FrtS (r : JV) (q : Int) (w0 w : World) (e : Ending) (w' : World) : Prop := (∃ cs', e = .returned (.tuple #[.agg cs'.toArray, .int .i64 q]) ∧ VR w0 TT cs' r) ∧ Below w.heap.size w w'
theorem cFront_is (v : JV) (n : Int) (cs : List Value) (w : World) (hG : GOK w) (hv : VR w TT cs v) (hC : Came v) (hn : iw n) {r : JV} {q : Int} (he : frontO v n = (r, q)) :
    Calls Tryd.prog 28 #[.agg cs.toArray, .int .i64 n] w (FrtS r q w w) := by
  have h := cFront v n cs TT w hG hv hC hn
  rw [he] at h
  exact h
theorem frontO_no {v : JV} {n : Int} (h : ¬ gd v) : frontO v n = (jZero, 140) := if_neg h
theorem frontO_neg {v : JV} {n : Int} (h : gd v) (h0 : n < 0) : frontO v n = (jZero, 2) := by unfold frontO frontI; rw [if_pos (show good v = true from h), if_pos h0]
theorem frontO_yes {v : JV} {m : Nat} (h : gd v) : frontO v (m : Int) = (frontJ v m, 0) := by unfold frontO frontI; rw [if_pos (show good v = true from h), if_neg (by omega)]; rfl
set_option maxRecDepth 100000 in
set_option maxHeartbeats 8000000 in
theorem collateFronts_any (cs0 : Array Value) (x0 : JV) (n : Int) (w : World) (hG : GOK w) (h0 : VR w TT cs0.toList x0) (c0 : Came x0) (h1 : (Lit.int .i64 n).wf = true) :
    Calls Tryd.prog 6 #[.agg cs0, .int .i64 n] w (BoolS true w) := by
  obtain ⟨l0, rfl⟩ : ∃ l : List Value, cs0 = l.toArray := ⟨cs0.toList, by simp⟩
  replace h0 : VR w TT l0 x0 := by simpa using h0
  have HV0 := Lib.hid (fun (W : World) (h : Below w.heap.size w W) => h0.bel h)
  obtain ⟨k0, n0, s0, A0, na0, ca0, B0, nb0, cb0, rfl⟩ := h0.form
  have HG := Lib.hid hG
  have C0 := Lib.hid c0
  have HI := Lib.hid (wf_iw h1)
  have HH0 := Lib.hid (Held.nil w)
  have HRG := Lib.hid (fun (W : World) (h : Below w.heap.size w W) => rRightG x0 _ TT W (HV0.out W h) C0.out)
  clear h0 c0 hG h1
  by_cases hg : gd x0
  case neg =>
    have HC := Lib.hid (frontO_no (n := n) hg)
    have HAL : Hid (good x0 = false) := Lib.hid (gd.not hg)
    clear hg
    rw [HAL.out] at HRG
    clear HAL
    go_enter Tryd.func6, Tryd.ntmps6
    go_wp2_with fail
    have HA1 := Lib.hid (Held.push (HH0.out) 28 #[.int .i64 k0, .int .i64 n0, .string s0, .slice A0 na0 ca0, .slice B0 nb0 cb0] (g := w.heap.size) (by first | rfl | simp))
    refine (wakes7_any _ (HG.out.keep ((Held.push (HH0.out) 28 #[.int .i64 k0, .int .i64 n0, .string s0, .slice A0 na0 ca0, .slice B0 nb0 cb0] (g := w.heap.size) (by first | rfl | simp))).1)).mono ?_
    rintro e w1 ⟨rfl, hb1⟩
    have HH1 := Lib.hid (HA1.out.keep hb1)
    clear hb1 HH0 HA1
    obtain ⟨hc0, hf0, hl0⟩ := HH1.out.b0.rules
    go_wp2_with fail
    refine (cFront_is x0 _ _ _ (HG.out.keep (HH1.out).1) (HV0.out _ (HH1.out).1) C0.out HI.out HC.out).mono ?_
    rintro e w2 ⟨⟨cs', rfl, hfv⟩, hb2⟩
    have HH2 := Lib.hid (HH1.out.keep hb2)
    have HFV := Lib.hid hfv
    have HBF := Lib.hid hb2
    obtain ⟨k5, n5, s5, A5, na5, ca5, B5, nb5, cb5, rfl⟩ := hfv.form
    clear hfv
    clear hc0 hf0 hl0
    clear hb2 HH1
    have HS3 := Lib.hid (Held.push (HH2.out) 28 #[.int .i64 k5, .int .i64 n5, .string s5, .slice A5 na5 ca5, .slice B5 nb5 cb5] (g := w2.heap.size) (by first | rfl | simp))
    clear HH2
    obtain ⟨hc1, hf1, hl1⟩ := HS3.out.b1.rules
    obtain ⟨hc0, hf0, hl0⟩ := HS3.out.b0.rules
    go_wp2_with fail
    refine (HRG.out _ (HS3.out).1).mono ?_
    rintro e w4 ⟨rfl, hb4⟩
    have HH4 := Lib.hid (HS3.out.keep hb4)
    have HBX := Lib.hid (Below.trans ((Below.refl w2.heap.size w2).alloc (Nat.le_refl _) (.cells #[.int .i64 k5, .int .i64 n5, .string s5, .slice A5 na5 ca5, .slice B5 nb5 cb5] 28)) (hb4.mono (by simp)))
    clear hc1 hf1 hl1 hc0 hf0 hl0
    clear hb4 HS3
    obtain ⟨hc1, hf1, hl1⟩ := HH4.out.b1.rules
    obtain ⟨hc0, hf0, hl0⟩ := HH4.out.b0.rules
    go_wp2_with fail
    refine (rZero7 _ _ _ HFV.out).mono ?_
    rintro e w5 ⟨rfl, hb5⟩
    have HH5 := Lib.hid (HH4.out.keep hb5)
    clear hc1 hf1 hl1 hc0 hf0 hl0
    clear hb5 HH4
    go_wp2
    go_ret
    exact ⟨rfl, HH5.out.1⟩
  by_cases hn : n < 0
  · have HC := Lib.hid (frontO_neg hg hn)
    have HAL : Hid (good x0 = true) := Lib.hid hg
    clear hg
    rw [HAL.out] at HRG
    clear HAL
    go_enter Tryd.func6, Tryd.ntmps6
    go_wp2_with fail
    have HA1 := Lib.hid (Held.push (HH0.out) 28 #[.int .i64 k0, .int .i64 n0, .string s0, .slice A0 na0 ca0, .slice B0 nb0 cb0] (g := w.heap.size) (by first | rfl | simp))
    refine (wakes7_any _ (HG.out.keep ((Held.push (HH0.out) 28 #[.int .i64 k0, .int .i64 n0, .string s0, .slice A0 na0 ca0, .slice B0 nb0 cb0] (g := w.heap.size) (by first | rfl | simp))).1)).mono ?_
    rintro e w1 ⟨rfl, hb1⟩
    have HH1 := Lib.hid (HA1.out.keep hb1)
    clear hb1 HH0 HA1
    obtain ⟨hc0, hf0, hl0⟩ := HH1.out.b0.rules
    go_wp2_with fail
    refine (cFront_is x0 _ _ _ (HG.out.keep (HH1.out).1) (HV0.out _ (HH1.out).1) C0.out HI.out HC.out).mono ?_
    rintro e w2 ⟨⟨cs', rfl, hfv⟩, hb2⟩
    have HH2 := Lib.hid (HH1.out.keep hb2)
    have HFV := Lib.hid hfv
    have HBF := Lib.hid hb2
    obtain ⟨k5, n5, s5, A5, na5, ca5, B5, nb5, cb5, rfl⟩ := hfv.form
    clear hfv
    clear hc0 hf0 hl0
    clear hb2 HH1
    have HS3 := Lib.hid (Held.push (HH2.out) 28 #[.int .i64 k5, .int .i64 n5, .string s5, .slice A5 na5 ca5, .slice B5 nb5 cb5] (g := w2.heap.size) (by first | rfl | simp))
    clear HH2
    obtain ⟨hc1, hf1, hl1⟩ := HS3.out.b1.rules
    obtain ⟨hc0, hf0, hl0⟩ := HS3.out.b0.rules
    go_wp2_with fail
    refine (HRG.out _ (HS3.out).1).mono ?_
    rintro e w4 ⟨rfl, hb4⟩
    have HH4 := Lib.hid (HS3.out.keep hb4)
    have HBX := Lib.hid (Below.trans ((Below.refl w2.heap.size w2).alloc (Nat.le_refl _) (.cells #[.int .i64 k5, .int .i64 n5, .string s5, .slice A5 na5 ca5, .slice B5 nb5 cb5] 28)) (hb4.mono (by simp)))
    clear hc1 hf1 hl1 hc0 hf0 hl0
    clear hb4 HS3
    obtain ⟨hc1, hf1, hl1⟩ := HH4.out.b1.rules
    obtain ⟨hc0, hf0, hl0⟩ := HH4.out.b0.rules
    go_wp2_with fail
    refine (rZero7 _ _ _ HFV.out).mono ?_
    rintro e w5 ⟨rfl, hb5⟩
    have HH5 := Lib.hid (HH4.out.keep hb5)
    clear hc1 hf1 hl1 hc0 hf0 hl0
    clear hb5 HH4
    go_wp2
    go_ret
    exact ⟨rfl, HH5.out.1⟩
  · obtain ⟨m, rfl⟩ : ∃ m : Nat, n = (m : Int) := ⟨n.toNat, by omega⟩
    have HC := Lib.hid (frontO_yes (m := m) hg)
    have HAL : Hid (good x0 = true) := Lib.hid hg
    have HGD := Lib.hid (front_gd hg m)
    have HCM := Lib.hid (front_came C0.out m)
    clear hg
    rw [HAL.out] at HRG
    clear HAL
    go_enter Tryd.func6, Tryd.ntmps6
    go_wp2_with fail
    have HA1 := Lib.hid (Held.push (HH0.out) 28 #[.int .i64 k0, .int .i64 n0, .string s0, .slice A0 na0 ca0, .slice B0 nb0 cb0] (g := w.heap.size) (by first | rfl | simp))
    refine (wakes7_any _ (HG.out.keep ((Held.push (HH0.out) 28 #[.int .i64 k0, .int .i64 n0, .string s0, .slice A0 na0 ca0, .slice B0 nb0 cb0] (g := w.heap.size) (by first | rfl | simp))).1)).mono ?_
    rintro e w1 ⟨rfl, hb1⟩
    have HH1 := Lib.hid (HA1.out.keep hb1)
    clear hb1 HH0 HA1
    obtain ⟨hc0, hf0, hl0⟩ := HH1.out.b0.rules
    go_wp2_with fail
    refine (cFront_is x0 _ _ _ (HG.out.keep (HH1.out).1) (HV0.out _ (HH1.out).1) C0.out HI.out HC.out).mono ?_
    rintro e w2 ⟨⟨cs', rfl, hfv⟩, hb2⟩
    have HH2 := Lib.hid (HH1.out.keep hb2)
    have HFV := Lib.hid hfv
    have HBF := Lib.hid hb2
    obtain ⟨k5, n5, s5, A5, na5, ca5, B5, nb5, cb5, rfl⟩ := hfv.form
    clear hfv
    clear hc0 hf0 hl0
    clear hb2 HH1
    have HS3 := Lib.hid (Held.push (HH2.out) 28 #[.int .i64 k5, .int .i64 n5, .string s5, .slice A5 na5 ca5, .slice B5 nb5 cb5] (g := w2.heap.size) (by first | rfl | simp))
    clear HH2
    obtain ⟨hc1, hf1, hl1⟩ := HS3.out.b1.rules
    obtain ⟨hc0, hf0, hl0⟩ := HS3.out.b0.rules
    go_wp2_with fail
    refine (HRG.out _ (HS3.out).1).mono ?_
    rintro e w4 ⟨rfl, hb4⟩
    have HH4 := Lib.hid (HS3.out.keep hb4)
    have HBX := Lib.hid (Below.trans ((Below.refl w2.heap.size w2).alloc (Nat.le_refl _) (.cells #[.int .i64 k5, .int .i64 n5, .string s5, .slice A5 na5 ca5, .slice B5 nb5 cb5] 28)) (hb4.mono (by simp)))
    clear hc1 hf1 hl1 hc0 hf0 hl0
    clear hb4 HS3
    obtain ⟨hc1, hf1, hl1⟩ := HH4.out.b1.rules
    obtain ⟨hc0, hf0, hl0⟩ := HH4.out.b0.rules
    clear hc1 hf1 hl1 hc0 hf0 hl0
    go_wp2
    refine wp_region_held_drew (S := fun w' => Below w4.heap.size w4 w') (by kernel_rfl) (by exact (Below.refl _ _).drew) (fun hHeld => ?_)
    refine wpAnyH_take (i := 0) (oi := ⟨some 34, _, _, _, _, _⟩) (v := .int .i64 0) rfl (by kernel_rfl) (by kernel_rfl) (by kernel_rfl) (fun _ _ _ h => h) (Or.inl ⟨by kernel_rfl, ?_⟩) (by assumption) ?_
    · intro W hSw; go_simp
    try simp only [Act.put, List.setIfInBounds_toArray, List.set_cons_zero, List.set_cons_succ]
    refine wpAnyH_take (i := 1) (oi := ⟨some 35, _, _, _, _, _⟩) (v := .bool true) rfl (by kernel_rfl) (by kernel_rfl) (by kernel_rfl) (fun _ _ _ h => h) (Or.inl ⟨by kernel_rfl, ?_⟩) (by assumption) ?_
    · intro W hSw; go_simp
    try simp only [Act.put, List.setIfInBounds_toArray, List.set_cons_zero, List.set_cons_succ]
    refine wpAnyH_take (i := 2) (oi := ⟨some 36, _, _, _, _, _⟩) (v := .bool true) rfl (by kernel_rfl) (by kernel_rfl) (by kernel_rfl) (fun _ _ _ h => h) (Or.inl ⟨by kernel_rfl, ?_⟩) (by assumption) ?_
    · intro W hSw; go_simp
    try simp only [Act.put, List.setIfInBounds_toArray, List.set_cons_zero, List.set_cons_succ]
    refine wpAnyH_take (i := 3) (oi := ⟨some 37, _, _, _, _, _⟩) (v := .agg #[.int .i64 k5, .int .i64 n5, .string s5, .slice A5 na5 ca5, .slice B5 nb5 cb5]) rfl (by kernel_rfl) (by kernel_rfl) (by kernel_rfl) (fun _ _ _ h => h) (Or.inl ⟨by kernel_rfl, ?_⟩) (by assumption) ?_
    · intro W hSw; obtain ⟨hc1, hf1, hl1⟩ := (HH4.out.b1.keep hSw).rules; obtain ⟨hc0, hf0, hl0⟩ := (HH4.out.b0.keep hSw).rules; go_simp
    try simp only [Act.put, List.setIfInBounds_toArray, List.set_cons_zero, List.set_cons_succ]
    refine wpAnyH_take (i := 4) (oi := ⟨some 38, _, _, _, _, _⟩) (v := .agg #[.int .i64 k0, .int .i64 n0, .string s0, .slice A0 na0 ca0, .slice B0 nb0 cb0]) rfl (by kernel_rfl) (by kernel_rfl) (by kernel_rfl) (fun _ _ _ h => h) (Or.inl ⟨by kernel_rfl, ?_⟩) (by assumption) ?_
    · intro W hSw; obtain ⟨hc1, hf1, hl1⟩ := (HH4.out.b1.keep hSw).rules; obtain ⟨hc0, hf0, hl0⟩ := (HH4.out.b0.keep hSw).rules; go_simp
    try simp only [Act.put, List.setIfInBounds_toArray, List.set_cons_zero, List.set_cons_succ]
    refine wpAnyH_take (i := 5) (oi := ⟨some 39, _, _, _, _, _⟩) (v := .int .i64 m) rfl (by kernel_rfl) (by kernel_rfl) (by kernel_rfl) (fun _ _ _ h => h) (Or.inl ⟨by kernel_rfl, ?_⟩) (by assumption) ?_
    · intro W hSw; go_simp
    try simp only [Act.put, List.setIfInBounds_toArray, List.set_cons_zero, List.set_cons_succ]
    refine wpAnyH_ready (rs := [6]) (by kernel_rfl) (by simp) ?_
    refine AllReadyH.cons (o := ⟨some 40, _, _, _, _, _⟩) rfl (fun K hK => ?_) AllReadyH.nil
    go_simp
    have hbw := HH4.out.1
    refine (rFront x0 m _ TT w _ (HV0.out w (Below.refl _ _)) C0.out).mono ?_
    rintro e w7 ⟨cs7, rfl, hv7, hb7⟩
    have HB7 := Lib.hid (((Below.refl w4.heap.size w4).drew).trans hb7)
    have HV7 := Lib.hid (hv7.bel (hbw.trans (HB7.out.mono hbw.size)))
    obtain ⟨k7, n7, s7, A7, na7, ca7, B7, nb7, cb7, rfl⟩ := hv7.form
    clear hb7 hv7
    refine hK.out _ _ (by exact HB7.out) (fun hHeld2 => ?_)
    clear hK K hHeld
    have hHeld := hHeld2
    clear hHeld2
    try simp only [Act.put, List.setIfInBounds_toArray, List.set_cons_zero, List.set_cons_succ]
    refine wpAnyH_ready (rs := [7]) (by kernel_rfl) (by simp) ?_
    refine AllReadyH.cons (o := ⟨some 41, _, _, _, _, _⟩) rfl (fun K hK => ?_) AllReadyH.nil
    go_simp
    have HV5 := Lib.hid (HFV.out.bel (HBF.out.trans (Below.mono HBX.out HBF.out.size)))
    refine (rSame_yes HGD.out HCM.out _ _ TT TT _ (HV5.out.bel HB7.out) HV7.out).mono ?_
    rintro e w8 ⟨rfl, hb8⟩
    have HB8 := Lib.hid (HB7.out.trans (hb8.mono HB7.out.size))
    clear hb8
    refine hK.out _ _ (by exact HB8.out) (fun hHeld2 => ?_)
    clear hK K hHeld
    have hHeld := hHeld2
    clear hHeld2
    try simp only [Act.put, List.setIfInBounds_toArray, List.set_cons_zero, List.set_cons_succ]
    refine wpAnyH_take (i := 8) (oi := ⟨some 42, _, _, _, _, _⟩) (v := .bool true) rfl (by kernel_rfl) (by kernel_rfl) (by kernel_rfl) (fun _ _ _ h => h) (Or.inl ⟨by kernel_rfl, ?_⟩) (by assumption) ?_
    · intro W hSw; go_simp
    try simp only [Act.put, List.setIfInBounds_toArray, List.set_cons_zero, List.set_cons_succ]
    refine wpAnyH_take (i := 9) (oi := ⟨some 4, _, _, _, _, _⟩) (v := .bool true) rfl (by kernel_rfl) (by kernel_rfl) (by kernel_rfl) (fun _ _ _ h => h) (Or.inl ⟨by kernel_rfl, ?_⟩) (by assumption) ?_
    · intro W hSw; go_simp
    try simp only [Act.put, List.setIfInBounds_toArray, List.set_cons_zero, List.set_cons_succ]
    refine wpAnyH_done (by kernel_rfl) ?_ _
    go_wp2
    go_ret
    exact ⟨rfl, HH4.out.1.trans (HB8.out.mono HH4.out.1.size)⟩
end Go.Proofs.YtbaogoiiekpgiaaDoor
