import Derived.Test.YtoejdhabpajhlaaGreatDoorTextP
import Derived.Test.YtoejdhabpajhlaaGreatDoorRef2d
import Derived.Test.YtoejdhabpajhlaaGreatDoorRightP
import Derived.Test.YtoejdhabpajhlaaGreatDoorBase
import Derived.Test.YtoejdhabpajhlaaGreatDoorVal
import Derived.Deep.RegionHeld3
import Derived.Test.YtoejdhabpajhlaaGreatDoorEq18
/- The walks of the reference davenportref01: Points and Valid, on a text. -/
namespace Go.Proofs.YtoejdhabpajhlaaGreatDoor
set_option linter.unusedVariables false
set_option linter.unusedSimpArgs false
open Go.RowKit
attribute [local go_sem] run_index_arr run_part_agg run_part_one run_field_agg

set_option maxRecDepth 100000 in
set_option maxHeartbeats 4000000 in
theorem rPoints_is (v : Value) (cs : List Nat) (w : World) (hcp : ∀ c ∈ cs, isCp (c : Int) = true) (hv : BS w v (cs.flatMap cpBytes)) (hcl : cs.length ≤ 262144) :
    Calls Tryz.prog 61 #[v] w fun e w' => (∃ u, e = .returned (.tuple #[u, .int .i64 0, .bool true])) ∧ Below w.heap.size w w' := by
  obtain ⟨i0, hi, hz0, hz1, hz2⟩ := info_parts infoInt
  obtain ⟨hl1, hl2⟩ := cps_len hcp
  obtain ⟨l, hle⟩ : ∃ l, cs.flatMap cpBytes = l := ⟨_, rfl⟩
  rw [hle] at hv hl1 hl2
  have hl : l.length ≤ 4194304 := by omega
  obtain ⟨A, cap, rfl, hcap, hr⟩ := hv
  have HL := Lib.hid hle
  have HCP := Lib.hid hcp
  have HR := Lib.hid hr
  have HI := Lib.hid hi
  clear hle hcp hr hl1 hl2 hcl hi
  go_enter Tryz.func61, Tryz.ntmps61
  go_wp2
  go_loopg [5, 6] l.length (fun gk s5 s6 wr => ∃ (p : Nat) (pre suf : List Nat), p ≤ l.length ∧ pre.length ≤ p ∧ gk = l.length - p ∧ s6 = .int .i64 p ∧ Hid (l.drop p = suf.flatMap cpBytes) ∧ Hid (∀ c ∈ suf, isCp (c : Int) = true) ∧
    wr.ownsRow w.heap.size 3 1 s5 pre.length (intV (pre.map fun n : Nat => (n : Int))) ∧ Below w.heap.size w wr)
  case atStart => exact ⟨0, [], cs, Nat.zero_le _, Nat.le_refl _, rfl, by go_num, Lib.hid (by rw [List.drop_zero, HL.out]), HCP, World.ownsRow_nil _ _ _ _, Below.refl _ _⟩
  case round =>
    obtain ⟨p, pre, suf, hp, hpp, hgk, rfl, HS, HQ, hown, hbw⟩ := hrel
    have HG := Lib.hid hgk
    clear hgk
    by_cases hlt : p < l.length
    · obtain ⟨b, o, rfl, hb⟩ := HR.out.some_ (show 0 < l.length by omega)
      cases suf with
      | nil => have h := congrArg List.length HS.out; rw [List.length_drop] at h; simp at h; omega
      | cons c suf =>
        have hc := HQ.out c List.mem_cons_self
        have hd := HS.out
        rw [List.flatMap_cons] at hd
        obtain ⟨k1, k2, k3⟩ := cpBegin_bytes c (suf.flatMap cpBytes) hc
        rw [← hd] at k1
        obtain ⟨n, hn⟩ : ∃ n, (cpBytes c).length = n := ⟨_, rfl⟩
        rw [hn] at k1 k2 k3
        have hpn : p + n ≤ l.length := by have h := congrArg List.length hd; rw [List.length_drop, List.length_append, hn] at h; omega
        have HD := Lib.hid (show l.drop (p + n) = suf.flatMap cpBytes by rw [← List.drop_drop, hd, ← hn, List.drop_left])
        have hB := rBegin_any (.slice (some ⟨b, o + p, none⟩) (l.length - p) (cap - p)) (l.drop p) wr (BS.dropN (n := 0) (HR.out.below hbw) hcap p hp) (by rw [List.length_drop]; omega)
        rw [k1] at hB
        have HB := Lib.hid hB
        have HQ2 := Lib.hid (fun x hx => HQ.out x (List.mem_cons_of_mem c hx))
        have hcapp : ¬ cap = p := by omega
        have hn0 : ((n : Int) == 0) = false := by simp; omega
        clear hB k1 hd hc hn HQ HS
        go_wp2_with fail
        refine HB.out.mono ?_
        rintro e w1 ⟨rfl, hb1⟩
        have hown1 := own_below hown hb1
        go_wp2_with (at_builtin; refine wpList_append_own _ rfl _ _ 83 rfl w.heap.size 3 i0 (.int .i64 0) 1 8 Tryz.underlying83 HI.out hz0 hz1 hz2 rfl (by decide) _ _ _ rfl (hown1.alloc _) ⟨w1.heap.size, 0, none⟩ 1 1 [.int .i64 c] rfl rfl (cell_one_new _ _ _) (by simp [Value.oneCell']) (by unfold maxLen; omega) (by omega) (by have := hbw.size; have := hb1.size; simp; omega) ?_; intro v' w2 hown2 hgr2 _)
        go_roundg (l.length - (p + n))
        case measure => rw [HG.out]; omega
        case rel =>
          have s1 := hbw.size
          have s2 := hb1.size
          refine ⟨p + n, pre ++ [c], suf, hpn, by rw [List.length_append, List.length_singleton]; omega, rfl, by go_num, HD, HQ2, ?_, ?_⟩
          · rw [List.length_append, List.length_singleton]
            have e : intV ((pre ++ [c]).map fun n : Nat => (n : Int)) = intV (pre.map fun n : Nat => (n : Int)) ++ [.int .i64 c] := by simp [intV]
            rw [e]; exact hown2
          · refine ((hbw.trans (hb1.mono s1)).alloc (by omega) _).grown hgr2 (by simp; omega) (fun k e => ?_)
            exact (hown1.lt k e).1
    · go_wp2
      go_ret3
      exact ⟨⟨_, rfl⟩, hbw⟩
set_option maxRecDepth 100000 in
set_option maxHeartbeats 4000000 in
theorem rValid_is (s : List UInt8) (w : World) (h : IsText s) : Calls Tryz.prog 78 #[.string ⟨s.toArray⟩] w fun e w' => e = .returned (.bool true) ∧ Below w.heap.size w w' := by
  obtain ⟨cs, hcp, hs, hl⟩ := h
  obtain ⟨ba, hba⟩ : ∃ ba : ByteArray, (⟨s.toArray⟩ : ByteArray) = ba := ⟨_, rfl⟩
  have hsl : sl ba = s := by rw [← hba, sl_mk]
  rw [hba]
  obtain ⟨cap, W1, hcv, hcap, hb1, hs1, hr1⟩ := conv_bytes (P := Tryz.prog) w 9 34 5 ba Tryz.underlying9 Tryz.underlying34 Tryz.underlying5
  have hP := rPoints_is (.slice (some ⟨w.heap.size, 0, none⟩) ba.size cap) cs W1 hcp (by rw [← hs, ← hsl]; exact ⟨_, _, by rw [sl_len], by rw [sl_len]; exact hcap, hr1⟩) hl
  have HP := Lib.hid hP
  have HB1 := Lib.hid hb1
  clear hP hr1 hs hsl hba hcp hb1
  go_enter Tryz.func78, Tryz.ntmps78
  go_wp2_with fail
  refine HP.out.mono ?_
  rintro e w2 ⟨⟨u, rfl⟩, hb2⟩
  have HB2 := Lib.hid (HB1.out.trans (hb2.mono HB1.out.size))
  clear hb2
  go_wp2
  go_ret
  exact ⟨rfl, HB2.out⟩
end Go.Proofs.YtoejdhabpajhlaaGreatDoor

/- The walk of the reference davenportref04: alone, of a value that is one of its kind. -/
namespace Go.Proofs.YtoejdhabpajhlaaGreatDoor
set_option linter.unusedVariables false
set_option linter.unusedSimpArgs false
open Go.RowKit
attribute [local go_sem] run_index_arr run_part_agg run_part_one run_field_agg

set_option maxRecDepth 100000 in
set_option maxHeartbeats 4000000 in
theorem rAlone_any (cs : List Value) (k n : Int) (s : List UInt8) (kids : List JV) (keys : List (List UInt8)) (F : Nat → Prop) (w : World) (hv : VR w F cs (.mk k n s kids keys)) (ha : aloneK k n s kids keys) (hkl : kids.length ≤ 256) :
    Calls Tryz.prog 60 #[.agg cs.toArray] w fun e w' => e = .returned (.bool true) ∧ Below w.heap.size w w' := by
  obtain ⟨A, B, ca, cb, css, rfl, h1, h2, h3, h4, h5, h6, h7⟩ := hv.out
  have hyl : keys.length ≤ 256 := by
    have h := ha.keyed
    split at h
    · omega
    · rw [h]; simp
  have HA := Lib.hid ha
  have HK := Lib.hid (show RdF w (fun _ => True) B (strV keys) from h7.mono fun _ _ _ => trivial)
  have hky := ha.keyed
  have hlf : k < 5 → kids.length = 0 := fun h => by rw [ha.leaf h]; rfl
  have hkd : k = 6 ∨ keys.length = 0 := by
    by_cases h : k = 6
    · exact .inl h
    · rw [if_neg h] at hky; exact .inr (by rw [hky]; rfl)
  have hkd6 : k = 6 → keys.length = kids.length := fun h => by rw [if_pos h] at hky; exact hky
  have hk16 := ha.kind
  have HN := Lib.hid ha.num
  have HT := Lib.hid ha.text
  have HY := Lib.hid (rfl : keys.length = keys.length)
  obtain ⟨ny, hny⟩ : ∃ ny, keys.length = ny := ⟨_, rfl⟩
  obtain ⟨nk, hnk⟩ : ∃ nk, kids.length = nk := ⟨_, rfl⟩
  have HNY := Lib.hid hny
  rw [hny] at hkd hkd6 hyl h3 ⊢
  rw [hnk] at hlf hkd6 hkl h2 ⊢
  have HLF := Lib.hid hlf
  have HKD := Lib.hid hkd
  have HK6 := Lib.hid hkd6
  have HBW := Lib.hid ((Below.refl w.heap.size w).alloc (Nat.le_refl _) (.cells #[.int .i64 k, .int .i64 n, .string ⟨s.toArray⟩, .slice A nk ca, .slice B ny cb] 25))
  clear hv ha h1 h6 h7 hky hny hnk hlf hkd hkd6 HY h4 h5
  go_enter Tryz.func60, Tryz.ntmps60
  go_wp2
  go_loopg [3] ny (fun gk s3 wr => ∃ i : Nat, i ≤ ny ∧ gk = ny - i ∧ s3 = .int .i64 i ∧ Blk wr w.heap.size 25 #[.int .i64 k, .int .i64 n, .string ⟨s.toArray⟩, .slice A nk ca, .slice B ny cb] ∧ Below w.heap.size w wr)
  case atStart => exact ⟨0, Nat.zero_le _, rfl, rfl, Blk.new w _ _, HBW.out⟩
  case round =>
    obtain ⟨i, hi, hgk, rfl, hb1, hbw⟩ := hrel
    have HG := Lib.hid hgk
    clear hgk
    obtain ⟨c1, f1, l1⟩ := hb1.rules
    have g4 := c1 4
    simp at g4
    have HB1 := Lib.hid hb1
    have HBW1 := Lib.hid hbw
    by_cases hlt : i < ny
    · obtain ⟨b, o, rfl, hb⟩ := strV_some HK.out (by rw [HNY.out]; omega)
      obtain ⟨t, ht⟩ : ∃ t, keys[i]? = some t := ⟨_, List.getElem?_eq_getElem (by rw [HNY.out]; exact hlt)⟩
      have hV := rValid_is t wr.drew (HA.out.texts t (List.mem_of_getElem? ht))
      have HV := Lib.hid hV
      have HC := Lib.hid (fun W (h : Below w.heap.size w W) => strV_cell (n := 0) (HK.out.keep (KeepF.of_below h)) ht)
      have x0 := HC.out wr hbw
      have hTT := ht
      clear hV ht
      by_cases h0 : 0 < i
      · obtain ⟨j, hj⟩ : ∃ j, j + 1 = i := ⟨i - 1, by omega⟩
        obtain ⟨u, hu⟩ : ∃ u, keys[j]? = some u := ⟨_, List.getElem?_eq_getElem (by rw [HNY.out]; omega)⟩
        have hup : Op.bytesLess u t = true := by
          have h := List.pairwise_iff_getElem.1 HA.out.up j i (by rw [HNY.out]; omega) (by rw [HNY.out]; exact hlt) (by omega)
          have e1 := (List.getElem?_eq_some_iff.1 hu).2
          have e2 := (List.getElem?_eq_some_iff.1 hTT).2
          rw [e1, e2] at h
          exact h
        have HD := Lib.hid (fun W (h : Below w.heap.size w W) => strV_cell (n := 0) (HK.out.keep (KeepF.of_below h)) hu)
        have x1 := HD.out wr hbw
        clear hTT hu
        have i1 : (0 : Int) ≤ (j : Int) := by omega
        have i2 : (j : Int) < (ny : Int) := by omega
        have i3 : (0 : Int) ≤ (i : Int) := by omega
        have i4 : (i : Int) < (ny : Int) := by omega
        have i5 : (0 : Int) < (i : Int) := by omega
        have i6 : IntKind.i64.wrap ((i : Int) - 1) = (i : Int) - 1 := IntWalk.i64_in _ (by omega)
        have i8 : (0 : Int) ≤ (i : Int) - 1 := by omega
        have i9 : (i : Int) - 1 < (ny : Int) := by omega
        have i10 : ((i : Int) - 1).toNat = j := by omega
        have i11 : ¬ (i : Int) < 1 := by omega
        clear hj
        go_wp2
        refine wp_region_held_drew (S := fun w' => w'.cell? ⟨w.heap.size, 4, none⟩ = some (.slice (some ⟨b, o, none⟩) ny cb) ∧ w'.cell? ⟨b, o + i, none⟩ = some (.string ⟨t.toArray⟩) ∧ w'.cell? ⟨b, o + j, none⟩ = some (.string ⟨u.toArray⟩)) (by kernel_rfl) (by exact ⟨g4, x0, x1⟩) (fun hHeld => ?_)
        refine wpAnyH_take (i := 0) (oi := ⟨some 13, _, _, _, _, _⟩) (v := .pointer (some ⟨w.heap.size, 4, none⟩)) rfl (by kernel_rfl) (by kernel_rfl) (by kernel_rfl) (fun _ _ _ h => h) (Or.inl ⟨by kernel_rfl, ?_⟩) (by assumption) ?_
        · intro w hSw; (try dsimp only at hSw); go_simp
        try simp only [Act.put, List.setIfInBounds_toArray, List.set_cons_zero, List.set_cons_succ]
        refine wpAnyH_take (i := 1) (oi := ⟨some 14, _, _, _, _, _⟩) (v := .slice (some ⟨b, o, none⟩) ny cb) rfl (by kernel_rfl) (by kernel_rfl) (by kernel_rfl) (fun _ _ _ h => h) (Or.inl ⟨by kernel_rfl, ?_⟩) (by assumption) ?_
        · intro w hSw; (try dsimp only at hSw); go_simp
        try simp only [Act.put, List.setIfInBounds_toArray, List.set_cons_zero, List.set_cons_succ]
        refine wpAnyH_take (i := 2) (oi := ⟨some 15, _, _, _, _, _⟩) (v := .int .i64 i) rfl (by kernel_rfl) (by kernel_rfl) (by kernel_rfl) (fun _ _ _ h => h) (Or.inl ⟨by kernel_rfl, ?_⟩) (by assumption) ?_
        · intro w hSw; (try dsimp only at hSw); go_simp
        try simp only [Act.put, List.setIfInBounds_toArray, List.set_cons_zero, List.set_cons_succ]
        refine wpAnyH_take (i := 3) (oi := ⟨some 16, _, _, _, _, _⟩) (v := .pointer (some ⟨b, o + i, none⟩)) rfl (by kernel_rfl) (by kernel_rfl) (by kernel_rfl) (fun _ _ _ h => h) (Or.inl ⟨by kernel_rfl, ?_⟩) (by assumption) ?_
        · intro w hSw; (try dsimp only at hSw); go_simp
        try simp only [Act.put, List.setIfInBounds_toArray, List.set_cons_zero, List.set_cons_succ]
        refine wpAnyH_take (i := 4) (oi := ⟨some 17, _, _, _, _, _⟩) (v := .string ⟨t.toArray⟩) rfl (by kernel_rfl) (by kernel_rfl) (by kernel_rfl) (fun _ _ _ h => h) (Or.inl ⟨by kernel_rfl, ?_⟩) (by assumption) ?_
        · intro w hSw; (try dsimp only at hSw); go_simp
        try simp only [Act.put, List.setIfInBounds_toArray, List.set_cons_zero, List.set_cons_succ]
        refine wpAnyH_ready (rs := [5]) (by kernel_rfl) (by simp) ?_
        refine AllReadyH.cons (o := ⟨some 18, _, _, _, _, _⟩) rfl (fun K hK => ?_) AllReadyH.nil
        go_simp
        refine HV.out.mono ?_
        rintro e w2 ⟨rfl, hb2⟩
        have hbl2 := HB1.out.drew.keep hb2
        have hbw2 := HBW1.out.drew.trans (hb2.mono HBW1.out.drew.size)
        have z0 := hbl2.cell 4
        have z1 := HC.out w2 hbw2
        have z2 := HD.out w2 hbw2
        simp at z0
        refine hK.out _ _ (⟨z0, z1, z2⟩) (fun hHeld2 => ?_)
        clear hK K hHeld
        try simp only [Act.put, List.setIfInBounds_toArray, List.set_cons_zero, List.set_cons_succ]
        refine wpAnyH_take (i := 6) (oi := ⟨some 19, _, _, _, _, _⟩) (v := .bool false) rfl (by kernel_rfl) (by kernel_rfl) (by kernel_rfl) (fun _ _ _ h => h) (Or.inl ⟨by kernel_rfl, ?_⟩) (by assumption) ?_
        · intro w hSw; (try dsimp only at hSw); go_simp
        try simp only [Act.put, List.setIfInBounds_toArray, List.set_cons_zero, List.set_cons_succ]
        refine wpAnyH_take (i := 7) (oi := ⟨some 20, _, _, _, _, _⟩) (v := .bool false) rfl (by kernel_rfl) (by kernel_rfl) (by kernel_rfl) (fun _ _ _ h => h) (Or.inl ⟨by kernel_rfl, ?_⟩) (by assumption) ?_
        · intro w hSw; (try dsimp only at hSw); go_simp
        try simp only [Act.put, List.setIfInBounds_toArray, List.set_cons_zero, List.set_cons_succ]
        refine wpAnyH_take (i := 8) (oi := ⟨some 21, _, _, _, _, _⟩) (v := .int .i64 i) rfl (by kernel_rfl) (by kernel_rfl) (by kernel_rfl) (fun _ _ _ h => h) (Or.inl ⟨by kernel_rfl, ?_⟩) (by assumption) ?_
        · intro w hSw; (try dsimp only at hSw); go_simp
        try simp only [Act.put, List.setIfInBounds_toArray, List.set_cons_zero, List.set_cons_succ]
        refine wpAnyH_take (i := 9) (oi := ⟨some 22, _, _, _, _, _⟩) (v := .bool true) rfl (by kernel_rfl) (by kernel_rfl) (by kernel_rfl) (fun _ _ _ h => h) (Or.inl ⟨by kernel_rfl, ?_⟩) (by assumption) ?_
        · intro w hSw; (try dsimp only at hSw); go_simp
        try simp only [Act.put, List.setIfInBounds_toArray, List.set_cons_zero, List.set_cons_succ]
        refine wpAnyH_take (i := 10) (oi := ⟨some 23, _, _, _, _, _⟩) (v := .bool true) rfl (by kernel_rfl) (by kernel_rfl) (by kernel_rfl) (fun _ _ _ h => h) (Or.inl ⟨by kernel_rfl, ?_⟩) (by assumption) ?_
        · intro w hSw; (try dsimp only at hSw); go_simp
        try simp only [Act.put, List.setIfInBounds_toArray, List.set_cons_zero, List.set_cons_succ]
        refine wpAnyH_take (i := 11) (oi := ⟨some 24, _, _, _, _, _⟩) (v := .pointer (some ⟨w.heap.size, 4, none⟩)) rfl (by kernel_rfl) (by kernel_rfl) (by kernel_rfl) (fun _ _ _ h => h) (Or.inl ⟨by kernel_rfl, ?_⟩) (by assumption) ?_
        · intro w hSw; (try dsimp only at hSw); go_simp
        try simp only [Act.put, List.setIfInBounds_toArray, List.set_cons_zero, List.set_cons_succ]
        refine wpAnyH_take (i := 12) (oi := ⟨some 25, _, _, _, _, _⟩) (v := .slice (some ⟨b, o, none⟩) ny cb) rfl (by kernel_rfl) (by kernel_rfl) (by kernel_rfl) (fun _ _ _ h => h) (Or.inl ⟨by kernel_rfl, ?_⟩) (by assumption) ?_
        · intro w hSw; (try dsimp only at hSw); go_simp
        try simp only [Act.put, List.setIfInBounds_toArray, List.set_cons_zero, List.set_cons_succ]
        refine wpAnyH_take (i := 13) (oi := ⟨some 26, _, _, _, _, _⟩) (v := .int .i64 i) rfl (by kernel_rfl) (by kernel_rfl) (by kernel_rfl) (fun _ _ _ h => h) (Or.inl ⟨by kernel_rfl, ?_⟩) (by assumption) ?_
        · intro w hSw; (try dsimp only at hSw); go_simp
        try simp only [Act.put, List.setIfInBounds_toArray, List.set_cons_zero, List.set_cons_succ]
        refine wpAnyH_take (i := 14) (oi := ⟨some 27, _, _, _, _, _⟩) (v := .int .i64 ((i : Int) - 1)) rfl (by kernel_rfl) (by kernel_rfl) (by kernel_rfl) (fun _ _ _ h => h) (Or.inl ⟨by kernel_rfl, ?_⟩) (by assumption) ?_
        · intro w hSw; (try dsimp only at hSw); go_simp
        try simp only [Act.put, List.setIfInBounds_toArray, List.set_cons_zero, List.set_cons_succ]
        refine wpAnyH_take (i := 15) (oi := ⟨some 28, _, _, _, _, _⟩) (v := .pointer (some ⟨b, o + j, none⟩)) rfl (by kernel_rfl) (by kernel_rfl) (by kernel_rfl) (fun _ _ _ h => h) (Or.inl ⟨by kernel_rfl, ?_⟩) (by assumption) ?_
        · intro w hSw; (try dsimp only at hSw); go_simp
        try simp only [Act.put, List.setIfInBounds_toArray, List.set_cons_zero, List.set_cons_succ]
        refine wpAnyH_take (i := 16) (oi := ⟨some 29, _, _, _, _, _⟩) (v := .string ⟨u.toArray⟩) rfl (by kernel_rfl) (by kernel_rfl) (by kernel_rfl) (fun _ _ _ h => h) (Or.inl ⟨by kernel_rfl, ?_⟩) (by assumption) ?_
        · intro w hSw; (try dsimp only at hSw); go_simp
        try simp only [Act.put, List.setIfInBounds_toArray, List.set_cons_zero, List.set_cons_succ]
        refine wpAnyH_take (i := 17) (oi := ⟨some 30, _, _, _, _, _⟩) (v := .pointer (some ⟨w.heap.size, 4, none⟩)) rfl (by kernel_rfl) (by kernel_rfl) (by kernel_rfl) (fun _ _ _ h => h) (Or.inl ⟨by kernel_rfl, ?_⟩) (by assumption) ?_
        · intro w hSw; (try dsimp only at hSw); go_simp
        try simp only [Act.put, List.setIfInBounds_toArray, List.set_cons_zero, List.set_cons_succ]
        refine wpAnyH_take (i := 18) (oi := ⟨some 31, _, _, _, _, _⟩) (v := .slice (some ⟨b, o, none⟩) ny cb) rfl (by kernel_rfl) (by kernel_rfl) (by kernel_rfl) (fun _ _ _ h => h) (Or.inl ⟨by kernel_rfl, ?_⟩) (by assumption) ?_
        · intro w hSw; (try dsimp only at hSw); go_simp
        try simp only [Act.put, List.setIfInBounds_toArray, List.set_cons_zero, List.set_cons_succ]
        refine wpAnyH_take (i := 19) (oi := ⟨some 32, _, _, _, _, _⟩) (v := .int .i64 i) rfl (by kernel_rfl) (by kernel_rfl) (by kernel_rfl) (fun _ _ _ h => h) (Or.inl ⟨by kernel_rfl, ?_⟩) (by assumption) ?_
        · intro w hSw; (try dsimp only at hSw); go_simp
        try simp only [Act.put, List.setIfInBounds_toArray, List.set_cons_zero, List.set_cons_succ]
        refine wpAnyH_take (i := 20) (oi := ⟨some 33, _, _, _, _, _⟩) (v := .pointer (some ⟨b, o + i, none⟩)) rfl (by kernel_rfl) (by kernel_rfl) (by kernel_rfl) (fun _ _ _ h => h) (Or.inl ⟨by kernel_rfl, ?_⟩) (by assumption) ?_
        · intro w hSw; (try dsimp only at hSw); go_simp
        try simp only [Act.put, List.setIfInBounds_toArray, List.set_cons_zero, List.set_cons_succ]
        refine wpAnyH_take (i := 21) (oi := ⟨some 34, _, _, _, _, _⟩) (v := .string ⟨t.toArray⟩) rfl (by kernel_rfl) (by kernel_rfl) (by kernel_rfl) (fun _ _ _ h => h) (Or.inl ⟨by kernel_rfl, ?_⟩) (by assumption) ?_
        · intro w hSw; (try dsimp only at hSw); go_simp
        try simp only [Act.put, List.setIfInBounds_toArray, List.set_cons_zero, List.set_cons_succ]
        refine wpAnyH_take (i := 22) (oi := ⟨some 35, _, _, _, _, _⟩) (v := .bool false) rfl (by kernel_rfl) (by kernel_rfl) (by kernel_rfl) (fun _ _ _ h => h) (Or.inl ⟨by kernel_rfl, ?_⟩) (by assumption) ?_
        · intro w hSw; (try dsimp only at hSw); go_simp
        try simp only [Act.put, List.setIfInBounds_toArray, List.set_cons_zero, List.set_cons_succ]
        refine wpAnyH_take (i := 23) (oi := ⟨some 36, _, _, _, _, _⟩) (v := .bool false) rfl (by kernel_rfl) (by kernel_rfl) (by kernel_rfl) (fun _ _ _ h => h) (Or.inl ⟨by kernel_rfl, ?_⟩) (by assumption) ?_
        · intro w hSw; (try dsimp only at hSw); go_simp
        try simp only [Act.put, List.setIfInBounds_toArray, List.set_cons_zero, List.set_cons_succ]
        refine wpAnyH_take (i := 24) (oi := ⟨some 37, _, _, _, _, _⟩) (v := .bool false) rfl (by kernel_rfl) (by kernel_rfl) (by kernel_rfl) (fun _ _ _ h => h) (Or.inl ⟨by kernel_rfl, ?_⟩) (by assumption) ?_
        · intro w hSw; (try dsimp only at hSw); go_simp
        try simp only [Act.put, List.setIfInBounds_toArray, List.set_cons_zero, List.set_cons_succ]
        refine wpAnyH_done (by kernel_rfl) ?_ _
        have HL2 := Lib.hid hbl2
        have HW2 := Lib.hid hbw2
        clear hbl2 hbw2 hb2 z0 z1 z2 hup
        go_wp2
        go_roundg (ny - (i + 1))
        case measure => rw [HG.out]; omega
        case rel => exact ⟨i + 1, hlt, rfl, by go_num, HL2.out, HW2.out⟩
      · obtain rfl : i = 0 := by omega
        have i4 : (0 : Int) < (ny : Int) := by omega
        rw [Nat.add_zero] at x0
        clear hTT h0
        go_wp2
        refine wp_region_held_drew (S := fun w' => w'.cell? ⟨w.heap.size, 4, none⟩ = some (.slice (some ⟨b, o, none⟩) ny cb) ∧ w'.cell? ⟨b, o, none⟩ = some (.string ⟨t.toArray⟩)) (by kernel_rfl) (by exact ⟨g4, x0⟩) (fun hHeld => ?_)
        refine wpAnyH_take (i := 0) (oi := ⟨some 13, _, _, _, _, _⟩) (v := .pointer (some ⟨w.heap.size, 4, none⟩)) rfl (by kernel_rfl) (by kernel_rfl) (by kernel_rfl) (fun _ _ _ h => h) (Or.inl ⟨by kernel_rfl, ?_⟩) (by assumption) ?_
        · intro w hSw; (try dsimp only at hSw); go_simp
        try simp only [Act.put, List.setIfInBounds_toArray, List.set_cons_zero, List.set_cons_succ]
        refine wpAnyH_take (i := 1) (oi := ⟨some 14, _, _, _, _, _⟩) (v := .slice (some ⟨b, o, none⟩) ny cb) rfl (by kernel_rfl) (by kernel_rfl) (by kernel_rfl) (fun _ _ _ h => h) (Or.inl ⟨by kernel_rfl, ?_⟩) (by assumption) ?_
        · intro w hSw; (try dsimp only at hSw); go_simp
        try simp only [Act.put, List.setIfInBounds_toArray, List.set_cons_zero, List.set_cons_succ]
        refine wpAnyH_take (i := 2) (oi := ⟨some 15, _, _, _, _, _⟩) (v := .int .i64 0) rfl (by kernel_rfl) (by kernel_rfl) (by kernel_rfl) (fun _ _ _ h => h) (Or.inl ⟨by kernel_rfl, ?_⟩) (by assumption) ?_
        · intro w hSw; (try dsimp only at hSw); go_simp
        try simp only [Act.put, List.setIfInBounds_toArray, List.set_cons_zero, List.set_cons_succ]
        refine wpAnyH_take (i := 3) (oi := ⟨some 16, _, _, _, _, _⟩) (v := .pointer (some ⟨b, o, none⟩)) rfl (by kernel_rfl) (by kernel_rfl) (by kernel_rfl) (fun _ _ _ h => h) (Or.inl ⟨by kernel_rfl, ?_⟩) (by assumption) ?_
        · intro w hSw; (try dsimp only at hSw); go_simp
        try simp only [Act.put, List.setIfInBounds_toArray, List.set_cons_zero, List.set_cons_succ]
        refine wpAnyH_take (i := 4) (oi := ⟨some 17, _, _, _, _, _⟩) (v := .string ⟨t.toArray⟩) rfl (by kernel_rfl) (by kernel_rfl) (by kernel_rfl) (fun _ _ _ h => h) (Or.inl ⟨by kernel_rfl, ?_⟩) (by assumption) ?_
        · intro w hSw; (try dsimp only at hSw); go_simp
        try simp only [Act.put, List.setIfInBounds_toArray, List.set_cons_zero, List.set_cons_succ]
        refine wpAnyH_ready (rs := [5]) (by kernel_rfl) (by simp) ?_
        refine AllReadyH.cons (o := ⟨some 18, _, _, _, _, _⟩) rfl (fun K hK => ?_) AllReadyH.nil
        go_simp
        refine HV.out.mono ?_
        rintro e w2 ⟨rfl, hb2⟩
        have hbl2 := HB1.out.drew.keep hb2
        have hbw2 := HBW1.out.drew.trans (hb2.mono HBW1.out.drew.size)
        have z0 := hbl2.cell 4
        have z1 := HC.out w2 hbw2
        simp at z0
        rw [Nat.add_zero] at z1
        refine hK.out _ _ (⟨z0, z1⟩) (fun hHeld2 => ?_)
        clear hK K hHeld
        try simp only [Act.put, List.setIfInBounds_toArray, List.set_cons_zero, List.set_cons_succ]
        refine wpAnyH_take (i := 6) (oi := ⟨some 19, _, _, _, _, _⟩) (v := .bool false) rfl (by kernel_rfl) (by kernel_rfl) (by kernel_rfl) (fun _ _ _ h => h) (Or.inl ⟨by kernel_rfl, ?_⟩) (by assumption) ?_
        · intro w hSw; (try dsimp only at hSw); go_simp
        try simp only [Act.put, List.setIfInBounds_toArray, List.set_cons_zero, List.set_cons_succ]
        refine wpAnyH_take (i := 7) (oi := ⟨some 20, _, _, _, _, _⟩) (v := .bool false) rfl (by kernel_rfl) (by kernel_rfl) (by kernel_rfl) (fun _ _ _ h => h) (Or.inl ⟨by kernel_rfl, ?_⟩) (by assumption) ?_
        · intro w hSw; (try dsimp only at hSw); go_simp
        try simp only [Act.put, List.setIfInBounds_toArray, List.set_cons_zero, List.set_cons_succ]
        refine wpAnyH_take (i := 8) (oi := ⟨some 21, _, _, _, _, _⟩) (v := .int .i64 0) rfl (by kernel_rfl) (by kernel_rfl) (by kernel_rfl) (fun _ _ _ h => h) (Or.inl ⟨by kernel_rfl, ?_⟩) (by assumption) ?_
        · intro w hSw; (try dsimp only at hSw); go_simp
        try simp only [Act.put, List.setIfInBounds_toArray, List.set_cons_zero, List.set_cons_succ]
        refine wpAnyH_take (i := 9) (oi := ⟨some 22, _, _, _, _, _⟩) (v := .bool false) rfl (by kernel_rfl) (by kernel_rfl) (by kernel_rfl) (fun _ _ _ h => h) (Or.inl ⟨by kernel_rfl, ?_⟩) (by assumption) ?_
        · intro w hSw; (try dsimp only at hSw); go_simp
        try simp only [Act.put, List.setIfInBounds_toArray, List.set_cons_zero, List.set_cons_succ]
        refine wpAnyH_take (i := 10) (oi := ⟨some 23, _, _, _, _, _⟩) (v := .bool false) rfl (by kernel_rfl) (by kernel_rfl) (by kernel_rfl) (fun _ _ _ h => h) (Or.inl ⟨by kernel_rfl, ?_⟩) (by assumption) ?_
        · intro w hSw; (try dsimp only at hSw); go_simp
        try simp only [Act.put, List.setIfInBounds_toArray, List.set_cons_zero, List.set_cons_succ]
        refine wpAnyH_take (i := 11) (oi := ⟨some 24, _, _, _, _, _⟩) (v := undef) rfl (by kernel_rfl) (by kernel_rfl) (by kernel_rfl) (fun _ _ _ h => h) (Or.inr ⟨by kernel_rfl, rfl⟩) (by assumption) ?_
        try simp only [Act.put, List.setIfInBounds_toArray, List.set_cons_zero, List.set_cons_succ]
        refine wpAnyH_take (i := 12) (oi := ⟨some 25, _, _, _, _, _⟩) (v := undef) rfl (by kernel_rfl) (by kernel_rfl) (by kernel_rfl) (fun _ _ _ h => h) (Or.inr ⟨by kernel_rfl, rfl⟩) (by assumption) ?_
        try simp only [Act.put, List.setIfInBounds_toArray, List.set_cons_zero, List.set_cons_succ]
        refine wpAnyH_take (i := 13) (oi := ⟨some 26, _, _, _, _, _⟩) (v := undef) rfl (by kernel_rfl) (by kernel_rfl) (by kernel_rfl) (fun _ _ _ h => h) (Or.inr ⟨by kernel_rfl, rfl⟩) (by assumption) ?_
        try simp only [Act.put, List.setIfInBounds_toArray, List.set_cons_zero, List.set_cons_succ]
        refine wpAnyH_take (i := 14) (oi := ⟨some 27, _, _, _, _, _⟩) (v := undef) rfl (by kernel_rfl) (by kernel_rfl) (by kernel_rfl) (fun _ _ _ h => h) (Or.inr ⟨by kernel_rfl, rfl⟩) (by assumption) ?_
        try simp only [Act.put, List.setIfInBounds_toArray, List.set_cons_zero, List.set_cons_succ]
        refine wpAnyH_take (i := 15) (oi := ⟨some 28, _, _, _, _, _⟩) (v := undef) rfl (by kernel_rfl) (by kernel_rfl) (by kernel_rfl) (fun _ _ _ h => h) (Or.inr ⟨by kernel_rfl, rfl⟩) (by assumption) ?_
        try simp only [Act.put, List.setIfInBounds_toArray, List.set_cons_zero, List.set_cons_succ]
        refine wpAnyH_take (i := 16) (oi := ⟨some 29, _, _, _, _, _⟩) (v := undef) rfl (by kernel_rfl) (by kernel_rfl) (by kernel_rfl) (fun _ _ _ h => h) (Or.inr ⟨by kernel_rfl, rfl⟩) (by assumption) ?_
        try simp only [Act.put, List.setIfInBounds_toArray, List.set_cons_zero, List.set_cons_succ]
        refine wpAnyH_take (i := 17) (oi := ⟨some 30, _, _, _, _, _⟩) (v := undef) rfl (by kernel_rfl) (by kernel_rfl) (by kernel_rfl) (fun _ _ _ h => h) (Or.inr ⟨by kernel_rfl, rfl⟩) (by assumption) ?_
        try simp only [Act.put, List.setIfInBounds_toArray, List.set_cons_zero, List.set_cons_succ]
        refine wpAnyH_take (i := 18) (oi := ⟨some 31, _, _, _, _, _⟩) (v := undef) rfl (by kernel_rfl) (by kernel_rfl) (by kernel_rfl) (fun _ _ _ h => h) (Or.inr ⟨by kernel_rfl, rfl⟩) (by assumption) ?_
        try simp only [Act.put, List.setIfInBounds_toArray, List.set_cons_zero, List.set_cons_succ]
        refine wpAnyH_take (i := 19) (oi := ⟨some 32, _, _, _, _, _⟩) (v := undef) rfl (by kernel_rfl) (by kernel_rfl) (by kernel_rfl) (fun _ _ _ h => h) (Or.inr ⟨by kernel_rfl, rfl⟩) (by assumption) ?_
        try simp only [Act.put, List.setIfInBounds_toArray, List.set_cons_zero, List.set_cons_succ]
        refine wpAnyH_take (i := 20) (oi := ⟨some 33, _, _, _, _, _⟩) (v := undef) rfl (by kernel_rfl) (by kernel_rfl) (by kernel_rfl) (fun _ _ _ h => h) (Or.inr ⟨by kernel_rfl, rfl⟩) (by assumption) ?_
        try simp only [Act.put, List.setIfInBounds_toArray, List.set_cons_zero, List.set_cons_succ]
        refine wpAnyH_take (i := 21) (oi := ⟨some 34, _, _, _, _, _⟩) (v := undef) rfl (by kernel_rfl) (by kernel_rfl) (by kernel_rfl) (fun _ _ _ h => h) (Or.inr ⟨by kernel_rfl, rfl⟩) (by assumption) ?_
        try simp only [Act.put, List.setIfInBounds_toArray, List.set_cons_zero, List.set_cons_succ]
        refine wpAnyH_take (i := 22) (oi := ⟨some 35, _, _, _, _, _⟩) (v := undef) rfl (by kernel_rfl) (by kernel_rfl) (by kernel_rfl) (fun _ _ _ h => h) (Or.inr ⟨by kernel_rfl, rfl⟩) (by assumption) ?_
        try simp only [Act.put, List.setIfInBounds_toArray, List.set_cons_zero, List.set_cons_succ]
        refine wpAnyH_take (i := 23) (oi := ⟨some 36, _, _, _, _, _⟩) (v := .bool false) rfl (by kernel_rfl) (by kernel_rfl) (by kernel_rfl) (fun _ _ _ h => h) (Or.inl ⟨by kernel_rfl, ?_⟩) (by assumption) ?_
        · intro w hSw; (try dsimp only at hSw); go_simp
        try simp only [Act.put, List.setIfInBounds_toArray, List.set_cons_zero, List.set_cons_succ]
        refine wpAnyH_take (i := 24) (oi := ⟨some 37, _, _, _, _, _⟩) (v := .bool false) rfl (by kernel_rfl) (by kernel_rfl) (by kernel_rfl) (fun _ _ _ h => h) (Or.inl ⟨by kernel_rfl, ?_⟩) (by assumption) ?_
        · intro w hSw; (try dsimp only at hSw); go_simp
        try simp only [Act.put, List.setIfInBounds_toArray, List.set_cons_zero, List.set_cons_succ]
        refine wpAnyH_done (by kernel_rfl) ?_ _
        have HL2 := Lib.hid hbl2
        have HW2 := Lib.hid hbw2
        clear hbl2 hbw2 hb2 z0 z1
        go_wp2
        go_roundg (ny - (0 + 1))
        case measure => rw [HG.out]; omega
        case rel => exact ⟨0 + 1, hlt, rfl, by go_num, HL2.out, HW2.out⟩
    · obtain rfl : i = ny := by omega
      have hk7 : k = 1 ∨ k = 2 ∨ k = 3 ∨ k = 4 ∨ k = 5 ∨ k = 6 := by omega
      clear g4
      rcases hk7 with rfl | rfl | rfl | rfl | rfl | rfl
      · obtain rfl : n = 0 := by have := HN.out (by decide); omega
        obtain rfl : s = [] := by have h := HT.out; rwa [if_neg (by decide)] at h
        obtain rfl : nk = 0 := HLF.out (by decide)
        obtain rfl : i = 0 := by have := HKD.out; omega
        have g0 := c1 0
        have g1 := c1 1
        have g2 := c1 2
        have g3 := c1 3
        simp at g0 g1 g2 g3
        have g4 := c1 4
        simp at g4
        go_wp2
        go_region_held3 (fun w' => w'.cell? ⟨w.heap.size, 3, none⟩ = some (.slice A 0 ca) ∧ w'.cell? ⟨w.heap.size, 4, none⟩ = some (.slice B 0 cb)) (go_keep) (fail)
        all_goals
          go_wp2
          go_ret
          exact ⟨rfl, HBW1.out.drew⟩
      · have hn2 : n = 0 ∨ n = 1 := by have := HN.out (by decide); omega
        obtain rfl : s = [] := by have h := HT.out; rwa [if_neg (by decide)] at h
        obtain rfl : nk = 0 := HLF.out (by decide)
        obtain rfl : i = 0 := by have := HKD.out; omega
        rcases hn2 with rfl | rfl
        all_goals
          have g0 := c1 0
          have g1 := c1 1
          have g2 := c1 2
          have g3 := c1 3
          simp at g0 g1 g2 g3
          have g4 := c1 4
          simp at g4
          go_wp2
          go_region_held3 (fun w' => w'.cell? ⟨w.heap.size, 3, none⟩ = some (.slice A 0 ca) ∧ w'.cell? ⟨w.heap.size, 4, none⟩ = some (.slice B 0 cb)) (go_keep) (fail)
          all_goals
            go_wp2
            go_ret
            exact ⟨rfl, HBW1.out.drew⟩
      · obtain rfl : s = [] := by have h := HT.out; rwa [if_neg (by decide)] at h
        obtain rfl : nk = 0 := HLF.out (by decide)
        obtain rfl : i = 0 := by have := HKD.out; omega
        have g0 := c1 0
        have g1 := c1 1
        have g2 := c1 2
        have g3 := c1 3
        simp at g0 g1 g2 g3
        have g4 := c1 4
        simp at g4
        go_wp2
        go_region_held3 (fun w' => w'.cell? ⟨w.heap.size, 3, none⟩ = some (.slice A 0 ca) ∧ w'.cell? ⟨w.heap.size, 4, none⟩ = some (.slice B 0 cb)) (go_keep) (fail)
        all_goals
          go_wp2
          go_ret
          exact ⟨rfl, HBW1.out.drew⟩
      · obtain rfl : n = 0 := by have := HN.out (by decide); omega
        obtain rfl : nk = 0 := HLF.out (by decide)
        obtain rfl : i = 0 := by have := HKD.out; omega
        have hV := fun W => rValid_is s W (show IsText s by have h := HT.out; rwa [if_pos rfl] at h)
        have HV := Lib.hid hV
        clear hV
        have g0 := c1 0
        have g1 := c1 1
        have g2 := c1 2
        have g3 := c1 3
        simp at g0 g1 g2 g3
        have g4 := c1 4
        simp at g4
        go_wp2
        go_region_held3 (fun w' => w'.cell? ⟨w.heap.size, 3, none⟩ = some (.slice A 0 ca) ∧ w'.cell? ⟨w.heap.size, 4, none⟩ = some (.slice B 0 cb)) (go_keep) (fail)
        all_goals
          go_wp2_with fail
          refine (HV.out _).mono ?_
          rintro e w2 ⟨rfl, hb2⟩
          have HB2 := Lib.hid (HBW1.out.drew.trans (hb2.mono HBW1.out.drew.size))
          clear hb2
          go_wp2
          go_ret
          exact ⟨rfl, HB2.out⟩
      · obtain rfl : n = 0 := by have := HN.out (by decide); omega
        obtain rfl : s = [] := by have h := HT.out; rwa [if_neg (by decide)] at h
        obtain rfl : i = 0 := by have := HKD.out; omega
        have g0 := c1 0
        have g1 := c1 1
        have g2 := c1 2
        have g3 := c1 3
        simp at g0 g1 g2 g3
        have g4 := c1 4
        simp at g4
        go_wp2
        go_region_held3 (fun w' => w'.cell? ⟨w.heap.size, 3, none⟩ = some (.slice A nk ca) ∧ w'.cell? ⟨w.heap.size, 4, none⟩ = some (.slice B 0 cb)) (go_keep) (fail)
        all_goals
          go_wp2
          go_ret
          exact ⟨rfl, HBW1.out.drew⟩
      · obtain rfl : n = 0 := by have := HN.out (by decide); omega
        obtain rfl : s = [] := by have h := HT.out; rwa [if_neg (by decide)] at h
        obtain rfl : i = nk := HK6.out rfl
        have g0 := c1 0
        have g1 := c1 1
        have g2 := c1 2
        have g3 := c1 3
        simp at g0 g1 g2 g3
        have g4 := c1 4
        simp at g4
        go_wp2
        go_region_held3 (fun w' => w'.cell? ⟨w.heap.size, 3, none⟩ = some (.slice A i ca) ∧ w'.cell? ⟨w.heap.size, 4, none⟩ = some (.slice B i cb)) (go_keep) (fail)
        all_goals
          go_wp2
          go_ret
          exact ⟨rfl, HBW1.out.drew⟩
end Go.Proofs.YtoejdhabpajhlaaGreatDoor

/- The walks of the reference davenportref04: within, Right, of a value that may be. -/
namespace Go.Proofs.YtoejdhabpajhlaaGreatDoor
set_option linter.unusedVariables false
set_option linter.unusedSimpArgs false
open Go.RowKit
attribute [local go_sem] run_index_arr run_part_agg run_part_one run_field_agg

/-- the five cells of a kid, as a walk reads them -/
theorem kid_cells {W : World} {F : Nat → Prop} {css : List (List Value)} {xs : List JV} {A : Option Addr} (h : VRs W F css xs) (hr : RdF W F A css.flatten) {i : Nat} {x : JV} (hx : xs[i]? = some x) :
    ∃ (b o : Nat) (k n : Int) (s : ByteArray) (A' : Option Addr) (na ca : Nat) (B' : Option Addr) (nb cb : Nat), A = some ⟨b, o, none⟩ ∧ b < W.heap.size ∧ VR W F [.int .i64 k, .int .i64 n, .string s, .slice A' na ca, .slice B' nb cb] x ∧
      ∀ W', Below W.heap.size W W' → W'.cell? ⟨b, o + i * 5, none⟩ = some (.int .i64 k) ∧ W'.cell? ⟨b, o + i * 5 + 1, none⟩ = some (.int .i64 n) ∧ W'.cell? ⟨b, o + i * 5 + 2, none⟩ = some (.string s) ∧ W'.cell? ⟨b, o + i * 5 + 3, none⟩ = some (.slice A' na ca) ∧ W'.cell? ⟨b, o + i * 5 + 4, none⟩ = some (.slice B' nb cb) := by
  obtain ⟨b, o, c, rfl, hb, _, hv, hc⟩ := h.cell hr hx
  obtain ⟨k, n, s, A', na, ca, B', nb, cb, rfl⟩ := hv.form
  refine ⟨b, o, k, n, s, A', na, ca, B', nb, cb, rfl, hb, hv, fun W' hW => ?_⟩
  have z := fun (j : Nat) u (hj : j < 5) hu => (hW.cell (p := ⟨b, o + (i * 5 + j), none⟩) hb).trans (hc j u hj hu)
  exact ⟨z 0 _ (by decide) rfl, z 1 _ (by decide) rfl, z 2 _ (by decide) rfl, z 3 _ (by decide) rfl, z 4 _ (by decide) rfl⟩
set_option maxRecDepth 100000 in
set_option maxHeartbeats 4000000 in
theorem rWithin_all : ∀ (N : Nat) (v : JV), nodesJ v ≤ N → ∀ (d most : Nat) (cs : List Value) (F : Nat → Prop) (w : World), VR w F cs v → rightJ d v → nodesJ v ≤ most → most ≤ 256 → d ≤ 8 →
    Calls Tryz.prog 27 #[.agg cs.toArray, .int .i64 d, .int .i64 most] w fun e w' => e = .returned (.int .i64 (nodesJ v)) ∧ Below w.heap.size w w'
  | 0, v, h, _, _, _, _, _, _, _, _, _, _ => by have := nodesJ_pos v; omega
  | N + 1, .mk k n s kids keys, hN, d, most, cs, F, w, hv, hR, hmost, hm, hd => by
    have ih := rWithin_all N
    unfold rightJ at hR
    obtain ⟨hal, hdd, hrk⟩ := hR
    unfold nodesJ at hN hmost ⊢
    have hkl : kids.length ≤ 256 := by have := nodesL_len kids; omega
    have hAL := fun W (h : Below w.heap.size w W) => rAlone_any cs k n s kids keys F W (hv.bel h) hal hkl
    obtain ⟨A, B, ca, cb, css, rfl, h1, h2, h3, h4, h5, h6, h7⟩ := hv.out
    have HIH := Lib.hid (fun (i : Nat) (x : JV) (hx : kids[i]? = some x) => kid_cells h1 h6 hx)
    have HRK := Lib.hid (rightL_iff.1 hrk)
    have HI := Lib.hid ih
    have HAL := Lib.hid hAL
    have hlf0 : k < 5 → kids.length = 0 := fun h => by rw [hal.leaf h]; rfl
    obtain ⟨nk, hnk⟩ : ∃ nk, kids.length = nk := ⟨_, rfl⟩
    obtain ⟨ny, hny⟩ : ∃ ny, keys.length = ny := ⟨_, rfl⟩
    rw [hnk, hny] at HAL
    rw [hnk] at h2 hkl hlf0 ⊢
    rw [hny] at h3 ⊢
    have HNK := Lib.hid hnk
    obtain ⟨T, hT⟩ : ∃ T, nodesL kids = T := ⟨_, rfl⟩
    have HT := Lib.hid hT
    rw [hT] at hN hmost ⊢
    have HLF := Lib.hid (show k < 5 → nk = 0 from hlf0)
    have HDD := Lib.hid hdd
    have HBW := Lib.hid ((Below.refl w.heap.size w).alloc (Nat.le_refl _) (.cells #[.int .i64 k, .int .i64 n, .string ⟨s.toArray⟩, .slice A nk ca, .slice B ny cb] 25))
    have hm1 : ¬ (most : Int) < 1 := by omega
    have hcs : (5 ≤ k ∧ ((d : Int) == 0) = false) ∨ ¬ 5 ≤ k := by
      by_cases h : 5 ≤ k
      · exact .inl ⟨h, by have := hdd h; simp; omega⟩
      · exact .inr h
    clear hv hal hrk h1 h4 h5 h6 h7 hnk hny hT ih hAL hlf0 hdd
    rcases hcs with ⟨h5, hdi⟩ | h5
    all_goals
      go_enter Tryz.func27, Tryz.ntmps27
      go_wp2_with fail
      refine (HAL.out _ HBW.out).mono ?_
      rintro e w1 ⟨rfl, hb1⟩
      have hbk := (Blk.new w 25 #[.int .i64 k, .int .i64 n, .string ⟨s.toArray⟩, .slice A nk ca, .slice B ny cb]).keep hb1
      have HB1 := Lib.hid (HBW.out.trans (hb1.mono HBW.out.size))
      obtain ⟨c1, f1, l1⟩ := hbk.rules
      have HBK := Lib.hid hbk
      clear hb1 hbk
      have z0 := c1 0
      simp at z0
      go_wp2
      clear c1 f1 l1 z0
      go_loopg [7, 8] nk (fun gk s7 s8 wr => ∃ i m1 : Nat, i ≤ nk ∧ gk = nk - i ∧ s7 = .int .i64 m1 ∧ s8 = .int .i64 i ∧ 1 ≤ m1 ∧ m1 ≤ most ∧ Hid (m1 = 1 + nodesL (kids.take i)) ∧ Hid (Blk wr w.heap.size 25 #[.int .i64 k, .int .i64 n, .string ⟨s.toArray⟩, .slice A nk ca, .slice B ny cb]) ∧ Hid (Below w.heap.size w wr))
      case atStart => exact ⟨0, 1, Nat.zero_le _, rfl, by go_num, by go_num, Nat.le_refl _, by omega, Lib.hid rfl, HBK, HB1⟩
      case round =>
        obtain ⟨i, m1, hi, hgk, rfl, rfl, hm0, hm9, HM, HBK, HB1⟩ := hrel
        have HG := Lib.hid hgk
        clear hgk
        obtain ⟨c1, f1, l1⟩ := HBK.out.rules
        have z3 := c1 3
        simp at z3
        by_cases hlt : i < nk
        · obtain ⟨x, hx⟩ : ∃ x, kids[i]? = some x := ⟨_, List.getElem?_eq_getElem (by rw [HNK.out]; exact hlt)⟩
          obtain ⟨b, o, k', n', s', A', na, ca', B', nb, cb', rfl, hb, hvx, hz⟩ := HIH.out i x hx
          obtain ⟨q0, q1, q2, q3, q4⟩ := hz _ HB1.out
          have hd1 : 1 ≤ d := by
            rcases (show 5 ≤ k ∨ k < 5 by omega) with h | h
            · have := HDD.out h; omega
            · have := HLF.out h; omega
          obtain ⟨hn1, hn2⟩ := nodesL_at hx
          have hn3 := HM.out
          have hn4 := HT.out
          have hcl := HI.out x (by omega) (d - 1) (most - m1) _ F _ (hvx.bel HB1.out) (HRK.out x (List.mem_of_getElem? hx)) (by omega) (by omega) (by omega)
          have hp := nodesJ_pos x
          obtain ⟨r, hr⟩ : ∃ r, nodesJ x = r := ⟨_, rfl⟩
          rw [hr, show (((d - 1 : Nat)) : Int) = (d : Int) - 1 by omega, show (((most - m1 : Nat)) : Int) = (most : Int) - (m1 : Int) by omega] at hcl
          rw [hr] at hn1 hn2 hp
          have HCL := Lib.hid hcl
          have HM2 := Lib.hid (show m1 + r = 1 + nodesL (kids.take (i + 1)) by omega)
          have hmr : m1 + r ≤ most := by omega
          have hr0 : ((r : Int) == 0) = false := by simp; omega
          clear hz hvx hx hcl hr hn1 hn2 hn3 hn4 HM
          go_wp2_with fail
          refine HCL.out.mono ?_
          rintro e w2 ⟨rfl, hb2⟩
          have HBK2 := Lib.hid (HBK.out.keep hb2)
          have HB2 := Lib.hid (HB1.out.trans (hb2.mono HB1.out.size))
          clear hb2
          go_wp2
          go_roundg (nk - (i + 1))
          case measure => rw [HG.out]; omega
          case rel => exact ⟨i + 1, m1 + r, hlt, rfl, by go_num, by go_num, by omega, hmr, HM2, HBK2, HB2⟩
        · obtain rfl : i = nk := by omega
          have hn3 := HM.out
          rw [List.take_of_length_le (by rw [HNK.out]; exact Nat.le_refl _), HT.out] at hn3
          subst hn3
          go_wp2
          go_ret
          exact ⟨rfl, HB1.out⟩
theorem rRight_any (v : JV) (cs : List Value) (F : Nat → Prop) (w : World) (hv : VR w F cs v) (hR : rightJ 8 v) (hn : nodesJ v ≤ 256) :
    Calls Tryz.prog 12 #[.agg cs.toArray] w fun e w' => e = .returned (.bool true) ∧ Below w.heap.size w w' := by
  have hW := fun W (h : Below w.heap.size w W) => rWithin_all _ v (Nat.le_refl _) 8 256 cs F W (hv.bel h) hR hn (Nat.le_refl _) (Nat.le_refl _)
  obtain ⟨k0, n0, s0, A0, na0, ca0, B0, nb0, cb0, rfl⟩ := hv.form
  have hp := nodesJ_pos v
  obtain ⟨r, hr⟩ : ∃ r, nodesJ v = r := ⟨_, rfl⟩
  rw [hr, show ((8 : Nat) : Int) = 8 from rfl, show ((256 : Nat) : Int) = 256 from rfl] at hW
  rw [hr] at hp
  have HW := Lib.hid hW
  have HBW := Lib.hid ((Below.refl w.heap.size w).alloc (Nat.le_refl _) (.cells #[.int .i64 k0, .int .i64 n0, .string s0, .slice A0 na0 ca0, .slice B0 nb0 cb0] 25))
  have hr1 : (0 : Int) < (r : Int) := by omega
  clear hW hr hv hR
  go_enter Tryz.func12, Tryz.ntmps12
  go_wp2_with fail
  refine (HW.out _ HBW.out).mono ?_
  rintro e w1 ⟨rfl, hb1⟩
  have HB1 := Lib.hid (HBW.out.trans (hb1.mono HBW.out.size))
  clear hb1
  go_wp2
  go_ret
  refine ⟨ret_bool ?_, HB1.out⟩
  simp; omega
end Go.Proofs.YtoejdhabpajhlaaGreatDoor
