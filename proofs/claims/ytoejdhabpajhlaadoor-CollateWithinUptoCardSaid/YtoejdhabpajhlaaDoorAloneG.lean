/- The walk of the reference davenportref04: alone, of any value. -/
import Derived.Test.YtoejdhabpajhlaaDoorShapeG
import Derived.Deep.RegionHeld3
namespace Go.Proofs.YtoejdhabpajhlaaDoor
set_option linter.unusedVariables false
set_option linter.unusedSimpArgs false
open Go.RowKit
attribute [local go_sem] run_index_arr run_part_agg run_part_one run_field_agg
theorem str_nil (s : List UInt8) : (ByteArray.toList ⟨s.toArray⟩).isEmpty = (s == []) := by
  rw [ByteArray.toList_eq]
  cases s <;> rfl
set_option maxRecDepth 100000 in
set_option maxHeartbeats 4000000 in
theorem rAloneG (cs : List Value) (k n : Int) (s : List UInt8) (kids : List JV) (keys : List (List UInt8)) (F : Nat → Prop) (w : World) (hv : VR w F cs (.mk k n s kids keys)) (hc : Came (.mk k n s kids keys)) :
    Calls Tryd.prog 92 #[.agg cs.toArray] w (BoolS (goodA k n s kids.length keys) w) := by
  obtain ⟨A, B, ca, cb, css, rfl, h1, h2, h3, h4, h5, h6, h7⟩ := hv.out
  obtain ⟨b1, b2, b3, b4, b5, b6, b7⟩ := hc.out
  obtain ⟨sb, hsb⟩ : ∃ sb : ByteArray, (⟨s.toArray⟩ : ByteArray) = sb := ⟨_, rfl⟩
  rw [hsb]
  have HSN := Lib.hid (show sb.toList.isEmpty = (s == []) by rw [← hsb]; exact str_nil s)
  have HVS := Lib.hid (fun W => by have h := rValid_any s W b3; rw [hsb] at h; exact h)
  clear hsb
  obtain ⟨r, hr⟩ : ∃ r, goodA k n s kids.length keys = r := ⟨_, rfl⟩
  rw [hr]
  have HK := Lib.hid (show RdF w (fun _ => True) B (strV keys) from h7.mono fun _ _ _ => trivial)
  have HTS := Lib.hid b6
  have HS := Lib.hid b3
  obtain ⟨ny, hny⟩ : ∃ ny, keys.length = ny := ⟨_, rfl⟩
  obtain ⟨nk, hnk⟩ : ∃ nk, kids.length = nk := ⟨_, rfl⟩
  have HNY := Lib.hid hny
  rw [hnk] at hr b4 h2 ⊢
  rw [hny] at b5 h3 ⊢
  have HR := Lib.hid hr
  have hyn : (keys == []) = decide (ny = 0) := by rw [← hny]; cases keys <;> rfl
  have HYN := Lib.hid hyn
  have HBW := Lib.hid ((Below.refl w.heap.size w).alloc (Nat.le_refl _) (.cells #[.int .i64 k, .int .i64 n, .string sb, .slice A nk ca, .slice B ny cb] 28))
  clear hv hc h1 h6 h7 hny hnk h4 h5 b1 b2 b3 b6 b7 hr hyn
  go_enter Tryd.func92, Tryd.ntmps92
  go_wp2
  go_loopg [3] ny (fun gk s3 wr => ∃ i : Nat, i ≤ ny ∧ gk = ny - i ∧ s3 = .int .i64 i ∧ Blk wr w.heap.size 28 #[.int .i64 k, .int .i64 n, .string sb, .slice A nk ca, .slice B ny cb] ∧ Below w.heap.size w wr ∧ Hid (keysOk keys = keysAt keys i))
  case atStart => exact ⟨0, Nat.zero_le _, rfl, rfl, Blk.new w _ _, HBW.out, Lib.hid (keysAt_0 keys).symm⟩
  case round =>
    obtain ⟨i, hi, hgk, rfl, hb1, hbw, HQ⟩ := hrel
    have HG := Lib.hid hgk
    clear hgk
    obtain ⟨c1, f1, l1⟩ := hb1.rules
    have g4 := c1 4
    simp at g4
    have HB1 := Lib.hid hb1
    have HBW1 := Lib.hid hbw
    by_cases hlt : i < ny
    · obtain ⟨b, o, rfl, hb⟩ := strV_some HK.out (by rw [HNY.out]; omega)
      obtain ⟨t, ht⟩ : ∃ t, keys[i]? = some t := ⟨_, List.getElem?_eq_getElem (by rw [HNY.out]; exact hlt)⟩
      have HV := Lib.hid (rValid_any t wr.drew (HTS.out t (List.mem_of_getElem? ht)))
      have HC := Lib.hid (fun W (h : Below w.heap.size w W) => strV_cell (n := 0) (HK.out.keep (KeepF.of_below h)) ht)
      have x0 := HC.out wr hbw
      have hTT := Lib.hid ht
      have hbad : keysOk keys = false → r = false := fun h => by
        rw [← HR.out]
        unfold goodA
        have hne : (keys == []) = false := by rw [HYN.out]; simp; omega
        rw [h, hne]
        simp
      have HBAD := Lib.hid hbad
      clear ht hbad
      by_cases h0 : 0 < i
      · obtain ⟨j, rfl⟩ : ∃ j, i = j + 1 := ⟨i - 1, by omega⟩
        obtain ⟨u, hu⟩ : ∃ u, keys[j]? = some u := ⟨_, List.getElem?_eq_getElem (by rw [HNY.out]; omega)⟩
        have HST := Lib.hid (keysAt_step hu hTT.out)
        have HD := Lib.hid (fun W (h : Below w.heap.size w W) => strV_cell (n := 0) (HK.out.keep (KeepF.of_below h)) hu)
        have x1 := HD.out wr hbw
        clear hTT hu
        obtain ⟨i, hij⟩ : ∃ i, j + 1 = i := ⟨_, rfl⟩
        rw [show j + 2 = i + 1 by omega] at HST
        rw [hij] at hi HG hlt HQ HST HC x0 h0 ⊢
        have i1 : (0 : Int) ≤ (j : Int) := by omega
        have i2 : (j : Int) < (ny : Int) := by omega
        have i3 : (0 : Int) ≤ (i : Int) := by omega
        have i4 : (i : Int) < (ny : Int) := by omega
        have i5 : (0 : Int) < (i : Int) := by omega
        have i6 : IntKind.i64.wrap ((i : Int) - 1) = (i : Int) - 1 := IntWalk.i64_in _ (by omega)
        have i8 : (0 : Int) ≤ (i : Int) - 1 := by omega
        have i9 : (i : Int) - 1 < (ny : Int) := by omega
        have i10 : ((i : Int) - 1).toNat = j := by omega
        have i11 : ¬ (i : Int) < 1 := by omega
        clear hij
        by_cases htx : txtOk t = true
        · rw [htx] at HV
          by_cases hlb : ltB u t = true
          · have hup : Op.bytesLess u t = true := hlb
            have HQ2 := Lib.hid (show keysOk keys = keysAt keys (i + 1) by rw [HQ.out, HST.out, htx, hlb]; rfl)
            clear htx hlb
            go_wp2
            refine wp_region_held_drew (S := fun w' => w'.cell? ⟨w.heap.size, 4, none⟩ = some (.slice (some ⟨b, o, none⟩) ny cb) ∧ w'.cell? ⟨b, o + i, none⟩ = some (.string ⟨t.toArray⟩) ∧ w'.cell? ⟨b, o + j, none⟩ = some (.string ⟨u.toArray⟩)) (by kernel_rfl) (by exact ⟨g4, x0, x1⟩) (fun hHeld => ?_)
            refine wpAnyH_take (i := 0) (oi := ⟨some 13, _, _, _, _, _⟩) (v := .pointer (some ⟨w.heap.size, 4, none⟩)) rfl (by kernel_rfl) (by kernel_rfl) (by kernel_rfl) (fun _ _ _ h => h) (Or.inl ⟨by kernel_rfl, ?_⟩) (by assumption) ?_
            · intro w hSw; (try dsimp only at hSw); go_simp
            try simp only [Act.put, List.setIfInBounds_toArray, List.set_cons_zero, List.set_cons_succ]
            refine wpAnyH_take (i := 1) (oi := ⟨some 14, _, _, _, _, _⟩) (v := .slice (some ⟨b, o, none⟩) ny cb) rfl (by kernel_rfl) (by kernel_rfl) (by kernel_rfl) (fun _ _ _ h => h) (Or.inl ⟨by kernel_rfl, ?_⟩) (by assumption) ?_
            · intro w hSw; (try dsimp only at hSw); go_simp
            try simp only [Act.put, List.setIfInBounds_toArray, List.set_cons_zero, List.set_cons_succ]
            refine wpAnyH_take (i := 2) (oi := ⟨some 15, _, _, _, _, _⟩) (v := .int .i64 i) rfl (by kernel_rfl) (by kernel_rfl) (by kernel_rfl) (fun _ _ _ h => h) (Or.inl ⟨by kernel_rfl, ?_⟩) (by assumption) ?_
            · intro w hSw; (try dsimp only at hSw); go_simp
            try simp only [Act.put, List.setIfInBounds_toArray, List.set_cons_zero, List.set_cons_succ]
            refine wpAnyH_take (i := 3) (oi := ⟨some 16, _, _, _, _, _⟩) (v := .pointer (some ⟨b, o + i, none⟩)) rfl (by kernel_rfl) (by kernel_rfl) (by kernel_rfl) (fun _ _ _ h => h) (Or.inl ⟨by kernel_rfl, ?_⟩) (by assumption) ?_
            · intro w hSw; (try dsimp only at hSw); go_simp
            try simp only [Act.put, List.setIfInBounds_toArray, List.set_cons_zero, List.set_cons_succ]
            refine wpAnyH_take (i := 4) (oi := ⟨some 17, _, _, _, _, _⟩) (v := .string ⟨t.toArray⟩) rfl (by kernel_rfl) (by kernel_rfl) (by kernel_rfl) (fun _ _ _ h => h) (Or.inl ⟨by kernel_rfl, ?_⟩) (by assumption) ?_
            · intro w hSw; (try dsimp only at hSw); go_simp
            try simp only [Act.put, List.setIfInBounds_toArray, List.set_cons_zero, List.set_cons_succ]
            refine wpAnyH_ready (rs := [5]) (by kernel_rfl) (by simp) ?_
            refine AllReadyH.cons (o := ⟨some 18, _, _, _, _, _⟩) rfl (fun K hK => ?_) AllReadyH.nil
            go_simp
            refine HV.out.mono ?_
            rintro e w2 ⟨rfl, hb2⟩
            have hbl2 := HB1.out.drew.keep hb2
            have hbw2 := HBW1.out.drew.trans (hb2.mono HBW1.out.drew.size)
            have z0 := hbl2.cell 4
            have z1 := HC.out w2 hbw2
            have z2 := HD.out w2 hbw2
            simp at z0
            refine hK.out _ _ (⟨z0, z1, z2⟩) (fun hHeld2 => ?_)
            clear hK K hHeld
            try simp only [Act.put, List.setIfInBounds_toArray, List.set_cons_zero, List.set_cons_succ]
            refine wpAnyH_take (i := 6) (oi := ⟨some 19, _, _, _, _, _⟩) (v := .bool false) rfl (by kernel_rfl) (by kernel_rfl) (by kernel_rfl) (fun _ _ _ h => h) (Or.inl ⟨by kernel_rfl, ?_⟩) (by assumption) ?_
            · intro w hSw; (try dsimp only at hSw); go_simp
            try simp only [Act.put, List.setIfInBounds_toArray, List.set_cons_zero, List.set_cons_succ]
            refine wpAnyH_take (i := 7) (oi := ⟨some 20, _, _, _, _, _⟩) (v := .bool false) rfl (by kernel_rfl) (by kernel_rfl) (by kernel_rfl) (fun _ _ _ h => h) (Or.inl ⟨by kernel_rfl, ?_⟩) (by assumption) ?_
            · intro w hSw; (try dsimp only at hSw); go_simp
            try simp only [Act.put, List.setIfInBounds_toArray, List.set_cons_zero, List.set_cons_succ]
            refine wpAnyH_take (i := 8) (oi := ⟨some 21, _, _, _, _, _⟩) (v := .int .i64 i) rfl (by kernel_rfl) (by kernel_rfl) (by kernel_rfl) (fun _ _ _ h => h) (Or.inl ⟨by kernel_rfl, ?_⟩) (by assumption) ?_
            · intro w hSw; (try dsimp only at hSw); go_simp
            try simp only [Act.put, List.setIfInBounds_toArray, List.set_cons_zero, List.set_cons_succ]
            refine wpAnyH_take (i := 9) (oi := ⟨some 22, _, _, _, _, _⟩) (v := .bool true) rfl (by kernel_rfl) (by kernel_rfl) (by kernel_rfl) (fun _ _ _ h => h) (Or.inl ⟨by kernel_rfl, ?_⟩) (by assumption) ?_
            · intro w hSw; (try dsimp only at hSw); go_simp
            try simp only [Act.put, List.setIfInBounds_toArray, List.set_cons_zero, List.set_cons_succ]
            refine wpAnyH_take (i := 10) (oi := ⟨some 23, _, _, _, _, _⟩) (v := .bool true) rfl (by kernel_rfl) (by kernel_rfl) (by kernel_rfl) (fun _ _ _ h => h) (Or.inl ⟨by kernel_rfl, ?_⟩) (by assumption) ?_
            · intro w hSw; (try dsimp only at hSw); go_simp
            try simp only [Act.put, List.setIfInBounds_toArray, List.set_cons_zero, List.set_cons_succ]
            refine wpAnyH_take (i := 11) (oi := ⟨some 24, _, _, _, _, _⟩) (v := .pointer (some ⟨w.heap.size, 4, none⟩)) rfl (by kernel_rfl) (by kernel_rfl) (by kernel_rfl) (fun _ _ _ h => h) (Or.inl ⟨by kernel_rfl, ?_⟩) (by assumption) ?_
            · intro w hSw; (try dsimp only at hSw); go_simp
            try simp only [Act.put, List.setIfInBounds_toArray, List.set_cons_zero, List.set_cons_succ]
            refine wpAnyH_take (i := 12) (oi := ⟨some 25, _, _, _, _, _⟩) (v := .slice (some ⟨b, o, none⟩) ny cb) rfl (by kernel_rfl) (by kernel_rfl) (by kernel_rfl) (fun _ _ _ h => h) (Or.inl ⟨by kernel_rfl, ?_⟩) (by assumption) ?_
            · intro w hSw; (try dsimp only at hSw); go_simp
            try simp only [Act.put, List.setIfInBounds_toArray, List.set_cons_zero, List.set_cons_succ]
            refine wpAnyH_take (i := 13) (oi := ⟨some 26, _, _, _, _, _⟩) (v := .int .i64 i) rfl (by kernel_rfl) (by kernel_rfl) (by kernel_rfl) (fun _ _ _ h => h) (Or.inl ⟨by kernel_rfl, ?_⟩) (by assumption) ?_
            · intro w hSw; (try dsimp only at hSw); go_simp
            try simp only [Act.put, List.setIfInBounds_toArray, List.set_cons_zero, List.set_cons_succ]
            refine wpAnyH_take (i := 14) (oi := ⟨some 27, _, _, _, _, _⟩) (v := .int .i64 ((i : Int) - 1)) rfl (by kernel_rfl) (by kernel_rfl) (by kernel_rfl) (fun _ _ _ h => h) (Or.inl ⟨by kernel_rfl, ?_⟩) (by assumption) ?_
            · intro w hSw; (try dsimp only at hSw); go_simp
            try simp only [Act.put, List.setIfInBounds_toArray, List.set_cons_zero, List.set_cons_succ]
            refine wpAnyH_take (i := 15) (oi := ⟨some 28, _, _, _, _, _⟩) (v := .pointer (some ⟨b, o + j, none⟩)) rfl (by kernel_rfl) (by kernel_rfl) (by kernel_rfl) (fun _ _ _ h => h) (Or.inl ⟨by kernel_rfl, ?_⟩) (by assumption) ?_
            · intro w hSw; (try dsimp only at hSw); go_simp
            try simp only [Act.put, List.setIfInBounds_toArray, List.set_cons_zero, List.set_cons_succ]
            refine wpAnyH_take (i := 16) (oi := ⟨some 29, _, _, _, _, _⟩) (v := .string ⟨u.toArray⟩) rfl (by kernel_rfl) (by kernel_rfl) (by kernel_rfl) (fun _ _ _ h => h) (Or.inl ⟨by kernel_rfl, ?_⟩) (by assumption) ?_
            · intro w hSw; (try dsimp only at hSw); go_simp
            try simp only [Act.put, List.setIfInBounds_toArray, List.set_cons_zero, List.set_cons_succ]
            refine wpAnyH_take (i := 17) (oi := ⟨some 30, _, _, _, _, _⟩) (v := .pointer (some ⟨w.heap.size, 4, none⟩)) rfl (by kernel_rfl) (by kernel_rfl) (by kernel_rfl) (fun _ _ _ h => h) (Or.inl ⟨by kernel_rfl, ?_⟩) (by assumption) ?_
            · intro w hSw; (try dsimp only at hSw); go_simp
            try simp only [Act.put, List.setIfInBounds_toArray, List.set_cons_zero, List.set_cons_succ]
            refine wpAnyH_take (i := 18) (oi := ⟨some 31, _, _, _, _, _⟩) (v := .slice (some ⟨b, o, none⟩) ny cb) rfl (by kernel_rfl) (by kernel_rfl) (by kernel_rfl) (fun _ _ _ h => h) (Or.inl ⟨by kernel_rfl, ?_⟩) (by assumption) ?_
            · intro w hSw; (try dsimp only at hSw); go_simp
            try simp only [Act.put, List.setIfInBounds_toArray, List.set_cons_zero, List.set_cons_succ]
            refine wpAnyH_take (i := 19) (oi := ⟨some 32, _, _, _, _, _⟩) (v := .int .i64 i) rfl (by kernel_rfl) (by kernel_rfl) (by kernel_rfl) (fun _ _ _ h => h) (Or.inl ⟨by kernel_rfl, ?_⟩) (by assumption) ?_
            · intro w hSw; (try dsimp only at hSw); go_simp
            try simp only [Act.put, List.setIfInBounds_toArray, List.set_cons_zero, List.set_cons_succ]
            refine wpAnyH_take (i := 20) (oi := ⟨some 33, _, _, _, _, _⟩) (v := .pointer (some ⟨b, o + i, none⟩)) rfl (by kernel_rfl) (by kernel_rfl) (by kernel_rfl) (fun _ _ _ h => h) (Or.inl ⟨by kernel_rfl, ?_⟩) (by assumption) ?_
            · intro w hSw; (try dsimp only at hSw); go_simp
            try simp only [Act.put, List.setIfInBounds_toArray, List.set_cons_zero, List.set_cons_succ]
            refine wpAnyH_take (i := 21) (oi := ⟨some 34, _, _, _, _, _⟩) (v := .string ⟨t.toArray⟩) rfl (by kernel_rfl) (by kernel_rfl) (by kernel_rfl) (fun _ _ _ h => h) (Or.inl ⟨by kernel_rfl, ?_⟩) (by assumption) ?_
            · intro w hSw; (try dsimp only at hSw); go_simp
            try simp only [Act.put, List.setIfInBounds_toArray, List.set_cons_zero, List.set_cons_succ]
            refine wpAnyH_take (i := 22) (oi := ⟨some 35, _, _, _, _, _⟩) (v := .bool false) rfl (by kernel_rfl) (by kernel_rfl) (by kernel_rfl) (fun _ _ _ h => h) (Or.inl ⟨by kernel_rfl, ?_⟩) (by assumption) ?_
            · intro w hSw; (try dsimp only at hSw); go_simp
            try simp only [Act.put, List.setIfInBounds_toArray, List.set_cons_zero, List.set_cons_succ]
            refine wpAnyH_take (i := 23) (oi := ⟨some 36, _, _, _, _, _⟩) (v := .bool false) rfl (by kernel_rfl) (by kernel_rfl) (by kernel_rfl) (fun _ _ _ h => h) (Or.inl ⟨by kernel_rfl, ?_⟩) (by assumption) ?_
            · intro w hSw; (try dsimp only at hSw); go_simp
            try simp only [Act.put, List.setIfInBounds_toArray, List.set_cons_zero, List.set_cons_succ]
            refine wpAnyH_take (i := 24) (oi := ⟨some 37, _, _, _, _, _⟩) (v := .bool false) rfl (by kernel_rfl) (by kernel_rfl) (by kernel_rfl) (fun _ _ _ h => h) (Or.inl ⟨by kernel_rfl, ?_⟩) (by assumption) ?_
            · intro w hSw; (try dsimp only at hSw); go_simp
            try simp only [Act.put, List.setIfInBounds_toArray, List.set_cons_zero, List.set_cons_succ]
            refine wpAnyH_done (by kernel_rfl) ?_ _
            have HL2 := Lib.hid hbl2
            have HM2 := Lib.hid hbw2
            clear hbl2 hbw2 z0 z1 z2
            go_wp2
            go_roundg (ny - (i + 1))
            case measure => rw [HG.out]; omega
            case rel => exact ⟨i + 1, hlt, rfl, by go_num, HL2.out, HM2.out, HQ2⟩
          · have hup : Op.bytesLess u t = false := Bool.eq_false_iff.2 hlb
            obtain rfl : r = false := HBAD.out (by rw [HQ.out, HST.out, htx, Bool.eq_false_iff.2 hlb]; rfl)
            clear htx hlb
            go_wp2
            refine wp_region_held_drew (S := fun w' => w'.cell? ⟨w.heap.size, 4, none⟩ = some (.slice (some ⟨b, o, none⟩) ny cb) ∧ w'.cell? ⟨b, o + i, none⟩ = some (.string ⟨t.toArray⟩) ∧ w'.cell? ⟨b, o + j, none⟩ = some (.string ⟨u.toArray⟩)) (by kernel_rfl) (by exact ⟨g4, x0, x1⟩) (fun hHeld => ?_)
            refine wpAnyH_take (i := 0) (oi := ⟨some 13, _, _, _, _, _⟩) (v := .pointer (some ⟨w.heap.size, 4, none⟩)) rfl (by kernel_rfl) (by kernel_rfl) (by kernel_rfl) (fun _ _ _ h => h) (Or.inl ⟨by kernel_rfl, ?_⟩) (by assumption) ?_
            · intro w hSw; (try dsimp only at hSw); go_simp
            try simp only [Act.put, List.setIfInBounds_toArray, List.set_cons_zero, List.set_cons_succ]
            refine wpAnyH_take (i := 1) (oi := ⟨some 14, _, _, _, _, _⟩) (v := .slice (some ⟨b, o, none⟩) ny cb) rfl (by kernel_rfl) (by kernel_rfl) (by kernel_rfl) (fun _ _ _ h => h) (Or.inl ⟨by kernel_rfl, ?_⟩) (by assumption) ?_
            · intro w hSw; (try dsimp only at hSw); go_simp
            try simp only [Act.put, List.setIfInBounds_toArray, List.set_cons_zero, List.set_cons_succ]
            refine wpAnyH_take (i := 2) (oi := ⟨some 15, _, _, _, _, _⟩) (v := .int .i64 i) rfl (by kernel_rfl) (by kernel_rfl) (by kernel_rfl) (fun _ _ _ h => h) (Or.inl ⟨by kernel_rfl, ?_⟩) (by assumption) ?_
            · intro w hSw; (try dsimp only at hSw); go_simp
            try simp only [Act.put, List.setIfInBounds_toArray, List.set_cons_zero, List.set_cons_succ]
            refine wpAnyH_take (i := 3) (oi := ⟨some 16, _, _, _, _, _⟩) (v := .pointer (some ⟨b, o + i, none⟩)) rfl (by kernel_rfl) (by kernel_rfl) (by kernel_rfl) (fun _ _ _ h => h) (Or.inl ⟨by kernel_rfl, ?_⟩) (by assumption) ?_
            · intro w hSw; (try dsimp only at hSw); go_simp
            try simp only [Act.put, List.setIfInBounds_toArray, List.set_cons_zero, List.set_cons_succ]
            refine wpAnyH_take (i := 4) (oi := ⟨some 17, _, _, _, _, _⟩) (v := .string ⟨t.toArray⟩) rfl (by kernel_rfl) (by kernel_rfl) (by kernel_rfl) (fun _ _ _ h => h) (Or.inl ⟨by kernel_rfl, ?_⟩) (by assumption) ?_
            · intro w hSw; (try dsimp only at hSw); go_simp
            try simp only [Act.put, List.setIfInBounds_toArray, List.set_cons_zero, List.set_cons_succ]
            refine wpAnyH_ready (rs := [5]) (by kernel_rfl) (by simp) ?_
            refine AllReadyH.cons (o := ⟨some 18, _, _, _, _, _⟩) rfl (fun K hK => ?_) AllReadyH.nil
            go_simp
            refine HV.out.mono ?_
            rintro e w2 ⟨rfl, hb2⟩
            have hbl2 := HB1.out.drew.keep hb2
            have hbw2 := HBW1.out.drew.trans (hb2.mono HBW1.out.drew.size)
            have z0 := hbl2.cell 4
            have z1 := HC.out w2 hbw2
            have z2 := HD.out w2 hbw2
            simp at z0
            refine hK.out _ _ (⟨z0, z1, z2⟩) (fun hHeld2 => ?_)
            clear hK K hHeld
            try simp only [Act.put, List.setIfInBounds_toArray, List.set_cons_zero, List.set_cons_succ]
            refine wpAnyH_take (i := 6) (oi := ⟨some 19, _, _, _, _, _⟩) (v := .bool false) rfl (by kernel_rfl) (by kernel_rfl) (by kernel_rfl) (fun _ _ _ h => h) (Or.inl ⟨by kernel_rfl, ?_⟩) (by assumption) ?_
            · intro w hSw; (try dsimp only at hSw); go_simp
            try simp only [Act.put, List.setIfInBounds_toArray, List.set_cons_zero, List.set_cons_succ]
            refine wpAnyH_take (i := 7) (oi := ⟨some 20, _, _, _, _, _⟩) (v := .bool false) rfl (by kernel_rfl) (by kernel_rfl) (by kernel_rfl) (fun _ _ _ h => h) (Or.inl ⟨by kernel_rfl, ?_⟩) (by assumption) ?_
            · intro w hSw; (try dsimp only at hSw); go_simp
            try simp only [Act.put, List.setIfInBounds_toArray, List.set_cons_zero, List.set_cons_succ]
            refine wpAnyH_take (i := 8) (oi := ⟨some 21, _, _, _, _, _⟩) (v := .int .i64 i) rfl (by kernel_rfl) (by kernel_rfl) (by kernel_rfl) (fun _ _ _ h => h) (Or.inl ⟨by kernel_rfl, ?_⟩) (by assumption) ?_
            · intro w hSw; (try dsimp only at hSw); go_simp
            try simp only [Act.put, List.setIfInBounds_toArray, List.set_cons_zero, List.set_cons_succ]
            refine wpAnyH_take (i := 9) (oi := ⟨some 22, _, _, _, _, _⟩) (v := .bool true) rfl (by kernel_rfl) (by kernel_rfl) (by kernel_rfl) (fun _ _ _ h => h) (Or.inl ⟨by kernel_rfl, ?_⟩) (by assumption) ?_
            · intro w hSw; (try dsimp only at hSw); go_simp
            try simp only [Act.put, List.setIfInBounds_toArray, List.set_cons_zero, List.set_cons_succ]
            refine wpAnyH_take (i := 10) (oi := ⟨some 23, _, _, _, _, _⟩) (v := .bool true) rfl (by kernel_rfl) (by kernel_rfl) (by kernel_rfl) (fun _ _ _ h => h) (Or.inl ⟨by kernel_rfl, ?_⟩) (by assumption) ?_
            · intro w hSw; (try dsimp only at hSw); go_simp
            try simp only [Act.put, List.setIfInBounds_toArray, List.set_cons_zero, List.set_cons_succ]
            refine wpAnyH_take (i := 11) (oi := ⟨some 24, _, _, _, _, _⟩) (v := .pointer (some ⟨w.heap.size, 4, none⟩)) rfl (by kernel_rfl) (by kernel_rfl) (by kernel_rfl) (fun _ _ _ h => h) (Or.inl ⟨by kernel_rfl, ?_⟩) (by assumption) ?_
            · intro w hSw; (try dsimp only at hSw); go_simp
            try simp only [Act.put, List.setIfInBounds_toArray, List.set_cons_zero, List.set_cons_succ]
            refine wpAnyH_take (i := 12) (oi := ⟨some 25, _, _, _, _, _⟩) (v := .slice (some ⟨b, o, none⟩) ny cb) rfl (by kernel_rfl) (by kernel_rfl) (by kernel_rfl) (fun _ _ _ h => h) (Or.inl ⟨by kernel_rfl, ?_⟩) (by assumption) ?_
            · intro w hSw; (try dsimp only at hSw); go_simp
            try simp only [Act.put, List.setIfInBounds_toArray, List.set_cons_zero, List.set_cons_succ]
            refine wpAnyH_take (i := 13) (oi := ⟨some 26, _, _, _, _, _⟩) (v := .int .i64 i) rfl (by kernel_rfl) (by kernel_rfl) (by kernel_rfl) (fun _ _ _ h => h) (Or.inl ⟨by kernel_rfl, ?_⟩) (by assumption) ?_
            · intro w hSw; (try dsimp only at hSw); go_simp
            try simp only [Act.put, List.setIfInBounds_toArray, List.set_cons_zero, List.set_cons_succ]
            refine wpAnyH_take (i := 14) (oi := ⟨some 27, _, _, _, _, _⟩) (v := .int .i64 ((i : Int) - 1)) rfl (by kernel_rfl) (by kernel_rfl) (by kernel_rfl) (fun _ _ _ h => h) (Or.inl ⟨by kernel_rfl, ?_⟩) (by assumption) ?_
            · intro w hSw; (try dsimp only at hSw); go_simp
            try simp only [Act.put, List.setIfInBounds_toArray, List.set_cons_zero, List.set_cons_succ]
            refine wpAnyH_take (i := 15) (oi := ⟨some 28, _, _, _, _, _⟩) (v := .pointer (some ⟨b, o + j, none⟩)) rfl (by kernel_rfl) (by kernel_rfl) (by kernel_rfl) (fun _ _ _ h => h) (Or.inl ⟨by kernel_rfl, ?_⟩) (by assumption) ?_
            · intro w hSw; (try dsimp only at hSw); go_simp
            try simp only [Act.put, List.setIfInBounds_toArray, List.set_cons_zero, List.set_cons_succ]
            refine wpAnyH_take (i := 16) (oi := ⟨some 29, _, _, _, _, _⟩) (v := .string ⟨u.toArray⟩) rfl (by kernel_rfl) (by kernel_rfl) (by kernel_rfl) (fun _ _ _ h => h) (Or.inl ⟨by kernel_rfl, ?_⟩) (by assumption) ?_
            · intro w hSw; (try dsimp only at hSw); go_simp
            try simp only [Act.put, List.setIfInBounds_toArray, List.set_cons_zero, List.set_cons_succ]
            refine wpAnyH_take (i := 17) (oi := ⟨some 30, _, _, _, _, _⟩) (v := .pointer (some ⟨w.heap.size, 4, none⟩)) rfl (by kernel_rfl) (by kernel_rfl) (by kernel_rfl) (fun _ _ _ h => h) (Or.inl ⟨by kernel_rfl, ?_⟩) (by assumption) ?_
            · intro w hSw; (try dsimp only at hSw); go_simp
            try simp only [Act.put, List.setIfInBounds_toArray, List.set_cons_zero, List.set_cons_succ]
            refine wpAnyH_take (i := 18) (oi := ⟨some 31, _, _, _, _, _⟩) (v := .slice (some ⟨b, o, none⟩) ny cb) rfl (by kernel_rfl) (by kernel_rfl) (by kernel_rfl) (fun _ _ _ h => h) (Or.inl ⟨by kernel_rfl, ?_⟩) (by assumption) ?_
            · intro w hSw; (try dsimp only at hSw); go_simp
            try simp only [Act.put, List.setIfInBounds_toArray, List.set_cons_zero, List.set_cons_succ]
            refine wpAnyH_take (i := 19) (oi := ⟨some 32, _, _, _, _, _⟩) (v := .int .i64 i) rfl (by kernel_rfl) (by kernel_rfl) (by kernel_rfl) (fun _ _ _ h => h) (Or.inl ⟨by kernel_rfl, ?_⟩) (by assumption) ?_
            · intro w hSw; (try dsimp only at hSw); go_simp
            try simp only [Act.put, List.setIfInBounds_toArray, List.set_cons_zero, List.set_cons_succ]
            refine wpAnyH_take (i := 20) (oi := ⟨some 33, _, _, _, _, _⟩) (v := .pointer (some ⟨b, o + i, none⟩)) rfl (by kernel_rfl) (by kernel_rfl) (by kernel_rfl) (fun _ _ _ h => h) (Or.inl ⟨by kernel_rfl, ?_⟩) (by assumption) ?_
            · intro w hSw; (try dsimp only at hSw); go_simp
            try simp only [Act.put, List.setIfInBounds_toArray, List.set_cons_zero, List.set_cons_succ]
            refine wpAnyH_take (i := 21) (oi := ⟨some 34, _, _, _, _, _⟩) (v := .string ⟨t.toArray⟩) rfl (by kernel_rfl) (by kernel_rfl) (by kernel_rfl) (fun _ _ _ h => h) (Or.inl ⟨by kernel_rfl, ?_⟩) (by assumption) ?_
            · intro w hSw; (try dsimp only at hSw); go_simp
            try simp only [Act.put, List.setIfInBounds_toArray, List.set_cons_zero, List.set_cons_succ]
            refine wpAnyH_take (i := 22) (oi := ⟨some 35, _, _, _, _, _⟩) (v := .bool true) rfl (by kernel_rfl) (by kernel_rfl) (by kernel_rfl) (fun _ _ _ h => h) (Or.inl ⟨by kernel_rfl, ?_⟩) (by assumption) ?_
            · intro w hSw; (try dsimp only at hSw); go_simp
            try simp only [Act.put, List.setIfInBounds_toArray, List.set_cons_zero, List.set_cons_succ]
            refine wpAnyH_take (i := 23) (oi := ⟨some 36, _, _, _, _, _⟩) (v := .bool true) rfl (by kernel_rfl) (by kernel_rfl) (by kernel_rfl) (fun _ _ _ h => h) (Or.inl ⟨by kernel_rfl, ?_⟩) (by assumption) ?_
            · intro w hSw; (try dsimp only at hSw); go_simp
            try simp only [Act.put, List.setIfInBounds_toArray, List.set_cons_zero, List.set_cons_succ]
            refine wpAnyH_take (i := 24) (oi := ⟨some 37, _, _, _, _, _⟩) (v := .bool true) rfl (by kernel_rfl) (by kernel_rfl) (by kernel_rfl) (fun _ _ _ h => h) (Or.inl ⟨by kernel_rfl, ?_⟩) (by assumption) ?_
            · intro w hSw; (try dsimp only at hSw); go_simp
            try simp only [Act.put, List.setIfInBounds_toArray, List.set_cons_zero, List.set_cons_succ]
            refine wpAnyH_done (by kernel_rfl) ?_ _
            have HM2 := Lib.hid hbw2
            clear hbl2 hbw2 z0 z1 z2
            go_wp2
            go_ret
            exact ⟨rfl, HM2.out⟩
        · rw [Bool.eq_false_iff.2 htx] at HV
          obtain rfl : r = false := HBAD.out (by rw [HQ.out, HST.out, Bool.eq_false_iff.2 htx]; rfl)
          clear htx
          go_wp2
          refine wp_region_held_drew (S := fun w' => w'.cell? ⟨w.heap.size, 4, none⟩ = some (.slice (some ⟨b, o, none⟩) ny cb) ∧ w'.cell? ⟨b, o + i, none⟩ = some (.string ⟨t.toArray⟩) ∧ w'.cell? ⟨b, o + j, none⟩ = some (.string ⟨u.toArray⟩)) (by kernel_rfl) (by exact ⟨g4, x0, x1⟩) (fun hHeld => ?_)
          refine wpAnyH_take (i := 0) (oi := ⟨some 13, _, _, _, _, _⟩) (v := .pointer (some ⟨w.heap.size, 4, none⟩)) rfl (by kernel_rfl) (by kernel_rfl) (by kernel_rfl) (fun _ _ _ h => h) (Or.inl ⟨by kernel_rfl, ?_⟩) (by assumption) ?_
          · intro w hSw; (try dsimp only at hSw); go_simp
          try simp only [Act.put, List.setIfInBounds_toArray, List.set_cons_zero, List.set_cons_succ]
          refine wpAnyH_take (i := 1) (oi := ⟨some 14, _, _, _, _, _⟩) (v := .slice (some ⟨b, o, none⟩) ny cb) rfl (by kernel_rfl) (by kernel_rfl) (by kernel_rfl) (fun _ _ _ h => h) (Or.inl ⟨by kernel_rfl, ?_⟩) (by assumption) ?_
          · intro w hSw; (try dsimp only at hSw); go_simp
          try simp only [Act.put, List.setIfInBounds_toArray, List.set_cons_zero, List.set_cons_succ]
          refine wpAnyH_take (i := 2) (oi := ⟨some 15, _, _, _, _, _⟩) (v := .int .i64 i) rfl (by kernel_rfl) (by kernel_rfl) (by kernel_rfl) (fun _ _ _ h => h) (Or.inl ⟨by kernel_rfl, ?_⟩) (by assumption) ?_
          · intro w hSw; (try dsimp only at hSw); go_simp
          try simp only [Act.put, List.setIfInBounds_toArray, List.set_cons_zero, List.set_cons_succ]
          refine wpAnyH_take (i := 3) (oi := ⟨some 16, _, _, _, _, _⟩) (v := .pointer (some ⟨b, o + i, none⟩)) rfl (by kernel_rfl) (by kernel_rfl) (by kernel_rfl) (fun _ _ _ h => h) (Or.inl ⟨by kernel_rfl, ?_⟩) (by assumption) ?_
          · intro w hSw; (try dsimp only at hSw); go_simp
          try simp only [Act.put, List.setIfInBounds_toArray, List.set_cons_zero, List.set_cons_succ]
          refine wpAnyH_take (i := 4) (oi := ⟨some 17, _, _, _, _, _⟩) (v := .string ⟨t.toArray⟩) rfl (by kernel_rfl) (by kernel_rfl) (by kernel_rfl) (fun _ _ _ h => h) (Or.inl ⟨by kernel_rfl, ?_⟩) (by assumption) ?_
          · intro w hSw; (try dsimp only at hSw); go_simp
          try simp only [Act.put, List.setIfInBounds_toArray, List.set_cons_zero, List.set_cons_succ]
          refine wpAnyH_ready (rs := [5]) (by kernel_rfl) (by simp) ?_
          refine AllReadyH.cons (o := ⟨some 18, _, _, _, _, _⟩) rfl (fun K hK => ?_) AllReadyH.nil
          go_simp
          refine HV.out.mono ?_
          rintro e w2 ⟨rfl, hb2⟩
          have hbl2 := HB1.out.drew.keep hb2
          have hbw2 := HBW1.out.drew.trans (hb2.mono HBW1.out.drew.size)
          have z0 := hbl2.cell 4
          have z1 := HC.out w2 hbw2
          have z2 := HD.out w2 hbw2
          simp at z0
          refine hK.out _ _ (⟨z0, z1, z2⟩) (fun hHeld2 => ?_)
          clear hK K hHeld
          try simp only [Act.put, List.setIfInBounds_toArray, List.set_cons_zero, List.set_cons_succ]
          refine wpAnyH_take (i := 6) (oi := ⟨some 19, _, _, _, _, _⟩) (v := .bool true) rfl (by kernel_rfl) (by kernel_rfl) (by kernel_rfl) (fun _ _ _ h => h) (Or.inl ⟨by kernel_rfl, ?_⟩) (by assumption) ?_
          · intro w hSw; (try dsimp only at hSw); go_simp
          try simp only [Act.put, List.setIfInBounds_toArray, List.set_cons_zero, List.set_cons_succ]
          refine wpAnyH_take (i := 7) (oi := ⟨some 20, _, _, _, _, _⟩) (v := .bool true) rfl (by kernel_rfl) (by kernel_rfl) (by kernel_rfl) (fun _ _ _ h => h) (Or.inl ⟨by kernel_rfl, ?_⟩) (by assumption) ?_
          · intro w hSw; (try dsimp only at hSw); go_simp
          try simp only [Act.put, List.setIfInBounds_toArray, List.set_cons_zero, List.set_cons_succ]
          refine wpAnyH_take (i := 8) (oi := ⟨some 21, _, _, _, _, _⟩) (v := undef) rfl (by kernel_rfl) (by kernel_rfl) (by kernel_rfl) (fun _ _ _ h => h) (Or.inr ⟨by kernel_rfl, rfl⟩) (by assumption) ?_
          try simp only [Act.put, List.setIfInBounds_toArray, List.set_cons_zero, List.set_cons_succ]
          refine wpAnyH_take (i := 9) (oi := ⟨some 22, _, _, _, _, _⟩) (v := undef) rfl (by kernel_rfl) (by kernel_rfl) (by kernel_rfl) (fun _ _ _ h => h) (Or.inr ⟨by kernel_rfl, rfl⟩) (by assumption) ?_
          try simp only [Act.put, List.setIfInBounds_toArray, List.set_cons_zero, List.set_cons_succ]
          refine wpAnyH_take (i := 10) (oi := ⟨some 23, _, _, _, _, _⟩) (v := undef) rfl (by kernel_rfl) (by kernel_rfl) (by kernel_rfl) (fun _ _ _ h => h) (Or.inr ⟨by kernel_rfl, rfl⟩) (by assumption) ?_
          try simp only [Act.put, List.setIfInBounds_toArray, List.set_cons_zero, List.set_cons_succ]
          refine wpAnyH_take (i := 11) (oi := ⟨some 24, _, _, _, _, _⟩) (v := undef) rfl (by kernel_rfl) (by kernel_rfl) (by kernel_rfl) (fun _ _ _ h => h) (Or.inr ⟨by kernel_rfl, rfl⟩) (by assumption) ?_
          try simp only [Act.put, List.setIfInBounds_toArray, List.set_cons_zero, List.set_cons_succ]
          refine wpAnyH_take (i := 12) (oi := ⟨some 25, _, _, _, _, _⟩) (v := undef) rfl (by kernel_rfl) (by kernel_rfl) (by kernel_rfl) (fun _ _ _ h => h) (Or.inr ⟨by kernel_rfl, rfl⟩) (by assumption) ?_
          try simp only [Act.put, List.setIfInBounds_toArray, List.set_cons_zero, List.set_cons_succ]
          refine wpAnyH_take (i := 13) (oi := ⟨some 26, _, _, _, _, _⟩) (v := undef) rfl (by kernel_rfl) (by kernel_rfl) (by kernel_rfl) (fun _ _ _ h => h) (Or.inr ⟨by kernel_rfl, rfl⟩) (by assumption) ?_
          try simp only [Act.put, List.setIfInBounds_toArray, List.set_cons_zero, List.set_cons_succ]
          refine wpAnyH_take (i := 14) (oi := ⟨some 27, _, _, _, _, _⟩) (v := undef) rfl (by kernel_rfl) (by kernel_rfl) (by kernel_rfl) (fun _ _ _ h => h) (Or.inr ⟨by kernel_rfl, rfl⟩) (by assumption) ?_
          try simp only [Act.put, List.setIfInBounds_toArray, List.set_cons_zero, List.set_cons_succ]
          refine wpAnyH_take (i := 15) (oi := ⟨some 28, _, _, _, _, _⟩) (v := undef) rfl (by kernel_rfl) (by kernel_rfl) (by kernel_rfl) (fun _ _ _ h => h) (Or.inr ⟨by kernel_rfl, rfl⟩) (by assumption) ?_
          try simp only [Act.put, List.setIfInBounds_toArray, List.set_cons_zero, List.set_cons_succ]
          refine wpAnyH_take (i := 16) (oi := ⟨some 29, _, _, _, _, _⟩) (v := undef) rfl (by kernel_rfl) (by kernel_rfl) (by kernel_rfl) (fun _ _ _ h => h) (Or.inr ⟨by kernel_rfl, rfl⟩) (by assumption) ?_
          try simp only [Act.put, List.setIfInBounds_toArray, List.set_cons_zero, List.set_cons_succ]
          refine wpAnyH_take (i := 17) (oi := ⟨some 30, _, _, _, _, _⟩) (v := undef) rfl (by kernel_rfl) (by kernel_rfl) (by kernel_rfl) (fun _ _ _ h => h) (Or.inr ⟨by kernel_rfl, rfl⟩) (by assumption) ?_
          try simp only [Act.put, List.setIfInBounds_toArray, List.set_cons_zero, List.set_cons_succ]
          refine wpAnyH_take (i := 18) (oi := ⟨some 31, _, _, _, _, _⟩) (v := undef) rfl (by kernel_rfl) (by kernel_rfl) (by kernel_rfl) (fun _ _ _ h => h) (Or.inr ⟨by kernel_rfl, rfl⟩) (by assumption) ?_
          try simp only [Act.put, List.setIfInBounds_toArray, List.set_cons_zero, List.set_cons_succ]
          refine wpAnyH_take (i := 19) (oi := ⟨some 32, _, _, _, _, _⟩) (v := undef) rfl (by kernel_rfl) (by kernel_rfl) (by kernel_rfl) (fun _ _ _ h => h) (Or.inr ⟨by kernel_rfl, rfl⟩) (by assumption) ?_
          try simp only [Act.put, List.setIfInBounds_toArray, List.set_cons_zero, List.set_cons_succ]
          refine wpAnyH_take (i := 20) (oi := ⟨some 33, _, _, _, _, _⟩) (v := undef) rfl (by kernel_rfl) (by kernel_rfl) (by kernel_rfl) (fun _ _ _ h => h) (Or.inr ⟨by kernel_rfl, rfl⟩) (by assumption) ?_
          try simp only [Act.put, List.setIfInBounds_toArray, List.set_cons_zero, List.set_cons_succ]
          refine wpAnyH_take (i := 21) (oi := ⟨some 34, _, _, _, _, _⟩) (v := undef) rfl (by kernel_rfl) (by kernel_rfl) (by kernel_rfl) (fun _ _ _ h => h) (Or.inr ⟨by kernel_rfl, rfl⟩) (by assumption) ?_
          try simp only [Act.put, List.setIfInBounds_toArray, List.set_cons_zero, List.set_cons_succ]
          refine wpAnyH_take (i := 22) (oi := ⟨some 35, _, _, _, _, _⟩) (v := undef) rfl (by kernel_rfl) (by kernel_rfl) (by kernel_rfl) (fun _ _ _ h => h) (Or.inr ⟨by kernel_rfl, rfl⟩) (by assumption) ?_
          try simp only [Act.put, List.setIfInBounds_toArray, List.set_cons_zero, List.set_cons_succ]
          refine wpAnyH_take (i := 23) (oi := ⟨some 36, _, _, _, _, _⟩) (v := undef) rfl (by kernel_rfl) (by kernel_rfl) (by kernel_rfl) (fun _ _ _ h => h) (Or.inr ⟨by kernel_rfl, rfl⟩) (by assumption) ?_
          try simp only [Act.put, List.setIfInBounds_toArray, List.set_cons_zero, List.set_cons_succ]
          refine wpAnyH_take (i := 24) (oi := ⟨some 37, _, _, _, _, _⟩) (v := .bool true) rfl (by kernel_rfl) (by kernel_rfl) (by kernel_rfl) (fun _ _ _ h => h) (Or.inl ⟨by kernel_rfl, ?_⟩) (by assumption) ?_
          · intro w hSw; (try dsimp only at hSw); go_simp
          try simp only [Act.put, List.setIfInBounds_toArray, List.set_cons_zero, List.set_cons_succ]
          refine wpAnyH_done (by kernel_rfl) ?_ _
          have HM2 := Lib.hid hbw2
          clear hbl2 hbw2 z0 z1 z2
          go_wp2
          go_ret
          exact ⟨rfl, HM2.out⟩
      · obtain rfl : i = 0 := by omega
        have i4 : (0 : Int) < (ny : Int) := by omega
        have HST := Lib.hid (keysAt_first hTT.out)
        rw [Nat.add_zero] at x0
        clear hTT h0
        by_cases htx : txtOk t = true
        · rw [htx] at HV
          have HQ2 := Lib.hid (show keysOk keys = keysAt keys (0 + 1) by rw [HQ.out, HST.out, htx]; rfl)
          clear htx
          go_wp2
          refine wp_region_held_drew (S := fun w' => w'.cell? ⟨w.heap.size, 4, none⟩ = some (.slice (some ⟨b, o, none⟩) ny cb) ∧ w'.cell? ⟨b, o, none⟩ = some (.string ⟨t.toArray⟩)) (by kernel_rfl) (by exact ⟨g4, x0⟩) (fun hHeld => ?_)
          refine wpAnyH_take (i := 0) (oi := ⟨some 13, _, _, _, _, _⟩) (v := .pointer (some ⟨w.heap.size, 4, none⟩)) rfl (by kernel_rfl) (by kernel_rfl) (by kernel_rfl) (fun _ _ _ h => h) (Or.inl ⟨by kernel_rfl, ?_⟩) (by assumption) ?_
          · intro w hSw; (try dsimp only at hSw); go_simp
          try simp only [Act.put, List.setIfInBounds_toArray, List.set_cons_zero, List.set_cons_succ]
          refine wpAnyH_take (i := 1) (oi := ⟨some 14, _, _, _, _, _⟩) (v := .slice (some ⟨b, o, none⟩) ny cb) rfl (by kernel_rfl) (by kernel_rfl) (by kernel_rfl) (fun _ _ _ h => h) (Or.inl ⟨by kernel_rfl, ?_⟩) (by assumption) ?_
          · intro w hSw; (try dsimp only at hSw); go_simp
          try simp only [Act.put, List.setIfInBounds_toArray, List.set_cons_zero, List.set_cons_succ]
          refine wpAnyH_take (i := 2) (oi := ⟨some 15, _, _, _, _, _⟩) (v := .int .i64 0) rfl (by kernel_rfl) (by kernel_rfl) (by kernel_rfl) (fun _ _ _ h => h) (Or.inl ⟨by kernel_rfl, ?_⟩) (by assumption) ?_
          · intro w hSw; (try dsimp only at hSw); go_simp
          try simp only [Act.put, List.setIfInBounds_toArray, List.set_cons_zero, List.set_cons_succ]
          refine wpAnyH_take (i := 3) (oi := ⟨some 16, _, _, _, _, _⟩) (v := .pointer (some ⟨b, o, none⟩)) rfl (by kernel_rfl) (by kernel_rfl) (by kernel_rfl) (fun _ _ _ h => h) (Or.inl ⟨by kernel_rfl, ?_⟩) (by assumption) ?_
          · intro w hSw; (try dsimp only at hSw); go_simp
          try simp only [Act.put, List.setIfInBounds_toArray, List.set_cons_zero, List.set_cons_succ]
          refine wpAnyH_take (i := 4) (oi := ⟨some 17, _, _, _, _, _⟩) (v := .string ⟨t.toArray⟩) rfl (by kernel_rfl) (by kernel_rfl) (by kernel_rfl) (fun _ _ _ h => h) (Or.inl ⟨by kernel_rfl, ?_⟩) (by assumption) ?_
          · intro w hSw; (try dsimp only at hSw); go_simp
          try simp only [Act.put, List.setIfInBounds_toArray, List.set_cons_zero, List.set_cons_succ]
          refine wpAnyH_ready (rs := [5]) (by kernel_rfl) (by simp) ?_
          refine AllReadyH.cons (o := ⟨some 18, _, _, _, _, _⟩) rfl (fun K hK => ?_) AllReadyH.nil
          go_simp
          refine HV.out.mono ?_
          rintro e w2 ⟨rfl, hb2⟩
          have hbl2 := HB1.out.drew.keep hb2
          have hbw2 := HBW1.out.drew.trans (hb2.mono HBW1.out.drew.size)
          have z0 := hbl2.cell 4
          have z1 := HC.out w2 hbw2
          simp at z0
          rw [Nat.add_zero] at z1
          refine hK.out _ _ (⟨z0, z1⟩) (fun hHeld2 => ?_)
          clear hK K hHeld
          try simp only [Act.put, List.setIfInBounds_toArray, List.set_cons_zero, List.set_cons_succ]
          refine wpAnyH_take (i := 6) (oi := ⟨some 19, _, _, _, _, _⟩) (v := .bool false) rfl (by kernel_rfl) (by kernel_rfl) (by kernel_rfl) (fun _ _ _ h => h) (Or.inl ⟨by kernel_rfl, ?_⟩) (by assumption) ?_
          · intro w hSw; (try dsimp only at hSw); go_simp
          try simp only [Act.put, List.setIfInBounds_toArray, List.set_cons_zero, List.set_cons_succ]
          refine wpAnyH_take (i := 7) (oi := ⟨some 20, _, _, _, _, _⟩) (v := .bool false) rfl (by kernel_rfl) (by kernel_rfl) (by kernel_rfl) (fun _ _ _ h => h) (Or.inl ⟨by kernel_rfl, ?_⟩) (by assumption) ?_
          · intro w hSw; (try dsimp only at hSw); go_simp
          try simp only [Act.put, List.setIfInBounds_toArray, List.set_cons_zero, List.set_cons_succ]
          refine wpAnyH_take (i := 8) (oi := ⟨some 21, _, _, _, _, _⟩) (v := .int .i64 0) rfl (by kernel_rfl) (by kernel_rfl) (by kernel_rfl) (fun _ _ _ h => h) (Or.inl ⟨by kernel_rfl, ?_⟩) (by assumption) ?_
          · intro w hSw; (try dsimp only at hSw); go_simp
          try simp only [Act.put, List.setIfInBounds_toArray, List.set_cons_zero, List.set_cons_succ]
          refine wpAnyH_take (i := 9) (oi := ⟨some 22, _, _, _, _, _⟩) (v := .bool false) rfl (by kernel_rfl) (by kernel_rfl) (by kernel_rfl) (fun _ _ _ h => h) (Or.inl ⟨by kernel_rfl, ?_⟩) (by assumption) ?_
          · intro w hSw; (try dsimp only at hSw); go_simp
          try simp only [Act.put, List.setIfInBounds_toArray, List.set_cons_zero, List.set_cons_succ]
          refine wpAnyH_take (i := 10) (oi := ⟨some 23, _, _, _, _, _⟩) (v := .bool false) rfl (by kernel_rfl) (by kernel_rfl) (by kernel_rfl) (fun _ _ _ h => h) (Or.inl ⟨by kernel_rfl, ?_⟩) (by assumption) ?_
          · intro w hSw; (try dsimp only at hSw); go_simp
          try simp only [Act.put, List.setIfInBounds_toArray, List.set_cons_zero, List.set_cons_succ]
          refine wpAnyH_take (i := 11) (oi := ⟨some 24, _, _, _, _, _⟩) (v := undef) rfl (by kernel_rfl) (by kernel_rfl) (by kernel_rfl) (fun _ _ _ h => h) (Or.inr ⟨by kernel_rfl, rfl⟩) (by assumption) ?_
          try simp only [Act.put, List.setIfInBounds_toArray, List.set_cons_zero, List.set_cons_succ]
          refine wpAnyH_take (i := 12) (oi := ⟨some 25, _, _, _, _, _⟩) (v := undef) rfl (by kernel_rfl) (by kernel_rfl) (by kernel_rfl) (fun _ _ _ h => h) (Or.inr ⟨by kernel_rfl, rfl⟩) (by assumption) ?_
          try simp only [Act.put, List.setIfInBounds_toArray, List.set_cons_zero, List.set_cons_succ]
          refine wpAnyH_take (i := 13) (oi := ⟨some 26, _, _, _, _, _⟩) (v := undef) rfl (by kernel_rfl) (by kernel_rfl) (by kernel_rfl) (fun _ _ _ h => h) (Or.inr ⟨by kernel_rfl, rfl⟩) (by assumption) ?_
          try simp only [Act.put, List.setIfInBounds_toArray, List.set_cons_zero, List.set_cons_succ]
          refine wpAnyH_take (i := 14) (oi := ⟨some 27, _, _, _, _, _⟩) (v := undef) rfl (by kernel_rfl) (by kernel_rfl) (by kernel_rfl) (fun _ _ _ h => h) (Or.inr ⟨by kernel_rfl, rfl⟩) (by assumption) ?_
          try simp only [Act.put, List.setIfInBounds_toArray, List.set_cons_zero, List.set_cons_succ]
          refine wpAnyH_take (i := 15) (oi := ⟨some 28, _, _, _, _, _⟩) (v := undef) rfl (by kernel_rfl) (by kernel_rfl) (by kernel_rfl) (fun _ _ _ h => h) (Or.inr ⟨by kernel_rfl, rfl⟩) (by assumption) ?_
          try simp only [Act.put, List.setIfInBounds_toArray, List.set_cons_zero, List.set_cons_succ]
          refine wpAnyH_take (i := 16) (oi := ⟨some 29, _, _, _, _, _⟩) (v := undef) rfl (by kernel_rfl) (by kernel_rfl) (by kernel_rfl) (fun _ _ _ h => h) (Or.inr ⟨by kernel_rfl, rfl⟩) (by assumption) ?_
          try simp only [Act.put, List.setIfInBounds_toArray, List.set_cons_zero, List.set_cons_succ]
          refine wpAnyH_take (i := 17) (oi := ⟨some 30, _, _, _, _, _⟩) (v := undef) rfl (by kernel_rfl) (by kernel_rfl) (by kernel_rfl) (fun _ _ _ h => h) (Or.inr ⟨by kernel_rfl, rfl⟩) (by assumption) ?_
          try simp only [Act.put, List.setIfInBounds_toArray, List.set_cons_zero, List.set_cons_succ]
          refine wpAnyH_take (i := 18) (oi := ⟨some 31, _, _, _, _, _⟩) (v := undef) rfl (by kernel_rfl) (by kernel_rfl) (by kernel_rfl) (fun _ _ _ h => h) (Or.inr ⟨by kernel_rfl, rfl⟩) (by assumption) ?_
          try simp only [Act.put, List.setIfInBounds_toArray, List.set_cons_zero, List.set_cons_succ]
          refine wpAnyH_take (i := 19) (oi := ⟨some 32, _, _, _, _, _⟩) (v := undef) rfl (by kernel_rfl) (by kernel_rfl) (by kernel_rfl) (fun _ _ _ h => h) (Or.inr ⟨by kernel_rfl, rfl⟩) (by assumption) ?_
          try simp only [Act.put, List.setIfInBounds_toArray, List.set_cons_zero, List.set_cons_succ]
          refine wpAnyH_take (i := 20) (oi := ⟨some 33, _, _, _, _, _⟩) (v := undef) rfl (by kernel_rfl) (by kernel_rfl) (by kernel_rfl) (fun _ _ _ h => h) (Or.inr ⟨by kernel_rfl, rfl⟩) (by assumption) ?_
          try simp only [Act.put, List.setIfInBounds_toArray, List.set_cons_zero, List.set_cons_succ]
          refine wpAnyH_take (i := 21) (oi := ⟨some 34, _, _, _, _, _⟩) (v := undef) rfl (by kernel_rfl) (by kernel_rfl) (by kernel_rfl) (fun _ _ _ h => h) (Or.inr ⟨by kernel_rfl, rfl⟩) (by assumption) ?_
          try simp only [Act.put, List.setIfInBounds_toArray, List.set_cons_zero, List.set_cons_succ]
          refine wpAnyH_take (i := 22) (oi := ⟨some 35, _, _, _, _, _⟩) (v := undef) rfl (by kernel_rfl) (by kernel_rfl) (by kernel_rfl) (fun _ _ _ h => h) (Or.inr ⟨by kernel_rfl, rfl⟩) (by assumption) ?_
          try simp only [Act.put, List.setIfInBounds_toArray, List.set_cons_zero, List.set_cons_succ]
          refine wpAnyH_take (i := 23) (oi := ⟨some 36, _, _, _, _, _⟩) (v := .bool false) rfl (by kernel_rfl) (by kernel_rfl) (by kernel_rfl) (fun _ _ _ h => h) (Or.inl ⟨by kernel_rfl, ?_⟩) (by assumption) ?_
          · intro w hSw; (try dsimp only at hSw); go_simp
          try simp only [Act.put, List.setIfInBounds_toArray, List.set_cons_zero, List.set_cons_succ]
          refine wpAnyH_take (i := 24) (oi := ⟨some 37, _, _, _, _, _⟩) (v := .bool false) rfl (by kernel_rfl) (by kernel_rfl) (by kernel_rfl) (fun _ _ _ h => h) (Or.inl ⟨by kernel_rfl, ?_⟩) (by assumption) ?_
          · intro w hSw; (try dsimp only at hSw); go_simp
          try simp only [Act.put, List.setIfInBounds_toArray, List.set_cons_zero, List.set_cons_succ]
          refine wpAnyH_done (by kernel_rfl) ?_ _
          have HL2 := Lib.hid hbl2
          have HM2 := Lib.hid hbw2
          clear hbl2 hbw2 z0 z1
          go_wp2
          go_roundg (ny - (0 + 1))
          case measure => rw [HG.out]; omega
          case rel => exact ⟨0 + 1, hlt, rfl, by go_num, HL2.out, HM2.out, HQ2⟩
        · rw [Bool.eq_false_iff.2 htx] at HV
          obtain rfl : r = false := HBAD.out (by rw [HQ.out, HST.out, Bool.eq_false_iff.2 htx]; rfl)
          clear htx
          go_wp2
          refine wp_region_held_drew (S := fun w' => w'.cell? ⟨w.heap.size, 4, none⟩ = some (.slice (some ⟨b, o, none⟩) ny cb) ∧ w'.cell? ⟨b, o, none⟩ = some (.string ⟨t.toArray⟩)) (by kernel_rfl) (by exact ⟨g4, x0⟩) (fun hHeld => ?_)
          refine wpAnyH_take (i := 0) (oi := ⟨some 13, _, _, _, _, _⟩) (v := .pointer (some ⟨w.heap.size, 4, none⟩)) rfl (by kernel_rfl) (by kernel_rfl) (by kernel_rfl) (fun _ _ _ h => h) (Or.inl ⟨by kernel_rfl, ?_⟩) (by assumption) ?_
          · intro w hSw; (try dsimp only at hSw); go_simp
          try simp only [Act.put, List.setIfInBounds_toArray, List.set_cons_zero, List.set_cons_succ]
          refine wpAnyH_take (i := 1) (oi := ⟨some 14, _, _, _, _, _⟩) (v := .slice (some ⟨b, o, none⟩) ny cb) rfl (by kernel_rfl) (by kernel_rfl) (by kernel_rfl) (fun _ _ _ h => h) (Or.inl ⟨by kernel_rfl, ?_⟩) (by assumption) ?_
          · intro w hSw; (try dsimp only at hSw); go_simp
          try simp only [Act.put, List.setIfInBounds_toArray, List.set_cons_zero, List.set_cons_succ]
          refine wpAnyH_take (i := 2) (oi := ⟨some 15, _, _, _, _, _⟩) (v := .int .i64 0) rfl (by kernel_rfl) (by kernel_rfl) (by kernel_rfl) (fun _ _ _ h => h) (Or.inl ⟨by kernel_rfl, ?_⟩) (by assumption) ?_
          · intro w hSw; (try dsimp only at hSw); go_simp
          try simp only [Act.put, List.setIfInBounds_toArray, List.set_cons_zero, List.set_cons_succ]
          refine wpAnyH_take (i := 3) (oi := ⟨some 16, _, _, _, _, _⟩) (v := .pointer (some ⟨b, o, none⟩)) rfl (by kernel_rfl) (by kernel_rfl) (by kernel_rfl) (fun _ _ _ h => h) (Or.inl ⟨by kernel_rfl, ?_⟩) (by assumption) ?_
          · intro w hSw; (try dsimp only at hSw); go_simp
          try simp only [Act.put, List.setIfInBounds_toArray, List.set_cons_zero, List.set_cons_succ]
          refine wpAnyH_take (i := 4) (oi := ⟨some 17, _, _, _, _, _⟩) (v := .string ⟨t.toArray⟩) rfl (by kernel_rfl) (by kernel_rfl) (by kernel_rfl) (fun _ _ _ h => h) (Or.inl ⟨by kernel_rfl, ?_⟩) (by assumption) ?_
          · intro w hSw; (try dsimp only at hSw); go_simp
          try simp only [Act.put, List.setIfInBounds_toArray, List.set_cons_zero, List.set_cons_succ]
          refine wpAnyH_ready (rs := [5]) (by kernel_rfl) (by simp) ?_
          refine AllReadyH.cons (o := ⟨some 18, _, _, _, _, _⟩) rfl (fun K hK => ?_) AllReadyH.nil
          go_simp
          refine HV.out.mono ?_
          rintro e w2 ⟨rfl, hb2⟩
          have hbl2 := HB1.out.drew.keep hb2
          have hbw2 := HBW1.out.drew.trans (hb2.mono HBW1.out.drew.size)
          have z0 := hbl2.cell 4
          have z1 := HC.out w2 hbw2
          simp at z0
          rw [Nat.add_zero] at z1
          refine hK.out _ _ (⟨z0, z1⟩) (fun hHeld2 => ?_)
          clear hK K hHeld
          try simp only [Act.put, List.setIfInBounds_toArray, List.set_cons_zero, List.set_cons_succ]
          refine wpAnyH_take (i := 6) (oi := ⟨some 19, _, _, _, _, _⟩) (v := .bool true) rfl (by kernel_rfl) (by kernel_rfl) (by kernel_rfl) (fun _ _ _ h => h) (Or.inl ⟨by kernel_rfl, ?_⟩) (by assumption) ?_
          · intro w hSw; (try dsimp only at hSw); go_simp
          try simp only [Act.put, List.setIfInBounds_toArray, List.set_cons_zero, List.set_cons_succ]
          refine wpAnyH_take (i := 7) (oi := ⟨some 20, _, _, _, _, _⟩) (v := .bool true) rfl (by kernel_rfl) (by kernel_rfl) (by kernel_rfl) (fun _ _ _ h => h) (Or.inl ⟨by kernel_rfl, ?_⟩) (by assumption) ?_
          · intro w hSw; (try dsimp only at hSw); go_simp
          try simp only [Act.put, List.setIfInBounds_toArray, List.set_cons_zero, List.set_cons_succ]
          refine wpAnyH_take (i := 8) (oi := ⟨some 21, _, _, _, _, _⟩) (v := undef) rfl (by kernel_rfl) (by kernel_rfl) (by kernel_rfl) (fun _ _ _ h => h) (Or.inr ⟨by kernel_rfl, rfl⟩) (by assumption) ?_
          try simp only [Act.put, List.setIfInBounds_toArray, List.set_cons_zero, List.set_cons_succ]
          refine wpAnyH_take (i := 9) (oi := ⟨some 22, _, _, _, _, _⟩) (v := undef) rfl (by kernel_rfl) (by kernel_rfl) (by kernel_rfl) (fun _ _ _ h => h) (Or.inr ⟨by kernel_rfl, rfl⟩) (by assumption) ?_
          try simp only [Act.put, List.setIfInBounds_toArray, List.set_cons_zero, List.set_cons_succ]
          refine wpAnyH_take (i := 10) (oi := ⟨some 23, _, _, _, _, _⟩) (v := undef) rfl (by kernel_rfl) (by kernel_rfl) (by kernel_rfl) (fun _ _ _ h => h) (Or.inr ⟨by kernel_rfl, rfl⟩) (by assumption) ?_
          try simp only [Act.put, List.setIfInBounds_toArray, List.set_cons_zero, List.set_cons_succ]
          refine wpAnyH_take (i := 11) (oi := ⟨some 24, _, _, _, _, _⟩) (v := undef) rfl (by kernel_rfl) (by kernel_rfl) (by kernel_rfl) (fun _ _ _ h => h) (Or.inr ⟨by kernel_rfl, rfl⟩) (by assumption) ?_
          try simp only [Act.put, List.setIfInBounds_toArray, List.set_cons_zero, List.set_cons_succ]
          refine wpAnyH_take (i := 12) (oi := ⟨some 25, _, _, _, _, _⟩) (v := undef) rfl (by kernel_rfl) (by kernel_rfl) (by kernel_rfl) (fun _ _ _ h => h) (Or.inr ⟨by kernel_rfl, rfl⟩) (by assumption) ?_
          try simp only [Act.put, List.setIfInBounds_toArray, List.set_cons_zero, List.set_cons_succ]
          refine wpAnyH_take (i := 13) (oi := ⟨some 26, _, _, _, _, _⟩) (v := undef) rfl (by kernel_rfl) (by kernel_rfl) (by kernel_rfl) (fun _ _ _ h => h) (Or.inr ⟨by kernel_rfl, rfl⟩) (by assumption) ?_
          try simp only [Act.put, List.setIfInBounds_toArray, List.set_cons_zero, List.set_cons_succ]
          refine wpAnyH_take (i := 14) (oi := ⟨some 27, _, _, _, _, _⟩) (v := undef) rfl (by kernel_rfl) (by kernel_rfl) (by kernel_rfl) (fun _ _ _ h => h) (Or.inr ⟨by kernel_rfl, rfl⟩) (by assumption) ?_
          try simp only [Act.put, List.setIfInBounds_toArray, List.set_cons_zero, List.set_cons_succ]
          refine wpAnyH_take (i := 15) (oi := ⟨some 28, _, _, _, _, _⟩) (v := undef) rfl (by kernel_rfl) (by kernel_rfl) (by kernel_rfl) (fun _ _ _ h => h) (Or.inr ⟨by kernel_rfl, rfl⟩) (by assumption) ?_
          try simp only [Act.put, List.setIfInBounds_toArray, List.set_cons_zero, List.set_cons_succ]
          refine wpAnyH_take (i := 16) (oi := ⟨some 29, _, _, _, _, _⟩) (v := undef) rfl (by kernel_rfl) (by kernel_rfl) (by kernel_rfl) (fun _ _ _ h => h) (Or.inr ⟨by kernel_rfl, rfl⟩) (by assumption) ?_
          try simp only [Act.put, List.setIfInBounds_toArray, List.set_cons_zero, List.set_cons_succ]
          refine wpAnyH_take (i := 17) (oi := ⟨some 30, _, _, _, _, _⟩) (v := undef) rfl (by kernel_rfl) (by kernel_rfl) (by kernel_rfl) (fun _ _ _ h => h) (Or.inr ⟨by kernel_rfl, rfl⟩) (by assumption) ?_
          try simp only [Act.put, List.setIfInBounds_toArray, List.set_cons_zero, List.set_cons_succ]
          refine wpAnyH_take (i := 18) (oi := ⟨some 31, _, _, _, _, _⟩) (v := undef) rfl (by kernel_rfl) (by kernel_rfl) (by kernel_rfl) (fun _ _ _ h => h) (Or.inr ⟨by kernel_rfl, rfl⟩) (by assumption) ?_
          try simp only [Act.put, List.setIfInBounds_toArray, List.set_cons_zero, List.set_cons_succ]
          refine wpAnyH_take (i := 19) (oi := ⟨some 32, _, _, _, _, _⟩) (v := undef) rfl (by kernel_rfl) (by kernel_rfl) (by kernel_rfl) (fun _ _ _ h => h) (Or.inr ⟨by kernel_rfl, rfl⟩) (by assumption) ?_
          try simp only [Act.put, List.setIfInBounds_toArray, List.set_cons_zero, List.set_cons_succ]
          refine wpAnyH_take (i := 20) (oi := ⟨some 33, _, _, _, _, _⟩) (v := undef) rfl (by kernel_rfl) (by kernel_rfl) (by kernel_rfl) (fun _ _ _ h => h) (Or.inr ⟨by kernel_rfl, rfl⟩) (by assumption) ?_
          try simp only [Act.put, List.setIfInBounds_toArray, List.set_cons_zero, List.set_cons_succ]
          refine wpAnyH_take (i := 21) (oi := ⟨some 34, _, _, _, _, _⟩) (v := undef) rfl (by kernel_rfl) (by kernel_rfl) (by kernel_rfl) (fun _ _ _ h => h) (Or.inr ⟨by kernel_rfl, rfl⟩) (by assumption) ?_
          try simp only [Act.put, List.setIfInBounds_toArray, List.set_cons_zero, List.set_cons_succ]
          refine wpAnyH_take (i := 22) (oi := ⟨some 35, _, _, _, _, _⟩) (v := undef) rfl (by kernel_rfl) (by kernel_rfl) (by kernel_rfl) (fun _ _ _ h => h) (Or.inr ⟨by kernel_rfl, rfl⟩) (by assumption) ?_
          try simp only [Act.put, List.setIfInBounds_toArray, List.set_cons_zero, List.set_cons_succ]
          refine wpAnyH_take (i := 23) (oi := ⟨some 36, _, _, _, _, _⟩) (v := undef) rfl (by kernel_rfl) (by kernel_rfl) (by kernel_rfl) (fun _ _ _ h => h) (Or.inr ⟨by kernel_rfl, rfl⟩) (by assumption) ?_
          try simp only [Act.put, List.setIfInBounds_toArray, List.set_cons_zero, List.set_cons_succ]
          refine wpAnyH_take (i := 24) (oi := ⟨some 37, _, _, _, _, _⟩) (v := .bool true) rfl (by kernel_rfl) (by kernel_rfl) (by kernel_rfl) (fun _ _ _ h => h) (Or.inl ⟨by kernel_rfl, ?_⟩) (by assumption) ?_
          · intro w hSw; (try dsimp only at hSw); go_simp
          try simp only [Act.put, List.setIfInBounds_toArray, List.set_cons_zero, List.set_cons_succ]
          refine wpAnyH_done (by kernel_rfl) ?_ _
          have HM2 := Lib.hid hbw2
          clear hbl2 hbw2 z0 z1
          go_wp2
          go_ret
          exact ⟨rfl, HM2.out⟩
    · obtain rfl : i = ny := by omega
      have hko : keysOk keys = true := by rw [HQ.out, ← HNY.out, keysAt_end]
      have g0 := c1 0
      have g1 := c1 1
      have g2 := c1 2
      have g3 := c1 3
      simp at g0 g1 g2 g3
      have hr := HR.out
      unfold goodA at hr
      rw [hko, HYN.out, HNY.out] at hr
      have HR2 := Lib.hid hr
      have HSN2 := HSN.out
      clear hr hko HQ HG HNY HYN HK HTS HS HR HSN c1
      go_wp2
      go_region_held3 (fun w' => w'.cell? ⟨w.heap.size, 0, none⟩ = some (.int .i64 k) ∧ w'.cell? ⟨w.heap.size, 1, none⟩ = some (.int .i64 n) ∧ w'.cell? ⟨w.heap.size, 2, none⟩ = some (.string sb) ∧ w'.cell? ⟨w.heap.size, 3, none⟩ = some (.slice A nk ca) ∧ w'.cell? ⟨w.heap.size, 4, none⟩ = some (.slice B i cb)) (go_keep) (fail)
      all_goals
        clear hlt
        by_cases k1 : k = 1
        · subst k1
          cases q_n0 : (n == 0)
          · obtain rfl : r = false := by rw [← HR2.out]; simp [q_n0]; try omega
            go_wp2
            go_ret
            exact ⟨rfl, HBW1.out.drew⟩
          · cases q_s : (s == [])
            · have p1 : sb.toList.isEmpty = false := by rw [HSN2, q_s]
              have p1b : decide (sb.toList = []) = false := by rw [← p1]; cases sb.toList <;> simp
              simp only [decide_eq_true_eq, decide_eq_false_iff_not] at p1b
              obtain rfl : r = false := by rw [← HR2.out]; simp [q_n0, q_s]; try omega
              go_wp2
              go_ret
              exact ⟨rfl, HBW1.out.drew⟩
            · have p1 : sb.toList.isEmpty = true := by rw [HSN2, q_s]
              have p1b : decide (sb.toList = []) = true := by rw [← p1]; cases sb.toList <;> simp
              simp only [decide_eq_true_eq, decide_eq_false_iff_not] at p1b
              cases q_nk : (nk == 0)
              · have p2 : ((nk : Int) == 0) = false := by simp at q_nk ⊢; omega
                obtain rfl : r = false := by rw [← HR2.out]; simp [q_n0, q_s, q_nk]; try omega
                go_wp2
                go_ret
                exact ⟨rfl, HBW1.out.drew⟩
              · have p2 : ((nk : Int) == 0) = true := by simp at q_nk ⊢; omega
                cases q_ny : (decide (i = 0))
                · have p3 : ((i : Int) == 0) = false := by simp at q_ny ⊢; omega
                  obtain rfl : r = false := by rw [← HR2.out]; simp [q_n0, q_s, q_nk, q_ny]; try omega
                  go_wp2
                  go_ret
                  exact ⟨rfl, HBW1.out.drew⟩
                · have p3 : ((i : Int) == 0) = true := by simp at q_ny ⊢; omega
                  obtain rfl : r = true := by rw [← HR2.out]; simp [q_n0, q_s, q_nk, q_ny]; try omega
                  go_wp2
                  go_ret
                  exact ⟨rfl, HBW1.out.drew⟩
        have m1 : (k == 1) = false := by simp [k1]
        by_cases k2 : k = 2
        · subst k2
          cases q_n0 : (n == 0)
          · cases q_n1 : (n == 1)
            · obtain rfl : r = false := by rw [← HR2.out]; simp [q_n0, q_n1]; try omega
              go_wp2
              go_ret
              exact ⟨rfl, HBW1.out.drew⟩
            · cases q_s : (s == [])
              · have p1 : sb.toList.isEmpty = false := by rw [HSN2, q_s]
                have p1b : decide (sb.toList = []) = false := by rw [← p1]; cases sb.toList <;> simp
                simp only [decide_eq_true_eq, decide_eq_false_iff_not] at p1b
                obtain rfl : r = false := by rw [← HR2.out]; simp [q_n0, q_n1, q_s]; try omega
                go_wp2
                go_ret
                exact ⟨rfl, HBW1.out.drew⟩
              · have p1 : sb.toList.isEmpty = true := by rw [HSN2, q_s]
                have p1b : decide (sb.toList = []) = true := by rw [← p1]; cases sb.toList <;> simp
                simp only [decide_eq_true_eq, decide_eq_false_iff_not] at p1b
                cases q_nk : (nk == 0)
                · have p2 : ((nk : Int) == 0) = false := by simp at q_nk ⊢; omega
                  obtain rfl : r = false := by rw [← HR2.out]; simp [q_n0, q_n1, q_s, q_nk]; try omega
                  go_wp2
                  go_ret
                  exact ⟨rfl, HBW1.out.drew⟩
                · have p2 : ((nk : Int) == 0) = true := by simp at q_nk ⊢; omega
                  cases q_ny : (decide (i = 0))
                  · have p3 : ((i : Int) == 0) = false := by simp at q_ny ⊢; omega
                    obtain rfl : r = false := by rw [← HR2.out]; simp [q_n0, q_n1, q_s, q_nk, q_ny]; try omega
                    go_wp2
                    go_ret
                    exact ⟨rfl, HBW1.out.drew⟩
                  · have p3 : ((i : Int) == 0) = true := by simp at q_ny ⊢; omega
                    obtain rfl : r = true := by rw [← HR2.out]; simp [q_n0, q_n1, q_s, q_nk, q_ny]; try omega
                    go_wp2
                    go_ret
                    exact ⟨rfl, HBW1.out.drew⟩
          · cases q_s : (s == [])
            · have p1 : sb.toList.isEmpty = false := by rw [HSN2, q_s]
              have p1b : decide (sb.toList = []) = false := by rw [← p1]; cases sb.toList <;> simp
              simp only [decide_eq_true_eq, decide_eq_false_iff_not] at p1b
              obtain rfl : r = false := by rw [← HR2.out]; simp [q_n0, q_s]; try omega
              go_wp2
              go_ret
              exact ⟨rfl, HBW1.out.drew⟩
            · have p1 : sb.toList.isEmpty = true := by rw [HSN2, q_s]
              have p1b : decide (sb.toList = []) = true := by rw [← p1]; cases sb.toList <;> simp
              simp only [decide_eq_true_eq, decide_eq_false_iff_not] at p1b
              cases q_nk : (nk == 0)
              · have p2 : ((nk : Int) == 0) = false := by simp at q_nk ⊢; omega
                obtain rfl : r = false := by rw [← HR2.out]; simp [q_n0, q_s, q_nk]; try omega
                go_wp2
                go_ret
                exact ⟨rfl, HBW1.out.drew⟩
              · have p2 : ((nk : Int) == 0) = true := by simp at q_nk ⊢; omega
                cases q_ny : (decide (i = 0))
                · have p3 : ((i : Int) == 0) = false := by simp at q_ny ⊢; omega
                  obtain rfl : r = false := by rw [← HR2.out]; simp [q_n0, q_s, q_nk, q_ny]; try omega
                  go_wp2
                  go_ret
                  exact ⟨rfl, HBW1.out.drew⟩
                · have p3 : ((i : Int) == 0) = true := by simp at q_ny ⊢; omega
                  obtain rfl : r = true := by rw [← HR2.out]; simp [q_n0, q_s, q_nk, q_ny]; try omega
                  go_wp2
                  go_ret
                  exact ⟨rfl, HBW1.out.drew⟩
        have m2 : (k == 2) = false := by simp [k2]
        by_cases k3 : k = 3
        · subst k3
          cases q_s : (s == [])
          · have p1 : sb.toList.isEmpty = false := by rw [HSN2, q_s]
            have p1b : decide (sb.toList = []) = false := by rw [← p1]; cases sb.toList <;> simp
            simp only [decide_eq_true_eq, decide_eq_false_iff_not] at p1b
            obtain rfl : r = false := by rw [← HR2.out]; simp [q_s]; try omega
            go_wp2
            go_ret
            exact ⟨rfl, HBW1.out.drew⟩
          · have p1 : sb.toList.isEmpty = true := by rw [HSN2, q_s]
            have p1b : decide (sb.toList = []) = true := by rw [← p1]; cases sb.toList <;> simp
            simp only [decide_eq_true_eq, decide_eq_false_iff_not] at p1b
            cases q_nk : (nk == 0)
            · have p2 : ((nk : Int) == 0) = false := by simp at q_nk ⊢; omega
              obtain rfl : r = false := by rw [← HR2.out]; simp [q_s, q_nk]; try omega
              go_wp2
              go_ret
              exact ⟨rfl, HBW1.out.drew⟩
            · have p2 : ((nk : Int) == 0) = true := by simp at q_nk ⊢; omega
              cases q_ny : (decide (i = 0))
              · have p3 : ((i : Int) == 0) = false := by simp at q_ny ⊢; omega
                obtain rfl : r = false := by rw [← HR2.out]; simp [q_s, q_nk, q_ny]; try omega
                go_wp2
                go_ret
                exact ⟨rfl, HBW1.out.drew⟩
              · have p3 : ((i : Int) == 0) = true := by simp at q_ny ⊢; omega
                obtain rfl : r = true := by rw [← HR2.out]; simp [q_s, q_nk, q_ny]; try omega
                go_wp2
                go_ret
                exact ⟨rfl, HBW1.out.drew⟩
        have m3 : (k == 3) = false := by simp [k3]
        by_cases k4 : k = 4
        · subst k4
          cases q_n0 : (n == 0)
          · obtain rfl : r = false := by rw [← HR2.out]; simp [q_n0]; try omega
            go_wp2
            go_ret
            exact ⟨rfl, HBW1.out.drew⟩
          · cases q_v : txtOk s
            · rw [q_v] at HVS
              obtain rfl : r = false := by rw [← HR2.out]; simp [q_n0, q_v]; try omega
              go_wp2_with fail
              refine (HVS.out _).mono ?_
              rintro e w2 ⟨rfl, hb2⟩
              have HB2 := Lib.hid (HBW1.out.drew.trans (hb2.mono HBW1.out.drew.size))
              clear hb2
              go_wp2
              go_ret
              exact ⟨rfl, HB2.out⟩
            · rw [q_v] at HVS
              cases q_nk : (nk == 0)
              · have p2 : ((nk : Int) == 0) = false := by simp at q_nk ⊢; omega
                obtain rfl : r = false := by rw [← HR2.out]; simp [q_n0, q_v, q_nk]; try omega
                go_wp2_with fail
                refine (HVS.out _).mono ?_
                rintro e w2 ⟨rfl, hb2⟩
                have HB2 := Lib.hid (HBW1.out.drew.trans (hb2.mono HBW1.out.drew.size))
                clear hb2
                go_wp2
                go_ret
                exact ⟨rfl, HB2.out⟩
              · have p2 : ((nk : Int) == 0) = true := by simp at q_nk ⊢; omega
                cases q_ny : (decide (i = 0))
                · have p3 : ((i : Int) == 0) = false := by simp at q_ny ⊢; omega
                  obtain rfl : r = false := by rw [← HR2.out]; simp [q_n0, q_v, q_nk, q_ny]; try omega
                  go_wp2_with fail
                  refine (HVS.out _).mono ?_
                  rintro e w2 ⟨rfl, hb2⟩
                  have HB2 := Lib.hid (HBW1.out.drew.trans (hb2.mono HBW1.out.drew.size))
                  clear hb2
                  go_wp2
                  go_ret
                  exact ⟨rfl, HB2.out⟩
                · have p3 : ((i : Int) == 0) = true := by simp at q_ny ⊢; omega
                  obtain rfl : r = true := by rw [← HR2.out]; simp [q_n0, q_v, q_nk, q_ny]; try omega
                  go_wp2_with fail
                  refine (HVS.out _).mono ?_
                  rintro e w2 ⟨rfl, hb2⟩
                  have HB2 := Lib.hid (HBW1.out.drew.trans (hb2.mono HBW1.out.drew.size))
                  clear hb2
                  go_wp2
                  go_ret
                  exact ⟨rfl, HB2.out⟩
        have m4 : (k == 4) = false := by simp [k4]
        by_cases k5 : k = 5
        · subst k5
          cases q_n0 : (n == 0)
          · obtain rfl : r = false := by rw [← HR2.out]; simp [q_n0]; try omega
            go_wp2
            go_ret
            exact ⟨rfl, HBW1.out.drew⟩
          · cases q_s : (s == [])
            · have p1 : sb.toList.isEmpty = false := by rw [HSN2, q_s]
              have p1b : decide (sb.toList = []) = false := by rw [← p1]; cases sb.toList <;> simp
              simp only [decide_eq_true_eq, decide_eq_false_iff_not] at p1b
              obtain rfl : r = false := by rw [← HR2.out]; simp [q_n0, q_s]; try omega
              go_wp2
              go_ret
              exact ⟨rfl, HBW1.out.drew⟩
            · have p1 : sb.toList.isEmpty = true := by rw [HSN2, q_s]
              have p1b : decide (sb.toList = []) = true := by rw [← p1]; cases sb.toList <;> simp
              simp only [decide_eq_true_eq, decide_eq_false_iff_not] at p1b
              cases q_ny : (decide (i = 0))
              · have p3 : ((i : Int) == 0) = false := by simp at q_ny ⊢; omega
                obtain rfl : r = false := by rw [← HR2.out]; simp [q_n0, q_s, q_ny]; try omega
                go_wp2
                go_ret
                exact ⟨rfl, HBW1.out.drew⟩
              · have p3 : ((i : Int) == 0) = true := by simp at q_ny ⊢; omega
                obtain rfl : r = true := by rw [← HR2.out]; simp [q_n0, q_s, q_ny]; try omega
                go_wp2
                go_ret
                exact ⟨rfl, HBW1.out.drew⟩
        have m5 : (k == 5) = false := by simp [k5]
        by_cases k6 : k = 6
        · subst k6
          cases q_n0 : (n == 0)
          · obtain rfl : r = false := by rw [← HR2.out]; simp [q_n0]; try omega
            go_wp2
            go_ret
            exact ⟨rfl, HBW1.out.drew⟩
          · cases q_s : (s == [])
            · have p1 : sb.toList.isEmpty = false := by rw [HSN2, q_s]
              have p1b : decide (sb.toList = []) = false := by rw [← p1]; cases sb.toList <;> simp
              simp only [decide_eq_true_eq, decide_eq_false_iff_not] at p1b
              obtain rfl : r = false := by rw [← HR2.out]; simp [q_n0, q_s]; try omega
              go_wp2
              go_ret
              exact ⟨rfl, HBW1.out.drew⟩
            · have p1 : sb.toList.isEmpty = true := by rw [HSN2, q_s]
              have p1b : decide (sb.toList = []) = true := by rw [← p1]; cases sb.toList <;> simp
              simp only [decide_eq_true_eq, decide_eq_false_iff_not] at p1b
              cases q_nkny : (decide (nk = i))
              · have p4 : ((nk : Int) == (i : Int)) = false := by simp at q_nkny ⊢; omega
                have p5 := of_decide_eq_false q_nkny
                obtain rfl : r = false := by rw [← HR2.out]; simp [q_n0, q_s, q_nkny]; try omega
                go_wp2
                go_ret
                exact ⟨rfl, HBW1.out.drew⟩
              · have p4 : ((nk : Int) == (i : Int)) = true := by simp at q_nkny ⊢; omega
                have p5 := of_decide_eq_true q_nkny
                obtain rfl : r = true := by rw [← HR2.out]; simp [q_n0, q_s, q_nkny]; try omega
                go_wp2
                go_ret
                exact ⟨rfl, HBW1.out.drew⟩
        have m6 : (k == 6) = false := by simp [k6]
        obtain rfl : r = false := by rw [← HR2.out]; simp [k1, k2, k3, k4, k5, k6]; try omega
        go_wp2
        go_ret
        exact ⟨rfl, HBW1.out.drew⟩
end Go.Proofs.YtoejdhabpajhlaaDoor
