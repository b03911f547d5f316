/- CollateWithin: the walk. -/
import Derived.Test.YtoejdhabpajhlaaDoorC7i
import Derived.Test.YtoejdhabpajhlaaDoorC7j
import Derived.Test.YtoejdhabpajhlaaDoorHeldV
namespace Go.Proofs.YtoejdhabpajhlaaDoor
set_option linter.unusedVariables false
set_option linter.unusedSimpArgs false
open Go.RowKit
attribute [local go_sem] run_index_arr run_part_agg run_part_one run_field_agg

theorem obj_came2 {k k' : List UInt8} {v h : JV} (hv : inJ v) (hvb : bulkJ v ≤ 1048576) (hh : inJ h) (hhb : bulkJ h ≤ 1048576) (ht : k.length + k'.length + bulkJ v + bulkJ h ≤ 4194300) : Came (jObj k k' v h) := by
  unfold jObj
  refine ⟨by unfold inJ; exact ⟨by unfold iw; decide, by unfold iw; decide, by unfold inL inL inL; exact ⟨hv, hh, trivial⟩⟩, ?_⟩
  unfold bulkJ
  simp only [bulkK, bulkL, List.length_nil]
  omega
theorem chk_if (v : JV) : (good v = true ∧ chkJ v = 0) ∨ (¬ gd v ∧ chkJ v = 140) := by
  by_cases h : good v = true
  · exact .inl ⟨h, if_pos h⟩
  · exact .inr ⟨h, if_neg h⟩
def IntC (n : Int) (w : World) (e : Ending) (w' : World) : Prop := e = .returned (.int .i64 n) ∧ Below w.heap.size w w'
theorem vCheck_is {v : JV} {n : Int} (h : chkJ v = n) {cs : List Value} {w : World} (hG : GOK w) (hv : VR w TT cs v) (hc : Came v) : Calls Tryd.prog 17 #[.agg cs.toArray] w (IntC n w) := by
  have h9 := vCheckG v cs TT w hG hv hc
  rw [h] at h9; exact h9
set_option maxRecDepth 100000 in
set_option maxHeartbeats 8000000 in
theorem collateWithin_any (cs0 : Array Value) (x0 : JV) (cs1 : Array Value) (x1 : JV) (a2 : Option Addr) (len2 cap2 : Nat) (xs2 : List JV) (cs3 : Array Value) (x3 : JV) (s4 : ByteArray) (w : World) (hG : GOK w) (h0 : VR w TT cs0.toList x0) (c0 : Came x0) (h1 : VR w TT cs1.toList x1) (c1 : Came x1)
    (hl2 : len2 = xs2.length) (hr2 : RowV w a2 cap2 xs2) (hi2 : inL xs2) (hb2 : bulkL xs2 ≤ 4194304) (h3 : VR w TT cs3.toList x3) (c3 : Came x3) (h4 : s4.size ≤ maxLen) (hT : s4.data.toList.length + 1 + (bulkJ x0 + bulkJ x1 + bulkL xs2 + bulkJ x3) ≤ 1048576) :
    Calls Tryd.prog 4 #[.agg cs0, .agg cs1, .slice a2 len2 cap2, .agg cs3, .string s4] w (BoolS true w) := by
  obtain ⟨l0, rfl⟩ : ∃ l : List Value, cs0 = l.toArray := ⟨cs0.toList, by simp⟩
  replace h0 : VR w TT l0 x0 := by simpa using h0
  obtain ⟨l1, rfl⟩ : ∃ l : List Value, cs1 = l.toArray := ⟨cs1.toList, by simp⟩
  replace h1 : VR w TT l1 x1 := by simpa using h1
  obtain ⟨l3, rfl⟩ : ∃ l : List Value, cs3 = l.toArray := ⟨cs3.toList, by simp⟩
  replace h3 : VR w TT l3 x3 := by simpa using h3
  have hks : s4.size ≤ 1048576 := by have : s4.data.toList.length = s4.size := (Lib.size_eq s4).symm
                                     omega
  have h9 : len2 ≤ 4194304 := by rw [hl2]; exact Nat.le_trans (bulkL_len xs2) hb2
  obtain ⟨L, hL⟩ : ∃ L, xs2.take 20 = L := ⟨_, rfl⟩
  obtain ⟨m, hm⟩ : ∃ m, L.length = m := ⟨_, rfl⟩
  have hm20 : m ≤ 20 := by rw [← hm, ← hL, List.length_take]; omega
  have hbL : bulkL L ≤ 1048576 := by
    have h := bulkL_app (xs2.take 20) (xs2.drop 20)
    rw [List.take_append_drop, hL] at h; omega
  have hiL : inL L := inL_iff.2 fun x hx => inL_iff.1 hi2 x (by rw [← hL] at hx; exact List.mem_of_mem_take hx)
  have FR0 := Lib.hid (row_came hiL hbL c0.ints (by omega) c3.ints (by omega))
  have FR1 := Lib.hid (row_came hiL hbL c1.ints (by omega) c3.ints (by omega))
  have FO0 := Lib.hid (obj_came2 (k := s4.data.toList) (k' := s4.data.toList ++ [122]) (v := x0) (h := x3) c0.ints (by omega) c3.ints (by omega) (by rw [List.length_append, List.length_singleton]; omega))
  have FO1 := Lib.hid (obj_came2 (k := s4.data.toList) (k' := s4.data.toList ++ [122]) (v := x1) (h := x3) c1.ints (by omega) c3.ints (by omega) (by rw [List.length_append, List.length_singleton]; omega))
  have HM := Lib.hid hm
  have HKS := Lib.hid hks
  have HG := Lib.hid hG
  have C0 := Lib.hid c0
  have C1 := Lib.hid c1
  obtain ⟨css2, r1, r2, r3, r4⟩ := hr2
  have HR1 := Lib.hid (show VRs w TT (css2.take 20) L by rw [← hL]; exact r1.take 20)
  have HSO := Lib.hid (fun (W : World) (h : Below w.heap.size w W) => show Calls Tryd.prog 13 #[.slice a2 len2 cap2] W (Som0 (css2.take 20) m W) by
    have h9' := lSome0 xs2 css2 a2 len2 cap2 W (r1.below h) ⟨r2, r3, r4.keep (KeepF.of_below h)⟩ hl2.symm h9
    rwa [hL, hm] at h9')
  have HV0 := Lib.hid (fun (W : World) (h : Below w.heap.size w W) => h0.bel h)
  have HV1 := Lib.hid (fun (W : World) (h : Below w.heap.size w W) => h1.bel h)
  have HV3 := Lib.hid (fun (W : World) (h : Below w.heap.size w W) => h3.bel h)
  obtain ⟨k0, n0, s0, A0, na0, ca0, B0, nb0, cb0, rfl⟩ := h0.form
  obtain ⟨k1, n1, s1, A1, na1, ca1, B1, nb1, cb1, rfl⟩ := h1.form
  obtain ⟨k3, n3, s3, A3, na3, ca3, B3, nb3, cb3, rfl⟩ := h3.form
  have HH0 := Lib.hid (Held.nil w)
  clear h0 h1 h3 c0 c1 c3 hG hks h9 hL hm hbL hiL r1 r2 r3 r4 hl2 hi2 hb2 h4 hT
  by_cases hg : gd x0 ∧ gd x1
  case neg =>
    have HC := Lib.hid (cmpO_no hg)
    clear hg
    go_enter Tryd.func4, Tryd.ntmps4
    go_wp2_with fail
    have HA1 := Lib.hid (Held.push ((Held.push ((Held.push ((Held.push ((Held.push (HH0.out) 28 #[.int .i64 k0, .int .i64 n0, .string s0, .slice A0 na0 ca0, .slice B0 nb0 cb0] (g := w.heap.size) (by first | rfl | simp))) 28 #[.int .i64 k1, .int .i64 n1, .string s1, .slice A1 na1 ca1, .slice B1 nb1 cb1] (g := w.heap.size + 1) (by first | rfl | simp))) 25 #[.slice a2 len2 cap2] (g := w.heap.size + 1 + 1) (by first | rfl | simp))) 28 #[.int .i64 k3, .int .i64 n3, .string s3, .slice A3 na3 ca3, .slice B3 nb3 cb3] (g := w.heap.size + 1 + 1 + 1) (by first | rfl | simp))) 9 #[.string s4] (g := w.heap.size + 1 + 1 + 1 + 1) (by first | rfl | simp))
    refine (wakes7_any _ (HG.out.keep ((Held.push ((Held.push ((Held.push ((Held.push ((Held.push (HH0.out) 28 #[.int .i64 k0, .int .i64 n0, .string s0, .slice A0 na0 ca0, .slice B0 nb0 cb0] (g := w.heap.size) (by first | rfl | simp))) 28 #[.int .i64 k1, .int .i64 n1, .string s1, .slice A1 na1 ca1, .slice B1 nb1 cb1] (g := w.heap.size + 1) (by first | rfl | simp))) 25 #[.slice a2 len2 cap2] (g := w.heap.size + 1 + 1) (by first | rfl | simp))) 28 #[.int .i64 k3, .int .i64 n3, .string s3, .slice A3 na3 ca3, .slice B3 nb3 cb3] (g := w.heap.size + 1 + 1 + 1) (by first | rfl | simp))) 9 #[.string s4] (g := w.heap.size + 1 + 1 + 1 + 1) (by first | rfl | simp))).1)).mono ?_
    rintro e w1 ⟨rfl, hb1⟩
    have HH1 := Lib.hid (HA1.out.keep hb1)
    clear hb1 HH0 HA1
    obtain ⟨hc4, hf4, hl4⟩ := HH1.out.b4.rules
    obtain ⟨hc3, hf3, hl3⟩ := HH1.out.b3.rules
    go_wp2_with fail
    refine (cComp_is x0 x1 _ _ _ (HG.out.keep (HH1.out).1) (HV0.out _ (HH1.out).1) (HV1.out _ (HH1.out).1) C0.out C1.out HC.out).mono ?_
    rintro e w2 ⟨rfl, hb2⟩
    have HH2 := Lib.hid (HH1.out.keep hb2)
    clear hc4 hf4 hl4 hc3 hf3 hl3
    clear hb2 HH1
    go_wp2
    go_ret
    exact ⟨rfl, HH2.out.1⟩
  obtain ⟨p, hp⟩ : ∃ p, cmpJ x0 x1 = p := ⟨_, rfl⟩
  have HC := Lib.hid (show cmpO x0 x1 = (p, 0) by rw [cmpO_yes hg.1 hg.2, hp])
  have HCR := Lib.hid (show cmpJ (jRow L x0 x3) (jRow L x1 x3) = p by rw [cmp_row, hp])
  have HCO := Lib.hid (show cmpJ (jObj s4.data.toList (s4.data.toList ++ [122]) x0 x3) (jObj s4.data.toList (s4.data.toList ++ [122]) x1 x3) = p by rw [cmp_obj, hp])
  clear hg hp
  go_enter Tryd.func4, Tryd.ntmps4
  go_wp2_with fail
  have HA1 := Lib.hid (Held.push ((Held.push ((Held.push ((Held.push ((Held.push (HH0.out) 28 #[.int .i64 k0, .int .i64 n0, .string s0, .slice A0 na0 ca0, .slice B0 nb0 cb0] (g := w.heap.size) (by first | rfl | simp))) 28 #[.int .i64 k1, .int .i64 n1, .string s1, .slice A1 na1 ca1, .slice B1 nb1 cb1] (g := w.heap.size + 1) (by first | rfl | simp))) 25 #[.slice a2 len2 cap2] (g := w.heap.size + 1 + 1) (by first | rfl | simp))) 28 #[.int .i64 k3, .int .i64 n3, .string s3, .slice A3 na3 ca3, .slice B3 nb3 cb3] (g := w.heap.size + 1 + 1 + 1) (by first | rfl | simp))) 9 #[.string s4] (g := w.heap.size + 1 + 1 + 1 + 1) (by first | rfl | simp))
  refine (wakes7_any _ (HG.out.keep ((Held.push ((Held.push ((Held.push ((Held.push ((Held.push (HH0.out) 28 #[.int .i64 k0, .int .i64 n0, .string s0, .slice A0 na0 ca0, .slice B0 nb0 cb0] (g := w.heap.size) (by first | rfl | simp))) 28 #[.int .i64 k1, .int .i64 n1, .string s1, .slice A1 na1 ca1, .slice B1 nb1 cb1] (g := w.heap.size + 1) (by first | rfl | simp))) 25 #[.slice a2 len2 cap2] (g := w.heap.size + 1 + 1) (by first | rfl | simp))) 28 #[.int .i64 k3, .int .i64 n3, .string s3, .slice A3 na3 ca3, .slice B3 nb3 cb3] (g := w.heap.size + 1 + 1 + 1) (by first | rfl | simp))) 9 #[.string s4] (g := w.heap.size + 1 + 1 + 1 + 1) (by first | rfl | simp))).1)).mono ?_
  rintro e w1 ⟨rfl, hb1⟩
  have HH1 := Lib.hid (HA1.out.keep hb1)
  clear hb1 HH0 HA1
  obtain ⟨hc4, hf4, hl4⟩ := HH1.out.b4.rules
  obtain ⟨hc3, hf3, hl3⟩ := HH1.out.b3.rules
  go_wp2_with fail
  refine (cComp_is x0 x1 _ _ _ (HG.out.keep (HH1.out).1) (HV0.out _ (HH1.out).1) (HV1.out _ (HH1.out).1) C0.out C1.out HC.out).mono ?_
  rintro e w2 ⟨rfl, hb2⟩
  have HH2 := Lib.hid (HH1.out.keep hb2)
  clear hc4 hf4 hl4 hc3 hf3 hl3
  clear hb2 HH1
  obtain ⟨hc2, hf2, hl2⟩ := HH2.out.b2.rules
  go_wp2_with fail
  refine (HSO.out _ (HH2.out).1).mono ?_
  rintro e w3 ⟨Al, cl, rfl, hcl, hAl, hRl, hb3⟩
  have HH3 := Lib.hid (HH2.out.keep hb3)
  have hsz : w.heap.size + 1 + 1 + 1 + 1 < w2.heap.size := (HH2.out.b0).lt
  have HRL := Lib.hid hRl
  clear hc2 hf2 hl2
  clear hb3 HH2
  have hne : ∀ {g : Nat}, g ≠ w.heap.size + 1 + 1 → g ≠ (⟨w.heap.size + 1 + 1, 0, none⟩ : Addr).block := fun h => h
  obtain ⟨W5, hW5⟩ : ∃ W5, w3.setCell ⟨w.heap.size + 1 + 1, 0, none⟩ (.slice Al m cl) = W5 := ⟨_, rfl⟩
  have hbE : Below w.heap.size w W5 := by rw [← hW5]; exact (HH3.out.1).setCell (p := ⟨w.heap.size + 1 + 1, 0, none⟩) (by show w.heap.size ≤ w.heap.size + 1 + 1; omega) _
  have HHE : Hid (Hld [(w.heap.size + 1 + 1 + 1 + 1, 9, #[.string s4]), (w.heap.size + 1 + 1 + 1, 28, #[.int .i64 k3, .int .i64 n3, .string s3, .slice A3 na3 ca3, .slice B3 nb3 cb3]), (w.heap.size + 1 + 1, 25, #[.slice Al m cl]), (w.heap.size + 1, 28, #[.int .i64 k1, .int .i64 n1, .string s1, .slice A1 na1 ca1, .slice B1 nb1 cb1]), (w.heap.size, 28, #[.int .i64 k0, .int .i64 n0, .string s0, .slice A0 na0 ca0, .slice B0 nb0 cb0])] [(fun W => RowV W Al cl L)] w W5) := Lib.hid (by
    refine Hld.row (V := []) ⟨⟨hbE, fun x hx => ?_⟩, fun p hp => by cases hp⟩ ?_
    · rw [← hW5]
      simp only [List.mem_cons, List.not_mem_nil, or_false] at hx
      rcases hx with rfl | rfl | rfl | rfl | rfl
      · exact (HH3.out.b0).far (hne (by omega)) _
      · exact (HH3.out.b1).far (hne (by omega)) _
      · exact (HH3.out.b2).set_ 0 _
      · exact (HH3.out.b3).far (hne (by omega)) _
      · exact (HH3.out.b4).far (hne (by omega)) _
    · refine ⟨css2.take 20, HR1.out.below hbE, by rw [HM.out]; exact hcl, hAl, ?_⟩
      rw [← hW5]
      exact (HRL.out.keep ((KeepF.refl (F := fun b => w2.heap.size ≤ b)).set (fun b hb9 => by have : w2.heap.size ≤ b := hb9; omega) 0 _)).mono fun _ _ _ => trivial)
  have HW5 := Lib.hid hW5
  obtain ⟨hc2, hf2, hl2⟩ := HH3.out.b2.rules
  clear hne hbE hW5 hcl hAl
  go_upto_region 7 with (fail)
  rw [HW5.out]
  clear HW5 hc2 hf2 hl2 HH3
  have hmf : ∀ (fn : Fn) (first cap : Array Value) (w : World), (Instr.makeFunc fn first cap).run Tryd.prog w = .ok (.func fn first cap) w := fun _ _ _ _ => rfl
  have HHF : Hid (Hld [(W5.heap.size, 39, #[.func (.func 14) #[] #[.pointer (some ⟨w.heap.size + 1 + 1, 0, none⟩), .pointer (some ⟨w.heap.size + 1 + 1 + 1, 0, none⟩)], .func (.func 16) #[] #[.pointer (some ⟨w.heap.size + 1 + 1 + 1 + 1, 0, none⟩), .pointer (some ⟨w.heap.size + 1 + 1 + 1, 0, none⟩)]]), (w.heap.size + 1 + 1 + 1 + 1, 9, #[.string s4]), (w.heap.size + 1 + 1 + 1, 28, #[.int .i64 k3, .int .i64 n3, .string s3, .slice A3 na3 ca3, .slice B3 nb3 cb3]), (w.heap.size + 1 + 1, 25, #[.slice Al m cl]), (w.heap.size + 1, 28, #[.int .i64 k1, .int .i64 n1, .string s1, .slice A1 na1 ca1, .slice B1 nb1 cb1]), (w.heap.size, 28, #[.int .i64 k0, .int .i64 n0, .string s0, .slice A0 na0 ca0, .slice B0 nb0 cb0])] [(fun W => RowV W Al cl L)] w (W5.alloc (.cells #[.func (.func 14) #[] #[.pointer (some ⟨w.heap.size + 1 + 1, 0, none⟩), .pointer (some ⟨w.heap.size + 1 + 1 + 1, 0, none⟩)], .func (.func 16) #[] #[.pointer (some ⟨w.heap.size + 1 + 1 + 1 + 1, 0, none⟩), .pointer (some ⟨w.heap.size + 1 + 1 + 1, 0, none⟩)]] 39))) := Lib.hid (HHE.out.push 39 #[.func (.func 14) #[] #[.pointer (some ⟨w.heap.size + 1 + 1, 0, none⟩), .pointer (some ⟨w.heap.size + 1 + 1 + 1, 0, none⟩)], .func (.func 16) #[] #[.pointer (some ⟨w.heap.size + 1 + 1 + 1 + 1, 0, none⟩), .pointer (some ⟨w.heap.size + 1 + 1 + 1, 0, none⟩)]] rfl)
  go_wp2
  clear hmf
  go_loopg [45] 2 (fun gk s45 wr => ∃ i : Nat, i ≤ 2 ∧ gk = 2 - i ∧ s45 = .int .i64 i ∧ Hid (Hld [(W5.heap.size, 39, #[.func (.func 14) #[] #[.pointer (some ⟨w.heap.size + 1 + 1, 0, none⟩), .pointer (some ⟨w.heap.size + 1 + 1 + 1, 0, none⟩)], .func (.func 16) #[] #[.pointer (some ⟨w.heap.size + 1 + 1 + 1 + 1, 0, none⟩), .pointer (some ⟨w.heap.size + 1 + 1 + 1, 0, none⟩)]]), (w.heap.size + 1 + 1 + 1 + 1, 9, #[.string s4]), (w.heap.size + 1 + 1 + 1, 28, #[.int .i64 k3, .int .i64 n3, .string s3, .slice A3 na3 ca3, .slice B3 nb3 cb3]), (w.heap.size + 1 + 1, 25, #[.slice Al m cl]), (w.heap.size + 1, 28, #[.int .i64 k1, .int .i64 n1, .string s1, .slice A1 na1 ca1, .slice B1 nb1 cb1]), (w.heap.size, 28, #[.int .i64 k0, .int .i64 n0, .string s0, .slice A0 na0 ca0, .slice B0 nb0 cb0])] [(fun W => RowV W Al cl L)] w wr))
  case atStart => exact ⟨0, by omega, rfl, by go_num, HHF⟩
  case round =>
    obtain ⟨i, hi, hgk, rfl, HB⟩ := hrel
    have HGK := Lib.hid hgk
    clear hgk
    obtain ⟨hc0, hf0, hl0⟩ := HB.out.b0.rules
    have hi3 : i = 0 ∨ i = 1 ∨ i = 2 := by omega
    rcases hi3 with rfl | rfl | rfl
    · go_wp2
      clear hc0 hf0 hl0
      by_cases hgg : gd (jRow L x0 x3) ∧ gd (jRow L x1 x3)
      · have HCF := Lib.hid (show cmpO (jRow L x0 x3) (jRow L x1 x3) = (p, 0) by rw [cmpO_yes hgg.1 hgg.2, HCR.out])
        have HQA := Lib.hid (show chkJ (jRow L x0 x3) = 0 from if_pos hgg.1)
        have HQB := Lib.hid (show chkJ (jRow L x1 x3) = 0 from if_pos hgg.2)
        clear hgg
        refine wp_region_held_drew (S := fun w' => Below wr.heap.size wr w') (by kernel_rfl) (by exact (Below.refl _ _).drew) (fun hHeld => ?_)
        refine wpAnyH_take (i := 0) (oi := ⟨some 50, _, _, _, _, _⟩) (v := .func (.func 14) #[] #[.pointer (some ⟨w.heap.size + 1 + 1, 0, none⟩), .pointer (some ⟨w.heap.size + 1 + 1 + 1, 0, none⟩)]) rfl (by kernel_rfl) (by kernel_rfl) (by kernel_rfl) (fun _ _ _ h => h) (Or.inl ⟨by kernel_rfl, ?_⟩) (by assumption) ?_
        · intro W hSw; go_simp
        try simp only [Act.put, List.setIfInBounds_toArray, List.set_cons_zero, List.set_cons_succ]
        refine wpAnyH_take (i := 1) (oi := ⟨some 51, _, _, _, _, _⟩) (v := .agg #[.int .i64 k0, .int .i64 n0, .string s0, .slice A0 na0 ca0, .slice B0 nb0 cb0]) rfl (by kernel_rfl) (by kernel_rfl) (by kernel_rfl) (fun _ _ _ h => h) (Or.inl ⟨by kernel_rfl, ?_⟩) (by assumption) ?_
        · intro W hSw; obtain ⟨d1, d2, d3⟩ := (HB.out.keep hSw).b5.rules; go_simp
        try simp only [Act.put, List.setIfInBounds_toArray, List.set_cons_zero, List.set_cons_succ]
        refine wpAnyH_take (i := 3) (oi := ⟨some 53, _, _, _, _, _⟩) (v := .func (.func 14) #[] #[.pointer (some ⟨w.heap.size + 1 + 1, 0, none⟩), .pointer (some ⟨w.heap.size + 1 + 1 + 1, 0, none⟩)]) rfl (by kernel_rfl) (by kernel_rfl) (by kernel_rfl) (fun _ _ _ h => h) (Or.inl ⟨by kernel_rfl, ?_⟩) (by assumption) ?_
        · intro W hSw; go_simp
        try simp only [Act.put, List.setIfInBounds_toArray, List.set_cons_zero, List.set_cons_succ]
        refine wpAnyH_take (i := 4) (oi := ⟨some 54, _, _, _, _, _⟩) (v := .agg #[.int .i64 k1, .int .i64 n1, .string s1, .slice A1 na1 ca1, .slice B1 nb1 cb1]) rfl (by kernel_rfl) (by kernel_rfl) (by kernel_rfl) (fun _ _ _ h => h) (Or.inl ⟨by kernel_rfl, ?_⟩) (by assumption) ?_
        · intro W hSw; obtain ⟨d1, d2, d3⟩ := (HB.out.keep hSw).b4.rules; go_simp
        try simp only [Act.put, List.setIfInBounds_toArray, List.set_cons_zero, List.set_cons_succ]
        refine wpAnyH_ready (rs := [2]) (by kernel_rfl) (by simp) ?_
        refine AllReadyH.cons (o := ⟨some 52, _, _, _, _, _⟩) rfl (fun K hK => ?_) AllReadyH.nil
        go_simp
        refine (clRow L x0 x3 _ _ Al m cl _ _ _ ((HB.out.keep ((Below.refl wr.heap.size wr).drew)).v0) HM.out (by omega) (HV0.out _ (HB.out.bel.trans (Below.mono ((Below.refl wr.heap.size wr).drew) HB.out.bel.size))) (HV3.out _ (HB.out.bel.trans (Below.mono ((Below.refl wr.heap.size wr).drew) HB.out.bel.size))) (HB.out.keep ((Below.refl wr.heap.size wr).drew)).b3 (HB.out.keep ((Below.refl wr.heap.size wr).drew)).b2).mono ?_
        rintro e u41 ⟨csr, rfl, hvr, hb⟩
        have HB41 := Lib.hid (Below.trans ((Below.refl wr.heap.size wr).drew) (hb.mono (Below.size ((Below.refl wr.heap.size wr).drew))))
        have HVp := Lib.hid hvr
        obtain ⟨kp, np, sp, Ap, nap, cap, Bp, nbp, cbp, rfl⟩ := hvr.form
        clear hb hvr
        refine hK.out _ _ (by exact HB41.out) (fun hHeld2 => ?_)
        clear hK K hHeld
        have hHeld := hHeld2
        clear hHeld2
        try simp only [Act.put, List.setIfInBounds_toArray, List.set_cons_zero, List.set_cons_succ]
        refine wpAnyH_ready (rs := [5]) (by kernel_rfl) (by simp) ?_
        refine AllReadyH.cons (o := ⟨some 55, _, _, _, _, _⟩) rfl (fun K hK => ?_) AllReadyH.nil
        go_simp
        refine (clRow L x1 x3 _ _ Al m cl _ _ _ ((HB.out.keep HB41.out).v0) HM.out (by omega) (HV1.out _ (HB.out.bel.trans (Below.mono HB41.out HB.out.bel.size))) (HV3.out _ (HB.out.bel.trans (Below.mono HB41.out HB.out.bel.size))) (HB.out.keep HB41.out).b3 (HB.out.keep HB41.out).b2).mono ?_
        rintro e u42 ⟨csr, rfl, hvr, hb⟩
        have HB42 := Lib.hid (Below.trans HB41.out (hb.mono (Below.size HB41.out)))
        have HVq := Lib.hid hvr
        obtain ⟨kq, nq, sq, Aq, naq, caq, Bq, nbq, cbq, rfl⟩ := hvr.form
        have HVpp := Lib.hid (HVp.out.bel hb)
        clear hb hvr
        refine hK.out _ _ (by exact HB42.out) (fun hHeld2 => ?_)
        clear hK K hHeld
        have hHeld := hHeld2
        clear hHeld2
        try simp only [Act.put, List.setIfInBounds_toArray, List.set_cons_zero, List.set_cons_succ]
        refine wpAnyH_ready (rs := [6]) (by kernel_rfl) (by simp) ?_
        refine AllReadyH.cons (o := ⟨some 56, _, _, _, _, _⟩) rfl (fun K hK => ?_) AllReadyH.nil
        go_simp
        refine (cComp_is (jRow L x0 x3) (jRow L x1 x3) _ _ _ (HG.out.keep (HB.out.bel.trans (Below.mono HB42.out HB.out.bel.size))) HVpp.out HVq.out FR0.out FR1.out HCF.out).mono ?_
        rintro e u43 ⟨rfl, hb⟩
        have HB43 := Lib.hid (HB42.out.trans (hb.mono HB42.out.size))
        clear hb
        refine hK.out _ _ (by exact HB43.out) (fun hHeld2 => ?_)
        clear hK K hHeld
        have hHeld := hHeld2
        clear hHeld2
        try simp only [Act.put, List.setIfInBounds_toArray, List.set_cons_zero, List.set_cons_succ]
        refine wpAnyH_take (i := 7) (oi := ⟨some 49, _, _, _, _, _⟩) (v := .tuple #[.int .i64 p, .int .i64 0]) rfl (by kernel_rfl) (by kernel_rfl) (by kernel_rfl) (fun _ _ _ h => h) (Or.inl ⟨by kernel_rfl, ?_⟩) (by assumption) ?_
        · intro W hSw; go_simp
        try simp only [Act.put, List.setIfInBounds_toArray, List.set_cons_zero, List.set_cons_succ]
        refine wpAnyH_take (i := 8) (oi := ⟨some 57, _, _, _, _, _⟩) (v := .int .i64 p) rfl (by kernel_rfl) (by kernel_rfl) (by kernel_rfl) (fun _ _ _ h => h) (Or.inl ⟨by kernel_rfl, ?_⟩) (by assumption) ?_
        · intro W hSw; go_simp
        try simp only [Act.put, List.setIfInBounds_toArray, List.set_cons_zero, List.set_cons_succ]
        refine wpAnyH_take (i := 9) (oi := ⟨some 58, _, _, _, _, _⟩) (v := .int .i64 0) rfl (by kernel_rfl) (by kernel_rfl) (by kernel_rfl) (fun _ _ _ h => h) (Or.inl ⟨by kernel_rfl, ?_⟩) (by assumption) ?_
        · intro W hSw; go_simp
        try simp only [Act.put, List.setIfInBounds_toArray, List.set_cons_zero, List.set_cons_succ]
        refine wpAnyH_take (i := 10) (oi := ⟨some 17, _, _, _, _, _⟩) (v := .int .i64 p) rfl (by kernel_rfl) (by kernel_rfl) (by kernel_rfl) (fun _ _ _ h => h) (Or.inl ⟨by kernel_rfl, ?_⟩) (by assumption) ?_
        · intro W hSw; go_simp
        try simp only [Act.put, List.setIfInBounds_toArray, List.set_cons_zero, List.set_cons_succ]
        refine wpAnyH_take (i := 11) (oi := ⟨some 18, _, _, _, _, _⟩) (v := .int .i64 0) rfl (by kernel_rfl) (by kernel_rfl) (by kernel_rfl) (fun _ _ _ h => h) (Or.inl ⟨by kernel_rfl, ?_⟩) (by assumption) ?_
        · intro W hSw; go_simp
        try simp only [Act.put, List.setIfInBounds_toArray, List.set_cons_zero, List.set_cons_succ]
        refine wpAnyH_done (by kernel_rfl) ?_ _
        have HBB := Lib.hid (HB.out.keep HB43.out)
        clear HVp HVpp HVq HB41 HB42 HB43 hHeld
        go_wp2
        refine wp_region_held_drew (S := fun w' => Below u43.heap.size u43 w') (by kernel_rfl) (by exact (Below.refl _ _).drew) (fun hHeld => ?_)
        refine wpAnyH_take (i := 0) (oi := ⟨some 74, _, _, _, _, _⟩) (v := .func (.func 14) #[] #[.pointer (some ⟨w.heap.size + 1 + 1, 0, none⟩), .pointer (some ⟨w.heap.size + 1 + 1 + 1, 0, none⟩)]) rfl (by kernel_rfl) (by kernel_rfl) (by kernel_rfl) (fun _ _ _ h => h) (Or.inl ⟨by kernel_rfl, ?_⟩) (by assumption) ?_
        · intro W hSw; go_simp
        try simp only [Act.put, List.setIfInBounds_toArray, List.set_cons_zero, List.set_cons_succ]
        refine wpAnyH_take (i := 1) (oi := ⟨some 75, _, _, _, _, _⟩) (v := .agg #[.int .i64 k0, .int .i64 n0, .string s0, .slice A0 na0 ca0, .slice B0 nb0 cb0]) rfl (by kernel_rfl) (by kernel_rfl) (by kernel_rfl) (fun _ _ _ h => h) (Or.inl ⟨by kernel_rfl, ?_⟩) (by assumption) ?_
        · intro W hSw; obtain ⟨d1, d2, d3⟩ := (HBB.out.keep hSw).b5.rules; go_simp
        try simp only [Act.put, List.setIfInBounds_toArray, List.set_cons_zero, List.set_cons_succ]
        refine wpAnyH_take (i := 5) (oi := ⟨some 79, _, _, _, _, _⟩) (v := .func (.func 14) #[] #[.pointer (some ⟨w.heap.size + 1 + 1, 0, none⟩), .pointer (some ⟨w.heap.size + 1 + 1 + 1, 0, none⟩)]) rfl (by kernel_rfl) (by kernel_rfl) (by kernel_rfl) (fun _ _ _ h => h) (Or.inl ⟨by kernel_rfl, ?_⟩) (by assumption) ?_
        · intro W hSw; go_simp
        try simp only [Act.put, List.setIfInBounds_toArray, List.set_cons_zero, List.set_cons_succ]
        refine wpAnyH_take (i := 6) (oi := ⟨some 80, _, _, _, _, _⟩) (v := .agg #[.int .i64 k1, .int .i64 n1, .string s1, .slice A1 na1 ca1, .slice B1 nb1 cb1]) rfl (by kernel_rfl) (by kernel_rfl) (by kernel_rfl) (fun _ _ _ h => h) (Or.inl ⟨by kernel_rfl, ?_⟩) (by assumption) ?_
        · intro W hSw; obtain ⟨d1, d2, d3⟩ := (HBB.out.keep hSw).b4.rules; go_simp
        try simp only [Act.put, List.setIfInBounds_toArray, List.set_cons_zero, List.set_cons_succ]
        refine wpAnyH_ready (rs := [2]) (by kernel_rfl) (by simp) ?_
        refine AllReadyH.cons (o := ⟨some 76, _, _, _, _, _⟩) rfl (fun K hK => ?_) AllReadyH.nil
        go_simp
        refine (clRow L x0 x3 _ _ Al m cl _ _ _ ((HBB.out.keep ((Below.refl u43.heap.size u43).drew)).v0) HM.out (by omega) (HV0.out _ (HBB.out.bel.trans (Below.mono ((Below.refl u43.heap.size u43).drew) HBB.out.bel.size))) (HV3.out _ (HBB.out.bel.trans (Below.mono ((Below.refl u43.heap.size u43).drew) HBB.out.bel.size))) (HBB.out.keep ((Below.refl u43.heap.size u43).drew)).b3 (HBB.out.keep ((Below.refl u43.heap.size u43).drew)).b2).mono ?_
        rintro e u51 ⟨csr, rfl, hvr, hb⟩
        have HB51 := Lib.hid (Below.trans ((Below.refl u43.heap.size u43).drew) (hb.mono (Below.size ((Below.refl u43.heap.size u43).drew))))
        have HVp := Lib.hid hvr
        obtain ⟨kp, np, sp, Ap, nap, cap, Bp, nbp, cbp, rfl⟩ := hvr.form
        clear hb hvr
        refine hK.out _ _ (by exact HB51.out) (fun hHeld2 => ?_)
        clear hK K hHeld
        have hHeld := hHeld2
        clear hHeld2
        try simp only [Act.put, List.setIfInBounds_toArray, List.set_cons_zero, List.set_cons_succ]
        refine wpAnyH_ready (rs := [3]) (by kernel_rfl) (by simp) ?_
        refine AllReadyH.cons (o := ⟨some 77, _, _, _, _, _⟩) rfl (fun K hK => ?_) AllReadyH.nil
        go_simp
        refine (vCheck_is HQA.out (HG.out.keep (HBB.out.bel.trans (Below.mono HB51.out HBB.out.bel.size))) HVp.out FR0.out).mono ?_
        rintro e u52 ⟨rfl, hb⟩
        have HB52 := Lib.hid (HB51.out.trans (hb.mono HB51.out.size))
        clear hb
        refine hK.out _ _ (by exact HB52.out) (fun hHeld2 => ?_)
        clear hK K hHeld
        have hHeld := hHeld2
        clear hHeld2
        try simp only [Act.put, List.setIfInBounds_toArray, List.set_cons_zero, List.set_cons_succ]
        refine wpAnyH_take (i := 4) (oi := ⟨some 78, _, _, _, _, _⟩) (v := .bool true) rfl (by kernel_rfl) (by kernel_rfl) (by kernel_rfl) (fun _ _ _ h => h) (Or.inl ⟨by kernel_rfl, ?_⟩) (by assumption) ?_
        · intro W hSw; go_simp
        try simp only [Act.put, List.setIfInBounds_toArray, List.set_cons_zero, List.set_cons_succ]
        refine wpAnyH_ready (rs := [7]) (by kernel_rfl) (by simp) ?_
        refine AllReadyH.cons (o := ⟨some 81, _, _, _, _, _⟩) rfl (fun K hK => ?_) AllReadyH.nil
        go_simp
        refine (clRow L x1 x3 _ _ Al m cl _ _ _ ((HBB.out.keep HB52.out).v0) HM.out (by omega) (HV1.out _ (HBB.out.bel.trans (Below.mono HB52.out HBB.out.bel.size))) (HV3.out _ (HBB.out.bel.trans (Below.mono HB52.out HBB.out.bel.size))) (HBB.out.keep HB52.out).b3 (HBB.out.keep HB52.out).b2).mono ?_
        rintro e u53 ⟨csr, rfl, hvr, hb⟩
        have HB53 := Lib.hid (Below.trans HB52.out (hb.mono (Below.size HB52.out)))
        have HVq := Lib.hid hvr
        obtain ⟨kq, nq, sq, Aq, naq, caq, Bq, nbq, cbq, rfl⟩ := hvr.form
        clear hb hvr
        refine hK.out _ _ (by exact HB53.out) (fun hHeld2 => ?_)
        clear hK K hHeld
        have hHeld := hHeld2
        clear hHeld2
        try simp only [Act.put, List.setIfInBounds_toArray, List.set_cons_zero, List.set_cons_succ]
        refine wpAnyH_ready (rs := [8]) (by kernel_rfl) (by simp) ?_
        refine AllReadyH.cons (o := ⟨some 82, _, _, _, _, _⟩) rfl (fun K hK => ?_) AllReadyH.nil
        go_simp
        refine (vCheck_is HQB.out (HG.out.keep (HBB.out.bel.trans (Below.mono HB53.out HBB.out.bel.size))) HVq.out FR1.out).mono ?_
        rintro e u54 ⟨rfl, hb⟩
        have HB54 := Lib.hid (HB53.out.trans (hb.mono HB53.out.size))
        clear hb
        refine hK.out _ _ (by exact HB54.out) (fun hHeld2 => ?_)
        clear hK K hHeld
        have hHeld := hHeld2
        clear hHeld2
        try simp only [Act.put, List.setIfInBounds_toArray, List.set_cons_zero, List.set_cons_succ]
        refine wpAnyH_take (i := 9) (oi := ⟨some 83, _, _, _, _, _⟩) (v := .bool true) rfl (by kernel_rfl) (by kernel_rfl) (by kernel_rfl) (fun _ _ _ h => h) (Or.inl ⟨by kernel_rfl, ?_⟩) (by assumption) ?_
        · intro W hSw; go_simp
        try simp only [Act.put, List.setIfInBounds_toArray, List.set_cons_zero, List.set_cons_succ]
        refine wpAnyH_take (i := 10) (oi := ⟨some 19, _, _, _, _, _⟩) (v := .bool true) rfl (by kernel_rfl) (by kernel_rfl) (by kernel_rfl) (fun _ _ _ h => h) (Or.inl ⟨by kernel_rfl, ?_⟩) (by assumption) ?_
        · intro W hSw; go_simp
        try simp only [Act.put, List.setIfInBounds_toArray, List.set_cons_zero, List.set_cons_succ]
        refine wpAnyH_take (i := 11) (oi := ⟨some 20, _, _, _, _, _⟩) (v := .bool true) rfl (by kernel_rfl) (by kernel_rfl) (by kernel_rfl) (fun _ _ _ h => h) (Or.inl ⟨by kernel_rfl, ?_⟩) (by assumption) ?_
        · intro W hSw; go_simp
        try simp only [Act.put, List.setIfInBounds_toArray, List.set_cons_zero, List.set_cons_succ]
        refine wpAnyH_done (by kernel_rfl) ?_ _
        have HBC := Lib.hid (HBB.out.keep HB54.out)
        clear HVp HVq HB51 HB52 HB53 HB54 hHeld
        go_wp2
        go_roundg (2 - (0 + 1))
        case measure => rw [HGK.out]; omega
        case rel => exact ⟨0 + 1, by omega, rfl, by go_num, HBC⟩
      · have HCF := Lib.hid (cmpO_no hgg)
        obtain ⟨qa, hqa⟩ : ∃ q, chkJ (jRow L x0 x3) = q := ⟨_, rfl⟩
        obtain ⟨qb, hqb⟩ : ∃ q, chkJ (jRow L x1 x3) = q := ⟨_, rfl⟩
        have HQQ := Lib.hid (show (qa = 0 ∧ qb = 140) ∨ (qa = 140 ∧ qb = 0) ∨ (qa = 140 ∧ qb = 140) by
          rcases chk_if (jRow L x0 x3) with ⟨g1, e1⟩ | ⟨g1, e1⟩ <;> rcases chk_if (jRow L x1 x3) with ⟨g2, e2⟩ | ⟨g2, e2⟩ <;> rw [hqa] at e1 <;> rw [hqb] at e2 <;> simp [e1, e2]
          exact absurd ⟨g1, g2⟩ hgg)
        have HQA := Lib.hid hqa
        have HQB := Lib.hid hqb
        clear hgg hqa hqb
        refine wp_region_held_drew (S := fun w' => Below wr.heap.size wr w') (by kernel_rfl) (by exact (Below.refl _ _).drew) (fun hHeld => ?_)
        refine wpAnyH_take (i := 0) (oi := ⟨some 50, _, _, _, _, _⟩) (v := .func (.func 14) #[] #[.pointer (some ⟨w.heap.size + 1 + 1, 0, none⟩), .pointer (some ⟨w.heap.size + 1 + 1 + 1, 0, none⟩)]) rfl (by kernel_rfl) (by kernel_rfl) (by kernel_rfl) (fun _ _ _ h => h) (Or.inl ⟨by kernel_rfl, ?_⟩) (by assumption) ?_
        · intro W hSw; go_simp
        try simp only [Act.put, List.setIfInBounds_toArray, List.set_cons_zero, List.set_cons_succ]
        refine wpAnyH_take (i := 1) (oi := ⟨some 51, _, _, _, _, _⟩) (v := .agg #[.int .i64 k0, .int .i64 n0, .string s0, .slice A0 na0 ca0, .slice B0 nb0 cb0]) rfl (by kernel_rfl) (by kernel_rfl) (by kernel_rfl) (fun _ _ _ h => h) (Or.inl ⟨by kernel_rfl, ?_⟩) (by assumption) ?_
        · intro W hSw; obtain ⟨d1, d2, d3⟩ := (HB.out.keep hSw).b5.rules; go_simp
        try simp only [Act.put, List.setIfInBounds_toArray, List.set_cons_zero, List.set_cons_succ]
        refine wpAnyH_take (i := 3) (oi := ⟨some 53, _, _, _, _, _⟩) (v := .func (.func 14) #[] #[.pointer (some ⟨w.heap.size + 1 + 1, 0, none⟩), .pointer (some ⟨w.heap.size + 1 + 1 + 1, 0, none⟩)]) rfl (by kernel_rfl) (by kernel_rfl) (by kernel_rfl) (fun _ _ _ h => h) (Or.inl ⟨by kernel_rfl, ?_⟩) (by assumption) ?_
        · intro W hSw; go_simp
        try simp only [Act.put, List.setIfInBounds_toArray, List.set_cons_zero, List.set_cons_succ]
        refine wpAnyH_take (i := 4) (oi := ⟨some 54, _, _, _, _, _⟩) (v := .agg #[.int .i64 k1, .int .i64 n1, .string s1, .slice A1 na1 ca1, .slice B1 nb1 cb1]) rfl (by kernel_rfl) (by kernel_rfl) (by kernel_rfl) (fun _ _ _ h => h) (Or.inl ⟨by kernel_rfl, ?_⟩) (by assumption) ?_
        · intro W hSw; obtain ⟨d1, d2, d3⟩ := (HB.out.keep hSw).b4.rules; go_simp
        try simp only [Act.put, List.setIfInBounds_toArray, List.set_cons_zero, List.set_cons_succ]
        refine wpAnyH_ready (rs := [2]) (by kernel_rfl) (by simp) ?_
        refine AllReadyH.cons (o := ⟨some 52, _, _, _, _, _⟩) rfl (fun K hK => ?_) AllReadyH.nil
        go_simp
        refine (clRow L x0 x3 _ _ Al m cl _ _ _ ((HB.out.keep ((Below.refl wr.heap.size wr).drew)).v0) HM.out (by omega) (HV0.out _ (HB.out.bel.trans (Below.mono ((Below.refl wr.heap.size wr).drew) HB.out.bel.size))) (HV3.out _ (HB.out.bel.trans (Below.mono ((Below.refl wr.heap.size wr).drew) HB.out.bel.size))) (HB.out.keep ((Below.refl wr.heap.size wr).drew)).b3 (HB.out.keep ((Below.refl wr.heap.size wr).drew)).b2).mono ?_
        rintro e u41 ⟨csr, rfl, hvr, hb⟩
        have HB41 := Lib.hid (Below.trans ((Below.refl wr.heap.size wr).drew) (hb.mono (Below.size ((Below.refl wr.heap.size wr).drew))))
        have HVp := Lib.hid hvr
        obtain ⟨kp, np, sp, Ap, nap, cap, Bp, nbp, cbp, rfl⟩ := hvr.form
        clear hb hvr
        refine hK.out _ _ (by exact HB41.out) (fun hHeld2 => ?_)
        clear hK K hHeld
        have hHeld := hHeld2
        clear hHeld2
        try simp only [Act.put, List.setIfInBounds_toArray, List.set_cons_zero, List.set_cons_succ]
        refine wpAnyH_ready (rs := [5]) (by kernel_rfl) (by simp) ?_
        refine AllReadyH.cons (o := ⟨some 55, _, _, _, _, _⟩) rfl (fun K hK => ?_) AllReadyH.nil
        go_simp
        refine (clRow L x1 x3 _ _ Al m cl _ _ _ ((HB.out.keep HB41.out).v0) HM.out (by omega) (HV1.out _ (HB.out.bel.trans (Below.mono HB41.out HB.out.bel.size))) (HV3.out _ (HB.out.bel.trans (Below.mono HB41.out HB.out.bel.size))) (HB.out.keep HB41.out).b3 (HB.out.keep HB41.out).b2).mono ?_
        rintro e u42 ⟨csr, rfl, hvr, hb⟩
        have HB42 := Lib.hid (Below.trans HB41.out (hb.mono (Below.size HB41.out)))
        have HVq := Lib.hid hvr
        obtain ⟨kq, nq, sq, Aq, naq, caq, Bq, nbq, cbq, rfl⟩ := hvr.form
        have HVpp := Lib.hid (HVp.out.bel hb)
        clear hb hvr
        refine hK.out _ _ (by exact HB42.out) (fun hHeld2 => ?_)
        clear hK K hHeld
        have hHeld := hHeld2
        clear hHeld2
        try simp only [Act.put, List.setIfInBounds_toArray, List.set_cons_zero, List.set_cons_succ]
        refine wpAnyH_ready (rs := [6]) (by kernel_rfl) (by simp) ?_
        refine AllReadyH.cons (o := ⟨some 56, _, _, _, _, _⟩) rfl (fun K hK => ?_) AllReadyH.nil
        go_simp
        refine (cComp_is (jRow L x0 x3) (jRow L x1 x3) _ _ _ (HG.out.keep (HB.out.bel.trans (Below.mono HB42.out HB.out.bel.size))) HVpp.out HVq.out FR0.out FR1.out HCF.out).mono ?_
        rintro e u43 ⟨rfl, hb⟩
        have HB43 := Lib.hid (HB42.out.trans (hb.mono HB42.out.size))
        clear hb
        refine hK.out _ _ (by exact HB43.out) (fun hHeld2 => ?_)
        clear hK K hHeld
        have hHeld := hHeld2
        clear hHeld2
        try simp only [Act.put, List.setIfInBounds_toArray, List.set_cons_zero, List.set_cons_succ]
        refine wpAnyH_take (i := 7) (oi := ⟨some 49, _, _, _, _, _⟩) (v := .tuple #[.int .i64 0, .int .i64 140]) rfl (by kernel_rfl) (by kernel_rfl) (by kernel_rfl) (fun _ _ _ h => h) (Or.inl ⟨by kernel_rfl, ?_⟩) (by assumption) ?_
        · intro W hSw; go_simp
        try simp only [Act.put, List.setIfInBounds_toArray, List.set_cons_zero, List.set_cons_succ]
        refine wpAnyH_take (i := 8) (oi := ⟨some 57, _, _, _, _, _⟩) (v := .int .i64 0) rfl (by kernel_rfl) (by kernel_rfl) (by kernel_rfl) (fun _ _ _ h => h) (Or.inl ⟨by kernel_rfl, ?_⟩) (by assumption) ?_
        · intro W hSw; go_simp
        try simp only [Act.put, List.setIfInBounds_toArray, List.set_cons_zero, List.set_cons_succ]
        refine wpAnyH_take (i := 9) (oi := ⟨some 58, _, _, _, _, _⟩) (v := .int .i64 140) rfl (by kernel_rfl) (by kernel_rfl) (by kernel_rfl) (fun _ _ _ h => h) (Or.inl ⟨by kernel_rfl, ?_⟩) (by assumption) ?_
        · intro W hSw; go_simp
        try simp only [Act.put, List.setIfInBounds_toArray, List.set_cons_zero, List.set_cons_succ]
        refine wpAnyH_take (i := 10) (oi := ⟨some 17, _, _, _, _, _⟩) (v := .int .i64 0) rfl (by kernel_rfl) (by kernel_rfl) (by kernel_rfl) (fun _ _ _ h => h) (Or.inl ⟨by kernel_rfl, ?_⟩) (by assumption) ?_
        · intro W hSw; go_simp
        try simp only [Act.put, List.setIfInBounds_toArray, List.set_cons_zero, List.set_cons_succ]
        refine wpAnyH_take (i := 11) (oi := ⟨some 18, _, _, _, _, _⟩) (v := .int .i64 140) rfl (by kernel_rfl) (by kernel_rfl) (by kernel_rfl) (fun _ _ _ h => h) (Or.inl ⟨by kernel_rfl, ?_⟩) (by assumption) ?_
        · intro W hSw; go_simp
        try simp only [Act.put, List.setIfInBounds_toArray, List.set_cons_zero, List.set_cons_succ]
        refine wpAnyH_done (by kernel_rfl) ?_ _
        have HBB := Lib.hid (HB.out.keep HB43.out)
        clear HVp HVpp HVq HB41 HB42 HB43 hHeld
        go_wp2
        refine wp_region_held_drew (S := fun w' => Below u43.heap.size u43 w') (by kernel_rfl) (by exact (Below.refl _ _).drew) (fun hHeld => ?_)
        refine wpAnyH_take (i := 0) (oi := ⟨some 74, _, _, _, _, _⟩) (v := .func (.func 14) #[] #[.pointer (some ⟨w.heap.size + 1 + 1, 0, none⟩), .pointer (some ⟨w.heap.size + 1 + 1 + 1, 0, none⟩)]) rfl (by kernel_rfl) (by kernel_rfl) (by kernel_rfl) (fun _ _ _ h => h) (Or.inl ⟨by kernel_rfl, ?_⟩) (by assumption) ?_
        · intro W hSw; go_simp
        try simp only [Act.put, List.setIfInBounds_toArray, List.set_cons_zero, List.set_cons_succ]
        refine wpAnyH_take (i := 1) (oi := ⟨some 75, _, _, _, _, _⟩) (v := .agg #[.int .i64 k0, .int .i64 n0, .string s0, .slice A0 na0 ca0, .slice B0 nb0 cb0]) rfl (by kernel_rfl) (by kernel_rfl) (by kernel_rfl) (fun _ _ _ h => h) (Or.inl ⟨by kernel_rfl, ?_⟩) (by assumption) ?_
        · intro W hSw; obtain ⟨d1, d2, d3⟩ := (HBB.out.keep hSw).b5.rules; go_simp
        try simp only [Act.put, List.setIfInBounds_toArray, List.set_cons_zero, List.set_cons_succ]
        refine wpAnyH_take (i := 5) (oi := ⟨some 79, _, _, _, _, _⟩) (v := .func (.func 14) #[] #[.pointer (some ⟨w.heap.size + 1 + 1, 0, none⟩), .pointer (some ⟨w.heap.size + 1 + 1 + 1, 0, none⟩)]) rfl (by kernel_rfl) (by kernel_rfl) (by kernel_rfl) (fun _ _ _ h => h) (Or.inl ⟨by kernel_rfl, ?_⟩) (by assumption) ?_
        · intro W hSw; go_simp
        try simp only [Act.put, List.setIfInBounds_toArray, List.set_cons_zero, List.set_cons_succ]
        refine wpAnyH_take (i := 6) (oi := ⟨some 80, _, _, _, _, _⟩) (v := .agg #[.int .i64 k1, .int .i64 n1, .string s1, .slice A1 na1 ca1, .slice B1 nb1 cb1]) rfl (by kernel_rfl) (by kernel_rfl) (by kernel_rfl) (fun _ _ _ h => h) (Or.inl ⟨by kernel_rfl, ?_⟩) (by assumption) ?_
        · intro W hSw; obtain ⟨d1, d2, d3⟩ := (HBB.out.keep hSw).b4.rules; go_simp
        try simp only [Act.put, List.setIfInBounds_toArray, List.set_cons_zero, List.set_cons_succ]
        refine wpAnyH_ready (rs := [2]) (by kernel_rfl) (by simp) ?_
        refine AllReadyH.cons (o := ⟨some 76, _, _, _, _, _⟩) rfl (fun K hK => ?_) AllReadyH.nil
        go_simp
        refine (clRow L x0 x3 _ _ Al m cl _ _ _ ((HBB.out.keep ((Below.refl u43.heap.size u43).drew)).v0) HM.out (by omega) (HV0.out _ (HBB.out.bel.trans (Below.mono ((Below.refl u43.heap.size u43).drew) HBB.out.bel.size))) (HV3.out _ (HBB.out.bel.trans (Below.mono ((Below.refl u43.heap.size u43).drew) HBB.out.bel.size))) (HBB.out.keep ((Below.refl u43.heap.size u43).drew)).b3 (HBB.out.keep ((Below.refl u43.heap.size u43).drew)).b2).mono ?_
        rintro e u51 ⟨csr, rfl, hvr, hb⟩
        have HB51 := Lib.hid (Below.trans ((Below.refl u43.heap.size u43).drew) (hb.mono (Below.size ((Below.refl u43.heap.size u43).drew))))
        have HVp := Lib.hid hvr
        obtain ⟨kp, np, sp, Ap, nap, cap, Bp, nbp, cbp, rfl⟩ := hvr.form
        clear hb hvr
        refine hK.out _ _ (by exact HB51.out) (fun hHeld2 => ?_)
        clear hK K hHeld
        have hHeld := hHeld2
        clear hHeld2
        try simp only [Act.put, List.setIfInBounds_toArray, List.set_cons_zero, List.set_cons_succ]
        refine wpAnyH_ready (rs := [3]) (by kernel_rfl) (by simp) ?_
        refine AllReadyH.cons (o := ⟨some 77, _, _, _, _, _⟩) rfl (fun K hK => ?_) AllReadyH.nil
        go_simp
        refine (vCheck_is HQA.out (HG.out.keep (HBB.out.bel.trans (Below.mono HB51.out HBB.out.bel.size))) HVp.out FR0.out).mono ?_
        rintro e u52 ⟨rfl, hb⟩
        have HB52 := Lib.hid (HB51.out.trans (hb.mono HB51.out.size))
        clear hb
        refine hK.out _ _ (by exact HB52.out) (fun hHeld2 => ?_)
        clear hK K hHeld
        have hHeld := hHeld2
        clear hHeld2
        try simp only [Act.put, List.setIfInBounds_toArray, List.set_cons_zero, List.set_cons_succ]
        refine wpAnyH_take (i := 4) (oi := ⟨some 78, _, _, _, _, _⟩) (v := .bool (decide (qa = 0))) rfl (by kernel_rfl) (by kernel_rfl) (by kernel_rfl) (fun _ _ _ h => h) (Or.inl ⟨by kernel_rfl, ?_⟩) (by assumption) ?_
        · intro W hSw; go_simp; first | done | rfl | (rw [Bool.eq_iff_iff]; simp)
        try simp only [Act.put, List.setIfInBounds_toArray, List.set_cons_zero, List.set_cons_succ]
        refine wpAnyH_ready (rs := [7]) (by kernel_rfl) (by simp) ?_
        refine AllReadyH.cons (o := ⟨some 81, _, _, _, _, _⟩) rfl (fun K hK => ?_) AllReadyH.nil
        go_simp
        refine (clRow L x1 x3 _ _ Al m cl _ _ _ ((HBB.out.keep HB52.out).v0) HM.out (by omega) (HV1.out _ (HBB.out.bel.trans (Below.mono HB52.out HBB.out.bel.size))) (HV3.out _ (HBB.out.bel.trans (Below.mono HB52.out HBB.out.bel.size))) (HBB.out.keep HB52.out).b3 (HBB.out.keep HB52.out).b2).mono ?_
        rintro e u53 ⟨csr, rfl, hvr, hb⟩
        have HB53 := Lib.hid (Below.trans HB52.out (hb.mono (Below.size HB52.out)))
        have HVq := Lib.hid hvr
        obtain ⟨kq, nq, sq, Aq, naq, caq, Bq, nbq, cbq, rfl⟩ := hvr.form
        clear hb hvr
        refine hK.out _ _ (by exact HB53.out) (fun hHeld2 => ?_)
        clear hK K hHeld
        have hHeld := hHeld2
        clear hHeld2
        try simp only [Act.put, List.setIfInBounds_toArray, List.set_cons_zero, List.set_cons_succ]
        refine wpAnyH_ready (rs := [8]) (by kernel_rfl) (by simp) ?_
        refine AllReadyH.cons (o := ⟨some 82, _, _, _, _, _⟩) rfl (fun K hK => ?_) AllReadyH.nil
        go_simp
        refine (vCheck_is HQB.out (HG.out.keep (HBB.out.bel.trans (Below.mono HB53.out HBB.out.bel.size))) HVq.out FR1.out).mono ?_
        rintro e u54 ⟨rfl, hb⟩
        have HB54 := Lib.hid (HB53.out.trans (hb.mono HB53.out.size))
        clear hb
        refine hK.out _ _ (by exact HB54.out) (fun hHeld2 => ?_)
        clear hK K hHeld
        have hHeld := hHeld2
        clear hHeld2
        try simp only [Act.put, List.setIfInBounds_toArray, List.set_cons_zero, List.set_cons_succ]
        refine wpAnyH_take (i := 9) (oi := ⟨some 83, _, _, _, _, _⟩) (v := .bool (decide (qb = 0))) rfl (by kernel_rfl) (by kernel_rfl) (by kernel_rfl) (fun _ _ _ h => h) (Or.inl ⟨by kernel_rfl, ?_⟩) (by assumption) ?_
        · intro W hSw; go_simp; first | done | rfl | (rw [Bool.eq_iff_iff]; simp)
        try simp only [Act.put, List.setIfInBounds_toArray, List.set_cons_zero, List.set_cons_succ]
        refine wpAnyH_take (i := 10) (oi := ⟨some 19, _, _, _, _, _⟩) (v := .bool (decide (qa = 0))) rfl (by kernel_rfl) (by kernel_rfl) (by kernel_rfl) (fun _ _ _ h => h) (Or.inl ⟨by kernel_rfl, ?_⟩) (by assumption) ?_
        · intro W hSw; go_simp; first | done | rfl | (rw [Bool.eq_iff_iff]; simp)
        try simp only [Act.put, List.setIfInBounds_toArray, List.set_cons_zero, List.set_cons_succ]
        refine wpAnyH_take (i := 11) (oi := ⟨some 20, _, _, _, _, _⟩) (v := .bool (decide (qb = 0))) rfl (by kernel_rfl) (by kernel_rfl) (by kernel_rfl) (fun _ _ _ h => h) (Or.inl ⟨by kernel_rfl, ?_⟩) (by assumption) ?_
        · intro W hSw; go_simp; first | done | rfl | (rw [Bool.eq_iff_iff]; simp)
        try simp only [Act.put, List.setIfInBounds_toArray, List.set_cons_zero, List.set_cons_succ]
        refine wpAnyH_done (by kernel_rfl) ?_ _
        have HBC := Lib.hid (HBB.out.keep HB54.out)
        clear HVp HVq HB51 HB52 HB53 HB54 hHeld
        rcases HQQ.out with ⟨rfl, rfl⟩ | ⟨rfl, rfl⟩ | ⟨rfl, rfl⟩
        · go_wp2
          go_roundg (2 - (0 + 1))
          case measure => rw [HGK.out]; omega
          case rel => exact ⟨0 + 1, by omega, rfl, by go_num, HBC⟩
        · go_wp2
          go_roundg (2 - (0 + 1))
          case measure => rw [HGK.out]; omega
          case rel => exact ⟨0 + 1, by omega, rfl, by go_num, HBC⟩
        · go_wp2
          go_roundg (2 - (0 + 1))
          case measure => rw [HGK.out]; omega
          case rel => exact ⟨0 + 1, by omega, rfl, by go_num, HBC⟩
    · go_wp2
      clear hc0 hf0 hl0
      by_cases hgg : gd (jObj s4.data.toList (s4.data.toList ++ [122]) x0 x3) ∧ gd (jObj s4.data.toList (s4.data.toList ++ [122]) x1 x3)
      · have HCF := Lib.hid (show cmpO (jObj s4.data.toList (s4.data.toList ++ [122]) x0 x3) (jObj s4.data.toList (s4.data.toList ++ [122]) x1 x3) = (p, 0) by rw [cmpO_yes hgg.1 hgg.2, HCO.out])
        have HQA := Lib.hid (show chkJ (jObj s4.data.toList (s4.data.toList ++ [122]) x0 x3) = 0 from if_pos hgg.1)
        have HQB := Lib.hid (show chkJ (jObj s4.data.toList (s4.data.toList ++ [122]) x1 x3) = 0 from if_pos hgg.2)
        clear hgg
        refine wp_region_held_drew (S := fun w' => Below wr.heap.size wr w') (by kernel_rfl) (by exact (Below.refl _ _).drew) (fun hHeld => ?_)
        refine wpAnyH_take (i := 0) (oi := ⟨some 50, _, _, _, _, _⟩) (v := .func (.func 16) #[] #[.pointer (some ⟨w.heap.size + 1 + 1 + 1 + 1, 0, none⟩), .pointer (some ⟨w.heap.size + 1 + 1 + 1, 0, none⟩)]) rfl (by kernel_rfl) (by kernel_rfl) (by kernel_rfl) (fun _ _ _ h => h) (Or.inl ⟨by kernel_rfl, ?_⟩) (by assumption) ?_
        · intro W hSw; go_simp
        try simp only [Act.put, List.setIfInBounds_toArray, List.set_cons_zero, List.set_cons_succ]
        refine wpAnyH_take (i := 1) (oi := ⟨some 51, _, _, _, _, _⟩) (v := .agg #[.int .i64 k0, .int .i64 n0, .string s0, .slice A0 na0 ca0, .slice B0 nb0 cb0]) rfl (by kernel_rfl) (by kernel_rfl) (by kernel_rfl) (fun _ _ _ h => h) (Or.inl ⟨by kernel_rfl, ?_⟩) (by assumption) ?_
        · intro W hSw; obtain ⟨d1, d2, d3⟩ := (HB.out.keep hSw).b5.rules; go_simp
        try simp only [Act.put, List.setIfInBounds_toArray, List.set_cons_zero, List.set_cons_succ]
        refine wpAnyH_take (i := 3) (oi := ⟨some 53, _, _, _, _, _⟩) (v := .func (.func 16) #[] #[.pointer (some ⟨w.heap.size + 1 + 1 + 1 + 1, 0, none⟩), .pointer (some ⟨w.heap.size + 1 + 1 + 1, 0, none⟩)]) rfl (by kernel_rfl) (by kernel_rfl) (by kernel_rfl) (fun _ _ _ h => h) (Or.inl ⟨by kernel_rfl, ?_⟩) (by assumption) ?_
        · intro W hSw; go_simp
        try simp only [Act.put, List.setIfInBounds_toArray, List.set_cons_zero, List.set_cons_succ]
        refine wpAnyH_take (i := 4) (oi := ⟨some 54, _, _, _, _, _⟩) (v := .agg #[.int .i64 k1, .int .i64 n1, .string s1, .slice A1 na1 ca1, .slice B1 nb1 cb1]) rfl (by kernel_rfl) (by kernel_rfl) (by kernel_rfl) (fun _ _ _ h => h) (Or.inl ⟨by kernel_rfl, ?_⟩) (by assumption) ?_
        · intro W hSw; obtain ⟨d1, d2, d3⟩ := (HB.out.keep hSw).b4.rules; go_simp
        try simp only [Act.put, List.setIfInBounds_toArray, List.set_cons_zero, List.set_cons_succ]
        refine wpAnyH_ready (rs := [2]) (by kernel_rfl) (by simp) ?_
        refine AllReadyH.cons (o := ⟨some 52, _, _, _, _, _⟩) rfl (fun K hK => ?_) AllReadyH.nil
        go_simp
        refine (clObj s4 x0 x3 _ _ _ _ _ HKS.out (HV0.out _ (HB.out.bel.trans (Below.mono ((Below.refl wr.heap.size wr).drew) HB.out.bel.size))) (HV3.out _ (HB.out.bel.trans (Below.mono ((Below.refl wr.heap.size wr).drew) HB.out.bel.size))) (HB.out.keep ((Below.refl wr.heap.size wr).drew)).b1 (HB.out.keep ((Below.refl wr.heap.size wr).drew)).b2).mono ?_
        rintro e u41 ⟨csr, rfl, hvr, hb⟩
        have HB41 := Lib.hid (Below.trans ((Below.refl wr.heap.size wr).drew) (hb.mono (Below.size ((Below.refl wr.heap.size wr).drew))))
        have HVp := Lib.hid hvr
        obtain ⟨kp, np, sp, Ap, nap, cap, Bp, nbp, cbp, rfl⟩ := hvr.form
        clear hb hvr
        refine hK.out _ _ (by exact HB41.out) (fun hHeld2 => ?_)
        clear hK K hHeld
        have hHeld := hHeld2
        clear hHeld2
        try simp only [Act.put, List.setIfInBounds_toArray, List.set_cons_zero, List.set_cons_succ]
        refine wpAnyH_ready (rs := [5]) (by kernel_rfl) (by simp) ?_
        refine AllReadyH.cons (o := ⟨some 55, _, _, _, _, _⟩) rfl (fun K hK => ?_) AllReadyH.nil
        go_simp
        refine (clObj s4 x1 x3 _ _ _ _ _ HKS.out (HV1.out _ (HB.out.bel.trans (Below.mono HB41.out HB.out.bel.size))) (HV3.out _ (HB.out.bel.trans (Below.mono HB41.out HB.out.bel.size))) (HB.out.keep HB41.out).b1 (HB.out.keep HB41.out).b2).mono ?_
        rintro e u42 ⟨csr, rfl, hvr, hb⟩
        have HB42 := Lib.hid (Below.trans HB41.out (hb.mono (Below.size HB41.out)))
        have HVq := Lib.hid hvr
        obtain ⟨kq, nq, sq, Aq, naq, caq, Bq, nbq, cbq, rfl⟩ := hvr.form
        have HVpp := Lib.hid (HVp.out.bel hb)
        clear hb hvr
        refine hK.out _ _ (by exact HB42.out) (fun hHeld2 => ?_)
        clear hK K hHeld
        have hHeld := hHeld2
        clear hHeld2
        try simp only [Act.put, List.setIfInBounds_toArray, List.set_cons_zero, List.set_cons_succ]
        refine wpAnyH_ready (rs := [6]) (by kernel_rfl) (by simp) ?_
        refine AllReadyH.cons (o := ⟨some 56, _, _, _, _, _⟩) rfl (fun K hK => ?_) AllReadyH.nil
        go_simp
        refine (cComp_is (jObj s4.data.toList (s4.data.toList ++ [122]) x0 x3) (jObj s4.data.toList (s4.data.toList ++ [122]) x1 x3) _ _ _ (HG.out.keep (HB.out.bel.trans (Below.mono HB42.out HB.out.bel.size))) HVpp.out HVq.out FO0.out FO1.out HCF.out).mono ?_
        rintro e u43 ⟨rfl, hb⟩
        have HB43 := Lib.hid (HB42.out.trans (hb.mono HB42.out.size))
        clear hb
        refine hK.out _ _ (by exact HB43.out) (fun hHeld2 => ?_)
        clear hK K hHeld
        have hHeld := hHeld2
        clear hHeld2
        try simp only [Act.put, List.setIfInBounds_toArray, List.set_cons_zero, List.set_cons_succ]
        refine wpAnyH_take (i := 7) (oi := ⟨some 49, _, _, _, _, _⟩) (v := .tuple #[.int .i64 p, .int .i64 0]) rfl (by kernel_rfl) (by kernel_rfl) (by kernel_rfl) (fun _ _ _ h => h) (Or.inl ⟨by kernel_rfl, ?_⟩) (by assumption) ?_
        · intro W hSw; go_simp
        try simp only [Act.put, List.setIfInBounds_toArray, List.set_cons_zero, List.set_cons_succ]
        refine wpAnyH_take (i := 8) (oi := ⟨some 57, _, _, _, _, _⟩) (v := .int .i64 p) rfl (by kernel_rfl) (by kernel_rfl) (by kernel_rfl) (fun _ _ _ h => h) (Or.inl ⟨by kernel_rfl, ?_⟩) (by assumption) ?_
        · intro W hSw; go_simp
        try simp only [Act.put, List.setIfInBounds_toArray, List.set_cons_zero, List.set_cons_succ]
        refine wpAnyH_take (i := 9) (oi := ⟨some 58, _, _, _, _, _⟩) (v := .int .i64 0) rfl (by kernel_rfl) (by kernel_rfl) (by kernel_rfl) (fun _ _ _ h => h) (Or.inl ⟨by kernel_rfl, ?_⟩) (by assumption) ?_
        · intro W hSw; go_simp
        try simp only [Act.put, List.setIfInBounds_toArray, List.set_cons_zero, List.set_cons_succ]
        refine wpAnyH_take (i := 10) (oi := ⟨some 17, _, _, _, _, _⟩) (v := .int .i64 p) rfl (by kernel_rfl) (by kernel_rfl) (by kernel_rfl) (fun _ _ _ h => h) (Or.inl ⟨by kernel_rfl, ?_⟩) (by assumption) ?_
        · intro W hSw; go_simp
        try simp only [Act.put, List.setIfInBounds_toArray, List.set_cons_zero, List.set_cons_succ]
        refine wpAnyH_take (i := 11) (oi := ⟨some 18, _, _, _, _, _⟩) (v := .int .i64 0) rfl (by kernel_rfl) (by kernel_rfl) (by kernel_rfl) (fun _ _ _ h => h) (Or.inl ⟨by kernel_rfl, ?_⟩) (by assumption) ?_
        · intro W hSw; go_simp
        try simp only [Act.put, List.setIfInBounds_toArray, List.set_cons_zero, List.set_cons_succ]
        refine wpAnyH_done (by kernel_rfl) ?_ _
        have HBB := Lib.hid (HB.out.keep HB43.out)
        clear HVp HVpp HVq HB41 HB42 HB43 hHeld
        go_wp2
        refine wp_region_held_drew (S := fun w' => Below u43.heap.size u43 w') (by kernel_rfl) (by exact (Below.refl _ _).drew) (fun hHeld => ?_)
        refine wpAnyH_take (i := 0) (oi := ⟨some 74, _, _, _, _, _⟩) (v := .func (.func 16) #[] #[.pointer (some ⟨w.heap.size + 1 + 1 + 1 + 1, 0, none⟩), .pointer (some ⟨w.heap.size + 1 + 1 + 1, 0, none⟩)]) rfl (by kernel_rfl) (by kernel_rfl) (by kernel_rfl) (fun _ _ _ h => h) (Or.inl ⟨by kernel_rfl, ?_⟩) (by assumption) ?_
        · intro W hSw; go_simp
        try simp only [Act.put, List.setIfInBounds_toArray, List.set_cons_zero, List.set_cons_succ]
        refine wpAnyH_take (i := 1) (oi := ⟨some 75, _, _, _, _, _⟩) (v := .agg #[.int .i64 k0, .int .i64 n0, .string s0, .slice A0 na0 ca0, .slice B0 nb0 cb0]) rfl (by kernel_rfl) (by kernel_rfl) (by kernel_rfl) (fun _ _ _ h => h) (Or.inl ⟨by kernel_rfl, ?_⟩) (by assumption) ?_
        · intro W hSw; obtain ⟨d1, d2, d3⟩ := (HBB.out.keep hSw).b5.rules; go_simp
        try simp only [Act.put, List.setIfInBounds_toArray, List.set_cons_zero, List.set_cons_succ]
        refine wpAnyH_take (i := 5) (oi := ⟨some 79, _, _, _, _, _⟩) (v := .func (.func 16) #[] #[.pointer (some ⟨w.heap.size + 1 + 1 + 1 + 1, 0, none⟩), .pointer (some ⟨w.heap.size + 1 + 1 + 1, 0, none⟩)]) rfl (by kernel_rfl) (by kernel_rfl) (by kernel_rfl) (fun _ _ _ h => h) (Or.inl ⟨by kernel_rfl, ?_⟩) (by assumption) ?_
        · intro W hSw; go_simp
        try simp only [Act.put, List.setIfInBounds_toArray, List.set_cons_zero, List.set_cons_succ]
        refine wpAnyH_take (i := 6) (oi := ⟨some 80, _, _, _, _, _⟩) (v := .agg #[.int .i64 k1, .int .i64 n1, .string s1, .slice A1 na1 ca1, .slice B1 nb1 cb1]) rfl (by kernel_rfl) (by kernel_rfl) (by kernel_rfl) (fun _ _ _ h => h) (Or.inl ⟨by kernel_rfl, ?_⟩) (by assumption) ?_
        · intro W hSw; obtain ⟨d1, d2, d3⟩ := (HBB.out.keep hSw).b4.rules; go_simp
        try simp only [Act.put, List.setIfInBounds_toArray, List.set_cons_zero, List.set_cons_succ]
        refine wpAnyH_ready (rs := [2]) (by kernel_rfl) (by simp) ?_
        refine AllReadyH.cons (o := ⟨some 76, _, _, _, _, _⟩) rfl (fun K hK => ?_) AllReadyH.nil
        go_simp
        refine (clObj s4 x0 x3 _ _ _ _ _ HKS.out (HV0.out _ (HBB.out.bel.trans (Below.mono ((Below.refl u43.heap.size u43).drew) HBB.out.bel.size))) (HV3.out _ (HBB.out.bel.trans (Below.mono ((Below.refl u43.heap.size u43).drew) HBB.out.bel.size))) (HBB.out.keep ((Below.refl u43.heap.size u43).drew)).b1 (HBB.out.keep ((Below.refl u43.heap.size u43).drew)).b2).mono ?_
        rintro e u51 ⟨csr, rfl, hvr, hb⟩
        have HB51 := Lib.hid (Below.trans ((Below.refl u43.heap.size u43).drew) (hb.mono (Below.size ((Below.refl u43.heap.size u43).drew))))
        have HVp := Lib.hid hvr
        obtain ⟨kp, np, sp, Ap, nap, cap, Bp, nbp, cbp, rfl⟩ := hvr.form
        clear hb hvr
        refine hK.out _ _ (by exact HB51.out) (fun hHeld2 => ?_)
        clear hK K hHeld
        have hHeld := hHeld2
        clear hHeld2
        try simp only [Act.put, List.setIfInBounds_toArray, List.set_cons_zero, List.set_cons_succ]
        refine wpAnyH_ready (rs := [3]) (by kernel_rfl) (by simp) ?_
        refine AllReadyH.cons (o := ⟨some 77, _, _, _, _, _⟩) rfl (fun K hK => ?_) AllReadyH.nil
        go_simp
        refine (vCheck_is HQA.out (HG.out.keep (HBB.out.bel.trans (Below.mono HB51.out HBB.out.bel.size))) HVp.out FO0.out).mono ?_
        rintro e u52 ⟨rfl, hb⟩
        have HB52 := Lib.hid (HB51.out.trans (hb.mono HB51.out.size))
        clear hb
        refine hK.out _ _ (by exact HB52.out) (fun hHeld2 => ?_)
        clear hK K hHeld
        have hHeld := hHeld2
        clear hHeld2
        try simp only [Act.put, List.setIfInBounds_toArray, List.set_cons_zero, List.set_cons_succ]
        refine wpAnyH_take (i := 4) (oi := ⟨some 78, _, _, _, _, _⟩) (v := .bool true) rfl (by kernel_rfl) (by kernel_rfl) (by kernel_rfl) (fun _ _ _ h => h) (Or.inl ⟨by kernel_rfl, ?_⟩) (by assumption) ?_
        · intro W hSw; go_simp
        try simp only [Act.put, List.setIfInBounds_toArray, List.set_cons_zero, List.set_cons_succ]
        refine wpAnyH_ready (rs := [7]) (by kernel_rfl) (by simp) ?_
        refine AllReadyH.cons (o := ⟨some 81, _, _, _, _, _⟩) rfl (fun K hK => ?_) AllReadyH.nil
        go_simp
        refine (clObj s4 x1 x3 _ _ _ _ _ HKS.out (HV1.out _ (HBB.out.bel.trans (Below.mono HB52.out HBB.out.bel.size))) (HV3.out _ (HBB.out.bel.trans (Below.mono HB52.out HBB.out.bel.size))) (HBB.out.keep HB52.out).b1 (HBB.out.keep HB52.out).b2).mono ?_
        rintro e u53 ⟨csr, rfl, hvr, hb⟩
        have HB53 := Lib.hid (Below.trans HB52.out (hb.mono (Below.size HB52.out)))
        have HVq := Lib.hid hvr
        obtain ⟨kq, nq, sq, Aq, naq, caq, Bq, nbq, cbq, rfl⟩ := hvr.form
        clear hb hvr
        refine hK.out _ _ (by exact HB53.out) (fun hHeld2 => ?_)
        clear hK K hHeld
        have hHeld := hHeld2
        clear hHeld2
        try simp only [Act.put, List.setIfInBounds_toArray, List.set_cons_zero, List.set_cons_succ]
        refine wpAnyH_ready (rs := [8]) (by kernel_rfl) (by simp) ?_
        refine AllReadyH.cons (o := ⟨some 82, _, _, _, _, _⟩) rfl (fun K hK => ?_) AllReadyH.nil
        go_simp
        refine (vCheck_is HQB.out (HG.out.keep (HBB.out.bel.trans (Below.mono HB53.out HBB.out.bel.size))) HVq.out FO1.out).mono ?_
        rintro e u54 ⟨rfl, hb⟩
        have HB54 := Lib.hid (HB53.out.trans (hb.mono HB53.out.size))
        clear hb
        refine hK.out _ _ (by exact HB54.out) (fun hHeld2 => ?_)
        clear hK K hHeld
        have hHeld := hHeld2
        clear hHeld2
        try simp only [Act.put, List.setIfInBounds_toArray, List.set_cons_zero, List.set_cons_succ]
        refine wpAnyH_take (i := 9) (oi := ⟨some 83, _, _, _, _, _⟩) (v := .bool true) rfl (by kernel_rfl) (by kernel_rfl) (by kernel_rfl) (fun _ _ _ h => h) (Or.inl ⟨by kernel_rfl, ?_⟩) (by assumption) ?_
        · intro W hSw; go_simp
        try simp only [Act.put, List.setIfInBounds_toArray, List.set_cons_zero, List.set_cons_succ]
        refine wpAnyH_take (i := 10) (oi := ⟨some 19, _, _, _, _, _⟩) (v := .bool true) rfl (by kernel_rfl) (by kernel_rfl) (by kernel_rfl) (fun _ _ _ h => h) (Or.inl ⟨by kernel_rfl, ?_⟩) (by assumption) ?_
        · intro W hSw; go_simp
        try simp only [Act.put, List.setIfInBounds_toArray, List.set_cons_zero, List.set_cons_succ]
        refine wpAnyH_take (i := 11) (oi := ⟨some 20, _, _, _, _, _⟩) (v := .bool true) rfl (by kernel_rfl) (by kernel_rfl) (by kernel_rfl) (fun _ _ _ h => h) (Or.inl ⟨by kernel_rfl, ?_⟩) (by assumption) ?_
        · intro W hSw; go_simp
        try simp only [Act.put, List.setIfInBounds_toArray, List.set_cons_zero, List.set_cons_succ]
        refine wpAnyH_done (by kernel_rfl) ?_ _
        have HBC := Lib.hid (HBB.out.keep HB54.out)
        clear HVp HVq HB51 HB52 HB53 HB54 hHeld
        go_wp2
        go_roundg (2 - (1 + 1))
        case measure => rw [HGK.out]; omega
        case rel => exact ⟨1 + 1, by omega, rfl, by go_num, HBC⟩
      · have HCF := Lib.hid (cmpO_no hgg)
        obtain ⟨qa, hqa⟩ : ∃ q, chkJ (jObj s4.data.toList (s4.data.toList ++ [122]) x0 x3) = q := ⟨_, rfl⟩
        obtain ⟨qb, hqb⟩ : ∃ q, chkJ (jObj s4.data.toList (s4.data.toList ++ [122]) x1 x3) = q := ⟨_, rfl⟩
        have HQQ := Lib.hid (show (qa = 0 ∧ qb = 140) ∨ (qa = 140 ∧ qb = 0) ∨ (qa = 140 ∧ qb = 140) by
          rcases chk_if (jObj s4.data.toList (s4.data.toList ++ [122]) x0 x3) with ⟨g1, e1⟩ | ⟨g1, e1⟩ <;> rcases chk_if (jObj s4.data.toList (s4.data.toList ++ [122]) x1 x3) with ⟨g2, e2⟩ | ⟨g2, e2⟩ <;> rw [hqa] at e1 <;> rw [hqb] at e2 <;> simp [e1, e2]
          exact absurd ⟨g1, g2⟩ hgg)
        have HQA := Lib.hid hqa
        have HQB := Lib.hid hqb
        clear hgg hqa hqb
        refine wp_region_held_drew (S := fun w' => Below wr.heap.size wr w') (by kernel_rfl) (by exact (Below.refl _ _).drew) (fun hHeld => ?_)
        refine wpAnyH_take (i := 0) (oi := ⟨some 50, _, _, _, _, _⟩) (v := .func (.func 16) #[] #[.pointer (some ⟨w.heap.size + 1 + 1 + 1 + 1, 0, none⟩), .pointer (some ⟨w.heap.size + 1 + 1 + 1, 0, none⟩)]) rfl (by kernel_rfl) (by kernel_rfl) (by kernel_rfl) (fun _ _ _ h => h) (Or.inl ⟨by kernel_rfl, ?_⟩) (by assumption) ?_
        · intro W hSw; go_simp
        try simp only [Act.put, List.setIfInBounds_toArray, List.set_cons_zero, List.set_cons_succ]
        refine wpAnyH_take (i := 1) (oi := ⟨some 51, _, _, _, _, _⟩) (v := .agg #[.int .i64 k0, .int .i64 n0, .string s0, .slice A0 na0 ca0, .slice B0 nb0 cb0]) rfl (by kernel_rfl) (by kernel_rfl) (by kernel_rfl) (fun _ _ _ h => h) (Or.inl ⟨by kernel_rfl, ?_⟩) (by assumption) ?_
        · intro W hSw; obtain ⟨d1, d2, d3⟩ := (HB.out.keep hSw).b5.rules; go_simp
        try simp only [Act.put, List.setIfInBounds_toArray, List.set_cons_zero, List.set_cons_succ]
        refine wpAnyH_take (i := 3) (oi := ⟨some 53, _, _, _, _, _⟩) (v := .func (.func 16) #[] #[.pointer (some ⟨w.heap.size + 1 + 1 + 1 + 1, 0, none⟩), .pointer (some ⟨w.heap.size + 1 + 1 + 1, 0, none⟩)]) rfl (by kernel_rfl) (by kernel_rfl) (by kernel_rfl) (fun _ _ _ h => h) (Or.inl ⟨by kernel_rfl, ?_⟩) (by assumption) ?_
        · intro W hSw; go_simp
        try simp only [Act.put, List.setIfInBounds_toArray, List.set_cons_zero, List.set_cons_succ]
        refine wpAnyH_take (i := 4) (oi := ⟨some 54, _, _, _, _, _⟩) (v := .agg #[.int .i64 k1, .int .i64 n1, .string s1, .slice A1 na1 ca1, .slice B1 nb1 cb1]) rfl (by kernel_rfl) (by kernel_rfl) (by kernel_rfl) (fun _ _ _ h => h) (Or.inl ⟨by kernel_rfl, ?_⟩) (by assumption) ?_
        · intro W hSw; obtain ⟨d1, d2, d3⟩ := (HB.out.keep hSw).b4.rules; go_simp
        try simp only [Act.put, List.setIfInBounds_toArray, List.set_cons_zero, List.set_cons_succ]
        refine wpAnyH_ready (rs := [2]) (by kernel_rfl) (by simp) ?_
        refine AllReadyH.cons (o := ⟨some 52, _, _, _, _, _⟩) rfl (fun K hK => ?_) AllReadyH.nil
        go_simp
        refine (clObj s4 x0 x3 _ _ _ _ _ HKS.out (HV0.out _ (HB.out.bel.trans (Below.mono ((Below.refl wr.heap.size wr).drew) HB.out.bel.size))) (HV3.out _ (HB.out.bel.trans (Below.mono ((Below.refl wr.heap.size wr).drew) HB.out.bel.size))) (HB.out.keep ((Below.refl wr.heap.size wr).drew)).b1 (HB.out.keep ((Below.refl wr.heap.size wr).drew)).b2).mono ?_
        rintro e u41 ⟨csr, rfl, hvr, hb⟩
        have HB41 := Lib.hid (Below.trans ((Below.refl wr.heap.size wr).drew) (hb.mono (Below.size ((Below.refl wr.heap.size wr).drew))))
        have HVp := Lib.hid hvr
        obtain ⟨kp, np, sp, Ap, nap, cap, Bp, nbp, cbp, rfl⟩ := hvr.form
        clear hb hvr
        refine hK.out _ _ (by exact HB41.out) (fun hHeld2 => ?_)
        clear hK K hHeld
        have hHeld := hHeld2
        clear hHeld2
        try simp only [Act.put, List.setIfInBounds_toArray, List.set_cons_zero, List.set_cons_succ]
        refine wpAnyH_ready (rs := [5]) (by kernel_rfl) (by simp) ?_
        refine AllReadyH.cons (o := ⟨some 55, _, _, _, _, _⟩) rfl (fun K hK => ?_) AllReadyH.nil
        go_simp
        refine (clObj s4 x1 x3 _ _ _ _ _ HKS.out (HV1.out _ (HB.out.bel.trans (Below.mono HB41.out HB.out.bel.size))) (HV3.out _ (HB.out.bel.trans (Below.mono HB41.out HB.out.bel.size))) (HB.out.keep HB41.out).b1 (HB.out.keep HB41.out).b2).mono ?_
        rintro e u42 ⟨csr, rfl, hvr, hb⟩
        have HB42 := Lib.hid (Below.trans HB41.out (hb.mono (Below.size HB41.out)))
        have HVq := Lib.hid hvr
        obtain ⟨kq, nq, sq, Aq, naq, caq, Bq, nbq, cbq, rfl⟩ := hvr.form
        have HVpp := Lib.hid (HVp.out.bel hb)
        clear hb hvr
        refine hK.out _ _ (by exact HB42.out) (fun hHeld2 => ?_)
        clear hK K hHeld
        have hHeld := hHeld2
        clear hHeld2
        try simp only [Act.put, List.setIfInBounds_toArray, List.set_cons_zero, List.set_cons_succ]
        refine wpAnyH_ready (rs := [6]) (by kernel_rfl) (by simp) ?_
        refine AllReadyH.cons (o := ⟨some 56, _, _, _, _, _⟩) rfl (fun K hK => ?_) AllReadyH.nil
        go_simp
        refine (cComp_is (jObj s4.data.toList (s4.data.toList ++ [122]) x0 x3) (jObj s4.data.toList (s4.data.toList ++ [122]) x1 x3) _ _ _ (HG.out.keep (HB.out.bel.trans (Below.mono HB42.out HB.out.bel.size))) HVpp.out HVq.out FO0.out FO1.out HCF.out).mono ?_
        rintro e u43 ⟨rfl, hb⟩
        have HB43 := Lib.hid (HB42.out.trans (hb.mono HB42.out.size))
        clear hb
        refine hK.out _ _ (by exact HB43.out) (fun hHeld2 => ?_)
        clear hK K hHeld
        have hHeld := hHeld2
        clear hHeld2
        try simp only [Act.put, List.setIfInBounds_toArray, List.set_cons_zero, List.set_cons_succ]
        refine wpAnyH_take (i := 7) (oi := ⟨some 49, _, _, _, _, _⟩) (v := .tuple #[.int .i64 0, .int .i64 140]) rfl (by kernel_rfl) (by kernel_rfl) (by kernel_rfl) (fun _ _ _ h => h) (Or.inl ⟨by kernel_rfl, ?_⟩) (by assumption) ?_
        · intro W hSw; go_simp
        try simp only [Act.put, List.setIfInBounds_toArray, List.set_cons_zero, List.set_cons_succ]
        refine wpAnyH_take (i := 8) (oi := ⟨some 57, _, _, _, _, _⟩) (v := .int .i64 0) rfl (by kernel_rfl) (by kernel_rfl) (by kernel_rfl) (fun _ _ _ h => h) (Or.inl ⟨by kernel_rfl, ?_⟩) (by assumption) ?_
        · intro W hSw; go_simp
        try simp only [Act.put, List.setIfInBounds_toArray, List.set_cons_zero, List.set_cons_succ]
        refine wpAnyH_take (i := 9) (oi := ⟨some 58, _, _, _, _, _⟩) (v := .int .i64 140) rfl (by kernel_rfl) (by kernel_rfl) (by kernel_rfl) (fun _ _ _ h => h) (Or.inl ⟨by kernel_rfl, ?_⟩) (by assumption) ?_
        · intro W hSw; go_simp
        try simp only [Act.put, List.setIfInBounds_toArray, List.set_cons_zero, List.set_cons_succ]
        refine wpAnyH_take (i := 10) (oi := ⟨some 17, _, _, _, _, _⟩) (v := .int .i64 0) rfl (by kernel_rfl) (by kernel_rfl) (by kernel_rfl) (fun _ _ _ h => h) (Or.inl ⟨by kernel_rfl, ?_⟩) (by assumption) ?_
        · intro W hSw; go_simp
        try simp only [Act.put, List.setIfInBounds_toArray, List.set_cons_zero, List.set_cons_succ]
        refine wpAnyH_take (i := 11) (oi := ⟨some 18, _, _, _, _, _⟩) (v := .int .i64 140) rfl (by kernel_rfl) (by kernel_rfl) (by kernel_rfl) (fun _ _ _ h => h) (Or.inl ⟨by kernel_rfl, ?_⟩) (by assumption) ?_
        · intro W hSw; go_simp
        try simp only [Act.put, List.setIfInBounds_toArray, List.set_cons_zero, List.set_cons_succ]
        refine wpAnyH_done (by kernel_rfl) ?_ _
        have HBB := Lib.hid (HB.out.keep HB43.out)
        clear HVp HVpp HVq HB41 HB42 HB43 hHeld
        go_wp2
        refine wp_region_held_drew (S := fun w' => Below u43.heap.size u43 w') (by kernel_rfl) (by exact (Below.refl _ _).drew) (fun hHeld => ?_)
        refine wpAnyH_take (i := 0) (oi := ⟨some 74, _, _, _, _, _⟩) (v := .func (.func 16) #[] #[.pointer (some ⟨w.heap.size + 1 + 1 + 1 + 1, 0, none⟩), .pointer (some ⟨w.heap.size + 1 + 1 + 1, 0, none⟩)]) rfl (by kernel_rfl) (by kernel_rfl) (by kernel_rfl) (fun _ _ _ h => h) (Or.inl ⟨by kernel_rfl, ?_⟩) (by assumption) ?_
        · intro W hSw; go_simp
        try simp only [Act.put, List.setIfInBounds_toArray, List.set_cons_zero, List.set_cons_succ]
        refine wpAnyH_take (i := 1) (oi := ⟨some 75, _, _, _, _, _⟩) (v := .agg #[.int .i64 k0, .int .i64 n0, .string s0, .slice A0 na0 ca0, .slice B0 nb0 cb0]) rfl (by kernel_rfl) (by kernel_rfl) (by kernel_rfl) (fun _ _ _ h => h) (Or.inl ⟨by kernel_rfl, ?_⟩) (by assumption) ?_
        · intro W hSw; obtain ⟨d1, d2, d3⟩ := (HBB.out.keep hSw).b5.rules; go_simp
        try simp only [Act.put, List.setIfInBounds_toArray, List.set_cons_zero, List.set_cons_succ]
        refine wpAnyH_take (i := 5) (oi := ⟨some 79, _, _, _, _, _⟩) (v := .func (.func 16) #[] #[.pointer (some ⟨w.heap.size + 1 + 1 + 1 + 1, 0, none⟩), .pointer (some ⟨w.heap.size + 1 + 1 + 1, 0, none⟩)]) rfl (by kernel_rfl) (by kernel_rfl) (by kernel_rfl) (fun _ _ _ h => h) (Or.inl ⟨by kernel_rfl, ?_⟩) (by assumption) ?_
        · intro W hSw; go_simp
        try simp only [Act.put, List.setIfInBounds_toArray, List.set_cons_zero, List.set_cons_succ]
        refine wpAnyH_take (i := 6) (oi := ⟨some 80, _, _, _, _, _⟩) (v := .agg #[.int .i64 k1, .int .i64 n1, .string s1, .slice A1 na1 ca1, .slice B1 nb1 cb1]) rfl (by kernel_rfl) (by kernel_rfl) (by kernel_rfl) (fun _ _ _ h => h) (Or.inl ⟨by kernel_rfl, ?_⟩) (by assumption) ?_
        · intro W hSw; obtain ⟨d1, d2, d3⟩ := (HBB.out.keep hSw).b4.rules; go_simp
        try simp only [Act.put, List.setIfInBounds_toArray, List.set_cons_zero, List.set_cons_succ]
        refine wpAnyH_ready (rs := [2]) (by kernel_rfl) (by simp) ?_
        refine AllReadyH.cons (o := ⟨some 76, _, _, _, _, _⟩) rfl (fun K hK => ?_) AllReadyH.nil
        go_simp
        refine (clObj s4 x0 x3 _ _ _ _ _ HKS.out (HV0.out _ (HBB.out.bel.trans (Below.mono ((Below.refl u43.heap.size u43).drew) HBB.out.bel.size))) (HV3.out _ (HBB.out.bel.trans (Below.mono ((Below.refl u43.heap.size u43).drew) HBB.out.bel.size))) (HBB.out.keep ((Below.refl u43.heap.size u43).drew)).b1 (HBB.out.keep ((Below.refl u43.heap.size u43).drew)).b2).mono ?_
        rintro e u51 ⟨csr, rfl, hvr, hb⟩
        have HB51 := Lib.hid (Below.trans ((Below.refl u43.heap.size u43).drew) (hb.mono (Below.size ((Below.refl u43.heap.size u43).drew))))
        have HVp := Lib.hid hvr
        obtain ⟨kp, np, sp, Ap, nap, cap, Bp, nbp, cbp, rfl⟩ := hvr.form
        clear hb hvr
        refine hK.out _ _ (by exact HB51.out) (fun hHeld2 => ?_)
        clear hK K hHeld
        have hHeld := hHeld2
        clear hHeld2
        try simp only [Act.put, List.setIfInBounds_toArray, List.set_cons_zero, List.set_cons_succ]
        refine wpAnyH_ready (rs := [3]) (by kernel_rfl) (by simp) ?_
        refine AllReadyH.cons (o := ⟨some 77, _, _, _, _, _⟩) rfl (fun K hK => ?_) AllReadyH.nil
        go_simp
        refine (vCheck_is HQA.out (HG.out.keep (HBB.out.bel.trans (Below.mono HB51.out HBB.out.bel.size))) HVp.out FO0.out).mono ?_
        rintro e u52 ⟨rfl, hb⟩
        have HB52 := Lib.hid (HB51.out.trans (hb.mono HB51.out.size))
        clear hb
        refine hK.out _ _ (by exact HB52.out) (fun hHeld2 => ?_)
        clear hK K hHeld
        have hHeld := hHeld2
        clear hHeld2
        try simp only [Act.put, List.setIfInBounds_toArray, List.set_cons_zero, List.set_cons_succ]
        refine wpAnyH_take (i := 4) (oi := ⟨some 78, _, _, _, _, _⟩) (v := .bool (decide (qa = 0))) rfl (by kernel_rfl) (by kernel_rfl) (by kernel_rfl) (fun _ _ _ h => h) (Or.inl ⟨by kernel_rfl, ?_⟩) (by assumption) ?_
        · intro W hSw; go_simp; first | done | rfl | (rw [Bool.eq_iff_iff]; simp)
        try simp only [Act.put, List.setIfInBounds_toArray, List.set_cons_zero, List.set_cons_succ]
        refine wpAnyH_ready (rs := [7]) (by kernel_rfl) (by simp) ?_
        refine AllReadyH.cons (o := ⟨some 81, _, _, _, _, _⟩) rfl (fun K hK => ?_) AllReadyH.nil
        go_simp
        refine (clObj s4 x1 x3 _ _ _ _ _ HKS.out (HV1.out _ (HBB.out.bel.trans (Below.mono HB52.out HBB.out.bel.size))) (HV3.out _ (HBB.out.bel.trans (Below.mono HB52.out HBB.out.bel.size))) (HBB.out.keep HB52.out).b1 (HBB.out.keep HB52.out).b2).mono ?_
        rintro e u53 ⟨csr, rfl, hvr, hb⟩
        have HB53 := Lib.hid (Below.trans HB52.out (hb.mono (Below.size HB52.out)))
        have HVq := Lib.hid hvr
        obtain ⟨kq, nq, sq, Aq, naq, caq, Bq, nbq, cbq, rfl⟩ := hvr.form
        clear hb hvr
        refine hK.out _ _ (by exact HB53.out) (fun hHeld2 => ?_)
        clear hK K hHeld
        have hHeld := hHeld2
        clear hHeld2
        try simp only [Act.put, List.setIfInBounds_toArray, List.set_cons_zero, List.set_cons_succ]
        refine wpAnyH_ready (rs := [8]) (by kernel_rfl) (by simp) ?_
        refine AllReadyH.cons (o := ⟨some 82, _, _, _, _, _⟩) rfl (fun K hK => ?_) AllReadyH.nil
        go_simp
        refine (vCheck_is HQB.out (HG.out.keep (HBB.out.bel.trans (Below.mono HB53.out HBB.out.bel.size))) HVq.out FO1.out).mono ?_
        rintro e u54 ⟨rfl, hb⟩
        have HB54 := Lib.hid (HB53.out.trans (hb.mono HB53.out.size))
        clear hb
        refine hK.out _ _ (by exact HB54.out) (fun hHeld2 => ?_)
        clear hK K hHeld
        have hHeld := hHeld2
        clear hHeld2
        try simp only [Act.put, List.setIfInBounds_toArray, List.set_cons_zero, List.set_cons_succ]
        refine wpAnyH_take (i := 9) (oi := ⟨some 83, _, _, _, _, _⟩) (v := .bool (decide (qb = 0))) rfl (by kernel_rfl) (by kernel_rfl) (by kernel_rfl) (fun _ _ _ h => h) (Or.inl ⟨by kernel_rfl, ?_⟩) (by assumption) ?_
        · intro W hSw; go_simp; first | done | rfl | (rw [Bool.eq_iff_iff]; simp)
        try simp only [Act.put, List.setIfInBounds_toArray, List.set_cons_zero, List.set_cons_succ]
        refine wpAnyH_take (i := 10) (oi := ⟨some 19, _, _, _, _, _⟩) (v := .bool (decide (qa = 0))) rfl (by kernel_rfl) (by kernel_rfl) (by kernel_rfl) (fun _ _ _ h => h) (Or.inl ⟨by kernel_rfl, ?_⟩) (by assumption) ?_
        · intro W hSw; go_simp; first | done | rfl | (rw [Bool.eq_iff_iff]; simp)
        try simp only [Act.put, List.setIfInBounds_toArray, List.set_cons_zero, List.set_cons_succ]
        refine wpAnyH_take (i := 11) (oi := ⟨some 20, _, _, _, _, _⟩) (v := .bool (decide (qb = 0))) rfl (by kernel_rfl) (by kernel_rfl) (by kernel_rfl) (fun _ _ _ h => h) (Or.inl ⟨by kernel_rfl, ?_⟩) (by assumption) ?_
        · intro W hSw; go_simp; first | done | rfl | (rw [Bool.eq_iff_iff]; simp)
        try simp only [Act.put, List.setIfInBounds_toArray, List.set_cons_zero, List.set_cons_succ]
        refine wpAnyH_done (by kernel_rfl) ?_ _
        have HBC := Lib.hid (HBB.out.keep HB54.out)
        clear HVp HVq HB51 HB52 HB53 HB54 hHeld
        rcases HQQ.out with ⟨rfl, rfl⟩ | ⟨rfl, rfl⟩ | ⟨rfl, rfl⟩
        · go_wp2
          go_roundg (2 - (1 + 1))
          case measure => rw [HGK.out]; omega
          case rel => exact ⟨1 + 1, by omega, rfl, by go_num, HBC⟩
        · go_wp2
          go_roundg (2 - (1 + 1))
          case measure => rw [HGK.out]; omega
          case rel => exact ⟨1 + 1, by omega, rfl, by go_num, HBC⟩
        · go_wp2
          go_roundg (2 - (1 + 1))
          case measure => rw [HGK.out]; omega
          case rel => exact ⟨1 + 1, by omega, rfl, by go_num, HBC⟩
    · go_wp2
      go_ret
      exact ⟨rfl, HB.out.bel⟩
end Go.Proofs.YtoejdhabpajhlaaDoor
