/- The walk of CollateSorts. -/
import Derived.Test.YtbaogoiiekpgiaaDoorC7b
import Derived.Test.YtbaogoiiekpgiaaDoorHeldV
namespace Go.Proofs.YtbaogoiiekpgiaaDoor
set_option linter.unusedVariables false
set_option linter.unusedSimpArgs false
open Go.RowKit
attribute [local go_sem] run_index_arr run_part_agg run_part_one run_field_agg

/-- a row is answered, and how long it is -/
def RetN (l : List JV) (m : Nat) (w : World) (e : Ending) (w' : World) : Prop := ∃ A cap, e = .returned (.slice A m cap) ∧ RowV w' A cap l ∧ Below w.heap.size w w'
def SortYes (l : List JV) (m : Nat) (w : World) (e : Ending) (w' : World) : Prop := ∃ g, e = .returned (.tuple #[.slice (some ⟨g, 0, none⟩) m m, .int .i64 0]) ∧ RowV w' (some ⟨g, 0, none⟩) m (rSortJ l) ∧ Below w.heap.size w w'
def SortNo (w : World) (e : Ending) (w' : World) : Prop := e = .returned (.tuple #[.slice none 0 0, .int .i64 140]) ∧ Below w.heap.size w w'
theorem cSort_yes {l : List JV} {A : Option Addr} {m ca : Nat} {w : World} (hG : GOK w) (hr : RowV w A ca l) (hm : l.length = m) (h9 : m ≤ 4194304) (hc : ∀ x ∈ l, Came x) (hg : ∀ x ∈ l, gd x) : Calls Tryd.prog 22 #[.slice A m ca] w (SortYes l m w) := by
  subst hm
  refine (cSort l A _ ca w hG hr rfl h9 hc).mono ?_
  rintro e w' ⟨⟨_, g, rfl, hrow⟩ | ⟨⟨x, hx, hng⟩, _⟩, hb⟩
  · exact ⟨g, rfl, hrow, hb⟩
  · exact absurd (hg x hx) hng
theorem cSort_no {l : List JV} {A : Option Addr} {m ca : Nat} {w : World} (hG : GOK w) (hr : RowV w A ca l) (hm : l.length = m) (h9 : m ≤ 4194304) (hc : ∀ x ∈ l, Came x) (hg : ¬ ∀ x ∈ l, gd x) : Calls Tryd.prog 22 #[.slice A m ca] w (SortNo w) := by
  subst hm
  refine (cSort l A _ ca w hG hr rfl h9 hc).mono ?_
  rintro e w' ⟨⟨h, _⟩ | ⟨_, rfl⟩, hb⟩
  · exact absurd h hg
  · exact ⟨rfl, hb⟩
def PlcS (p q r : Int) (w : World) (e : Ending) (w' : World) : Prop := e = .returned (.tuple #[.int .i64 p, .int .i64 q, .int .i64 r]) ∧ Below w.heap.size w w'
theorem cPlace_is {l : List JV} {v : JV} {A : Option Addr} {m ca : Nat} {cv : List Value} {w : World} (hG : GOK w) (hr : RowV w A ca l) (hm : l.length = m) (h9 : m ≤ 4194303) (hc : ∀ x ∈ l, Came x) (hv : VR w TT cv v) (hcv : Came v) {p q r : Int} (he : placeO l v = (p, q, r)) : Calls Tryd.prog 23 #[.slice A m ca, .agg cv.toArray] w (PlcS p q r w) := by
  have h := cPlace l v A m ca cv w hG hr hm h9 hc hv hcv
  rw [he] at h
  exact h
theorem lSome_is {l L : List JV} {A : Option Addr} {nk ca m : Nat} {w : World} (hr : RowV w A ca l) (hnk : l.length = nk) (h9 : nk ≤ 4194304) (hL : l.take 20 = L) (hm : L.length = m) : Calls Tryd.prog 21 #[.slice A nk ca] w (RetN L m w) := by
  subst hL hm
  exact lSome l A nk ca w hr hnk h9
theorem rSort_is {l S : List JV} {A : Option Addr} {m ca : Nat} {w : World} (hr : RowV w A ca l) (hm : l.length = m) (h9 : m ≤ 4194304) (hg : ∀ x ∈ l, gd x) (hc : ∀ x ∈ l, Came x) (hS : rSortJ l = S) : Calls Tryd.prog 24 #[.slice A m ca] w (RetN S m w) := by
  subst hS
  have h := rSort l A m ca w hr hm h9 hg hc
  refine h.mono ?_
  rintro e w' ⟨A', cap', rfl, h2, h3⟩
  exact ⟨A', cap', by rw [(rSortJ_perm hg).length_eq, hm], h2, h3⟩
theorem lSame_is {l l' : List JV} {A A' : Option Addr} {m ca ca' : Nat} {w : World} (hr : RowV w A ca l) (hr' : RowV w A' ca' l') (hm : l.length = m) (hm' : l'.length = m) (hg : ∀ x ∈ l, gd x ∧ Came x) (hg' : ∀ x ∈ l', gd x ∧ Came x) (h9 : m ≤ 4194304) {b : Bool} (hb : b = true ↔ l = l') :
    Calls Tryd.prog 25 #[.slice A m ca, .slice A' m ca'] w (BoolS b w) :=
  (lSame l l' A A' m m ca ca' w hr hr' hm hm' (fun x hx => (hg x hx).2) (fun x hx => (hg' x hx).2) (fun x hx => (hg x hx).1) (fun x hx => (hg' x hx).1) h9 h9).mono fun e w' ⟨t, h1, h2, h3⟩ => ⟨by rw [h1]; congr 2; rw [Bool.eq_iff_iff, h2, hb], h3⟩
theorem placeO_no {l : List JV} {v : JV} (h : ¬ ∀ x ∈ l ++ [v], gd x) : placeO l v = (0, 0, 140) := if_neg h
theorem placeO_yes {l : List JV} {v : JV} (h : ∀ x ∈ l, gd x) (hv : gd v) : placeO l v = placeI l v := if_pos (by intro x hx; rcases List.mem_append.1 hx with h1 | h1; exact h x h1; simp at h1; subst h1; exact hv)
theorem came_row {xs : List JV} (hi : inL xs) (hb : bulkL xs ≤ 4194304) : ∀ x ∈ xs, Came x := fun x hx => ⟨inL_iff.1 hi x hx, Nat.le_trans (bulkL_at hx) hb⟩
set_option maxRecDepth 100000 in
set_option maxHeartbeats 8000000 in
theorem collateSorts_any (a0 : Option Addr) (len0 cap0 : Nat) (xs0 : List JV) (cs1 : Array Value) (x1 : JV) (w : World) (hG : GOK w) (hl0 : len0 = xs0.length) (hr0 : RowV w a0 cap0 xs0) (hi0 : inL xs0) (hb0 : bulkL xs0 ≤ 4194304) (h1 : VR w TT cs1.toList x1) (c1 : Came x1) :
    Calls Tryd.prog 5 #[.slice a0 len0 cap0, .agg cs1] w (BoolS true w) := by
  obtain ⟨l1, rfl⟩ : ∃ l : List Value, cs1 = l.toArray := ⟨cs1.toList, by simp⟩
  replace h1 : VR w TT l1 x1 := by simpa using h1
  have hcm := came_row hi0 hb0
  have h9 : len0 ≤ 4194304 := by rw [hl0]; exact Nat.le_trans (bulkL_len xs0) hb0
  obtain ⟨L, hL⟩ : ∃ L, xs0.take 20 = L := ⟨_, rfl⟩
  obtain ⟨m, hm⟩ : ∃ m, L.length = m := ⟨_, rfl⟩
  have hm20 : m ≤ 20 := by rw [← hm, ← hL, List.length_take]; omega
  have HLX := Lib.hid hL
  have HM := Lib.hid hm
  have HL0 := Lib.hid hl0.symm
  have HCL := Lib.hid (show ∀ x ∈ L, Came x from fun x hx => hcm x (by rw [← hL] at hx; exact List.mem_of_mem_take hx))
  have HG := Lib.hid hG
  have C1 := Lib.hid c1
  have HH0 := Lib.hid (((Hld.nil w).val h1).row hr0)
  obtain ⟨k1, n1, s1, A1, na1, ca1, B1, nb1, cb1, rfl⟩ := h1.form
  clear h1 c1 hG hcm hl0 hr0 hi0 hb0 hL hm
  by_cases hg : ∀ x ∈ L, gd x
  case neg =>
    have HPO := Lib.hid (placeO_no (l := L) (v := x1) (fun h => hg fun x hx => h x (List.mem_append_left _ hx)))
    have HAL := Lib.hid (show allG L = false by cases h : allG L with | false => rfl | true => exact absurd (allG_iff.1 h) hg)
    have HNG := Lib.hid hg
    clear hg
    go_enter Tryd.func5, Tryd.ntmps5
    go_wp2_with fail
    have HA1 := Lib.hid (Hld.push (HH0.out) 28 #[.int .i64 k1, .int .i64 n1, .string s1, .slice A1 na1 ca1, .slice B1 nb1 cb1] (g := w.heap.size) (by first | rfl | simp))
    refine (wakes7_any _ (HG.out.keep ((Hld.push (HH0.out) 28 #[.int .i64 k1, .int .i64 n1, .string s1, .slice A1 na1 ca1, .slice B1 nb1 cb1] (g := w.heap.size) (by first | rfl | simp))).bel)).mono ?_
    rintro e w1 ⟨rfl, hb1⟩
    have HH1 := Lib.hid (HA1.out.keep hb1)
    clear hb1 HH0 HA1
    go_wp2_with fail
    refine (lSome_is (HH1.out).v0 HL0.out h9 HLX.out HM.out).mono ?_
    rintro e w2 ⟨Al, cl, rfl, hrl, hb2⟩
    have HH2 := Lib.hid ((HH1.out.keep hb2).row (hrl))
    clear hb2 HH1
    clear hrl
    go_wp2_with fail
    refine (cSort_no (HG.out.keep (HH2.out).bel) (HH2.out).v0 HM.out (by omega) HCL.out HNG.out).mono ?_
    rintro e w3 ⟨rfl, hb3⟩
    have HH3 := Lib.hid (HH2.out.keep hb3)
    clear hb3 HH2
    obtain ⟨hc0, hf0, hl0⟩ := HH3.out.b0.rules
    go_wp2_with fail
    refine (cPlace_is (HG.out.keep (HH3.out).bel) (HH3.out).v0 HM.out (by omega) HCL.out (HH3.out).v2 C1.out HPO.out).mono ?_
    rintro e w4 ⟨rfl, hb4⟩
    have HH4 := Lib.hid (HH3.out.keep hb4)
    clear hc0 hf0 hl0
    clear hb4 HH3
    go_wp2_with fail
    refine ((show Calls Tryd.prog 19 #[.slice Al m cl] _ (BoolS false _) by have h := lRight L Al m cl _ (HH4.out).v0 HM.out HCL.out (by omega); rwa [HAL.out] at h)).mono ?_
    rintro e w5 ⟨rfl, hb5⟩
    have HH5 := Lib.hid (HH4.out.keep hb5)
    clear hb5 HH4
    go_wp2
    go_ret
    exact ⟨rfl, HH5.out.bel⟩
  by_cases hv : gd x1
  case neg =>
    have HGL := Lib.hid hg
    have HGC := Lib.hid (show ∀ x ∈ L, gd x ∧ Came x from fun x hx => ⟨hg x hx, HCL.out x hx⟩)
    have HAL := Lib.hid (allG_iff.2 hg)
    obtain ⟨S, hS⟩ : ∃ S, rSortJ L = S := ⟨_, rfl⟩
    have HSX := Lib.hid hS
    have HSL := Lib.hid (show S.length = m by rw [← hS, (rSortJ_perm hg).length_eq, HM.out])
    have HSC := Lib.hid (show ∀ x ∈ S, gd x ∧ Came x from fun x hx => HGC.out x (by rw [← hS] at hx; exact (rSortJ_perm hg).subset hx))
    have HSELF := Lib.hid (show L = S ↔ SortedJ L by rw [← hS]; exact rSortJ_self hg)
    have HNEXT := Lib.hid (sorted_next hg)
    clear hS
    have HPO := Lib.hid (placeO_no (l := L) (v := x1) (fun h => hv (h x1 (by simp))))
    have HRV := Lib.hid (fun (cs : List Value) (W : World) (hvr : VR W TT cs x1) => show Calls Tryd.prog 26 #[.agg cs.toArray] W (BoolS false W) by have h := rRightG x1 cs TT W hvr C1.out; rwa [gd.not hv] at h)
    clear hg hv
    go_enter Tryd.func5, Tryd.ntmps5
    go_wp2_with fail
    have HA1 := Lib.hid (Hld.push (HH0.out) 28 #[.int .i64 k1, .int .i64 n1, .string s1, .slice A1 na1 ca1, .slice B1 nb1 cb1] (g := w.heap.size) (by first | rfl | simp))
    refine (wakes7_any _ (HG.out.keep ((Hld.push (HH0.out) 28 #[.int .i64 k1, .int .i64 n1, .string s1, .slice A1 na1 ca1, .slice B1 nb1 cb1] (g := w.heap.size) (by first | rfl | simp))).bel)).mono ?_
    rintro e w1 ⟨rfl, hb1⟩
    have HH1 := Lib.hid (HA1.out.keep hb1)
    clear hb1 HH0 HA1
    go_wp2_with fail
    refine (lSome_is (HH1.out).v0 HL0.out h9 HLX.out HM.out).mono ?_
    rintro e w2 ⟨Al, cl, rfl, hrl, hb2⟩
    have HH2 := Lib.hid ((HH1.out.keep hb2).row (hrl))
    clear hb2 HH1
    clear hrl
    go_wp2_with fail
    refine (cSort_yes (HG.out.keep (HH2.out).bel) (HH2.out).v0 HM.out (by omega) HCL.out HGL.out).mono ?_
    rintro e w3 ⟨gs, rfl, hrs, hb3⟩
    have HH3 := Lib.hid ((HH2.out.keep hb3).row (hrs))
    clear hb3 HH2
    have HRS9 := Lib.hid hrs
    clear hrs
    obtain ⟨hc0, hf0, hl0⟩ := HH3.out.b0.rules
    go_wp2_with fail
    refine (cPlace_is (HG.out.keep (HH3.out).bel) (HH3.out).v1 HM.out (by omega) HCL.out (HH3.out).v3 C1.out HPO.out).mono ?_
    rintro e w4 ⟨rfl, hb4⟩
    have HH4 := Lib.hid (HH3.out.keep hb4)
    clear hc0 hf0 hl0
    clear hb4 HH3
    go_wp2_with fail
    refine ((show Calls Tryd.prog 19 #[.slice Al m cl] _ (BoolS true _) by have h := lRight L Al m cl _ (HH4.out).v1 HM.out HCL.out (by omega); rwa [HAL.out] at h)).mono ?_
    rintro e w5 ⟨rfl, hb5⟩
    have HH5 := Lib.hid (HH4.out.keep hb5)
    clear hb5 HH4
    go_wp2_with fail
    refine (rSort_is (HH5.out).v1 HM.out (by omega) HGL.out HCL.out HSX.out).mono ?_
    rintro e w6 ⟨Aw, cw, rfl, hrw, hb6⟩
    have HH6 := Lib.hid ((HH5.out.keep hb6).row (hrw))
    clear hb6 HH5
    clear hrw
    go_wp2_with fail
    refine (lSame_is (b := true) (show RowV _ _ _ S by have h := (HH6.out).v1; rwa [HSX.out] at h) (HH6.out).v0 HSL.out HSL.out HSC.out HSC.out (by omega) (by simp)).mono ?_
    rintro e w7 ⟨rfl, hb7⟩
    have HH7 := Lib.hid (HH6.out.keep hb7)
    clear hb7 HH6
    go_wp2_with fail
    refine (lSome_is (HH7.out).v3 HL0.out h9 HLX.out HM.out).mono ?_
    rintro e w8 ⟨Am, cm, rfl, hrm, hb8⟩
    have HH8 := Lib.hid ((HH7.out.keep hb8).row (hrm))
    clear hb8 HH7
    clear hrm
    go_wp2_with fail
    refine (lSame_is (b := true) (HH8.out).v3 (HH8.out).v0 HM.out HM.out HGC.out HGC.out (by omega) (by simp)).mono ?_
    rintro e w9 ⟨rfl, hb9⟩
    have HH9 := Lib.hid (HH8.out.keep hb9)
    clear hb9 HH8
    obtain ⟨hc0, hf0, hl0⟩ := HH9.out.b0.rules
    go_wp2_with fail
    refine (HRV.out _ _ (HH9.out).v5).mono ?_
    rintro e w10 ⟨rfl, hb10⟩
    have HH10 := Lib.hid (HH9.out.keep hb10)
    clear hc0 hf0 hl0
    clear hb10 HH9
    go_wp2
    go_ret
    exact ⟨rfl, HH10.out.bel⟩
  by_cases hs : NextJ L
  case neg =>
    have HGL := Lib.hid hg
    have HGC := Lib.hid (show ∀ x ∈ L, gd x ∧ Came x from fun x hx => ⟨hg x hx, HCL.out x hx⟩)
    have HAL := Lib.hid (allG_iff.2 hg)
    obtain ⟨S, hS⟩ : ∃ S, rSortJ L = S := ⟨_, rfl⟩
    have HSX := Lib.hid hS
    have HSL := Lib.hid (show S.length = m by rw [← hS, (rSortJ_perm hg).length_eq, HM.out])
    have HSC := Lib.hid (show ∀ x ∈ S, gd x ∧ Came x from fun x hx => HGC.out x (by rw [← hS] at hx; exact (rSortJ_perm hg).subset hx))
    have HSELF := Lib.hid (show L = S ↔ SortedJ L by rw [← hS]; exact rSortJ_self hg)
    have HNEXT := Lib.hid (sorted_next hg)
    clear hS
    have hpo := placeO_yes hg hv
    have HGV := Lib.hid hv
    have HRV := Lib.hid (fun (cs : List Value) (W : World) (hvr : VR W TT cs x1) => show Calls Tryd.prog 26 #[.agg cs.toArray] W (BoolS true W) by have h := rRightG x1 cs TT W hvr C1.out; rwa [show good x1 = true from hv] at h)
    clear hg hv
    have HPO := Lib.hid (show placeO L x1 = (0, 0, 2) by rw [hpo]; unfold placeI; rw [if_neg hs])
    have HNS := Lib.hid (show ¬ L = S from fun e => hs (HNEXT.out.1 (HSELF.out.1 e)))
    clear hs hpo
    go_enter Tryd.func5, Tryd.ntmps5
    go_wp2_with fail
    have HA1 := Lib.hid (Hld.push (HH0.out) 28 #[.int .i64 k1, .int .i64 n1, .string s1, .slice A1 na1 ca1, .slice B1 nb1 cb1] (g := w.heap.size) (by first | rfl | simp))
    refine (wakes7_any _ (HG.out.keep ((Hld.push (HH0.out) 28 #[.int .i64 k1, .int .i64 n1, .string s1, .slice A1 na1 ca1, .slice B1 nb1 cb1] (g := w.heap.size) (by first | rfl | simp))).bel)).mono ?_
    rintro e w1 ⟨rfl, hb1⟩
    have HH1 := Lib.hid (HA1.out.keep hb1)
    clear hb1 HH0 HA1
    go_wp2_with fail
    refine (lSome_is (HH1.out).v0 HL0.out h9 HLX.out HM.out).mono ?_
    rintro e w2 ⟨Al, cl, rfl, hrl, hb2⟩
    have HH2 := Lib.hid ((HH1.out.keep hb2).row (hrl))
    clear hb2 HH1
    clear hrl
    go_wp2_with fail
    refine (cSort_yes (HG.out.keep (HH2.out).bel) (HH2.out).v0 HM.out (by omega) HCL.out HGL.out).mono ?_
    rintro e w3 ⟨gs, rfl, hrs, hb3⟩
    have HH3 := Lib.hid ((HH2.out.keep hb3).row (hrs))
    clear hb3 HH2
    have HRS9 := Lib.hid hrs
    clear hrs
    obtain ⟨hc0, hf0, hl0⟩ := HH3.out.b0.rules
    go_wp2_with fail
    refine (cPlace_is (HG.out.keep (HH3.out).bel) (HH3.out).v1 HM.out (by omega) HCL.out (HH3.out).v3 C1.out HPO.out).mono ?_
    rintro e w4 ⟨rfl, hb4⟩
    have HH4 := Lib.hid (HH3.out.keep hb4)
    clear hc0 hf0 hl0
    clear hb4 HH3
    go_wp2_with fail
    refine ((show Calls Tryd.prog 19 #[.slice Al m cl] _ (BoolS true _) by have h := lRight L Al m cl _ (HH4.out).v1 HM.out HCL.out (by omega); rwa [HAL.out] at h)).mono ?_
    rintro e w5 ⟨rfl, hb5⟩
    have HH5 := Lib.hid (HH4.out.keep hb5)
    clear hb5 HH4
    go_wp2_with fail
    refine (rSort_is (HH5.out).v1 HM.out (by omega) HGL.out HCL.out HSX.out).mono ?_
    rintro e w6 ⟨Aw, cw, rfl, hrw, hb6⟩
    have HH6 := Lib.hid ((HH5.out.keep hb6).row (hrw))
    clear hb6 HH5
    clear hrw
    go_wp2_with fail
    refine (lSame_is (b := true) (show RowV _ _ _ S by have h := (HH6.out).v1; rwa [HSX.out] at h) (HH6.out).v0 HSL.out HSL.out HSC.out HSC.out (by omega) (by simp)).mono ?_
    rintro e w7 ⟨rfl, hb7⟩
    have HH7 := Lib.hid (HH6.out.keep hb7)
    clear hb7 HH6
    go_wp2_with fail
    refine (lSome_is (HH7.out).v3 HL0.out h9 HLX.out HM.out).mono ?_
    rintro e w8 ⟨Am, cm, rfl, hrm, hb8⟩
    have HH8 := Lib.hid ((HH7.out.keep hb8).row (hrm))
    clear hb8 HH7
    clear hrm
    go_wp2_with fail
    refine (lSame_is (b := true) (HH8.out).v3 (HH8.out).v0 HM.out HM.out HGC.out HGC.out (by omega) (by simp)).mono ?_
    rintro e w9 ⟨rfl, hb9⟩
    have HH9 := Lib.hid (HH8.out.keep hb9)
    clear hb9 HH8
    obtain ⟨hc0, hf0, hl0⟩ := HH9.out.b0.rules
    go_wp2_with fail
    refine (HRV.out _ _ (HH9.out).v5).mono ?_
    rintro e w10 ⟨rfl, hb10⟩
    have HH10 := Lib.hid (HH9.out.keep hb10)
    clear hc0 hf0 hl0
    clear hb10 HH9
    go_wp2_with fail
    refine (lSame_is (b := false) (HH10.out).v3 (HH10.out).v1 HM.out HSL.out HGC.out HSC.out (by omega) (by simpa using HNS.out)).mono ?_
    rintro e w11 ⟨rfl, hb11⟩
    have HH11 := Lib.hid (HH10.out.keep hb11)
    clear hb11 HH10
    go_wp2
    go_ret
    exact ⟨rfl, HH11.out.bel⟩
  · have HGL := Lib.hid hg
    have HGC := Lib.hid (show ∀ x ∈ L, gd x ∧ Came x from fun x hx => ⟨hg x hx, HCL.out x hx⟩)
    have HAL := Lib.hid (allG_iff.2 hg)
    obtain ⟨S, hS⟩ : ∃ S, rSortJ L = S := ⟨_, rfl⟩
    have HSX := Lib.hid hS
    have HSL := Lib.hid (show S.length = m by rw [← hS, (rSortJ_perm hg).length_eq, HM.out])
    have HSC := Lib.hid (show ∀ x ∈ S, gd x ∧ Came x from fun x hx => HGC.out x (by rw [← hS] at hx; exact (rSortJ_perm hg).subset hx))
    have HSELF := Lib.hid (show L = S ↔ SortedJ L by rw [← hS]; exact rSortJ_self hg)
    have HNEXT := Lib.hid (sorted_next hg)
    clear hS
    have hpo := placeO_yes hg hv
    have HGV := Lib.hid hv
    have HRV := Lib.hid (fun (cs : List Value) (W : World) (hvr : VR W TT cs x1) => show Calls Tryd.prog 26 #[.agg cs.toArray] W (BoolS true W) by have h := rRightG x1 cs TT W hvr C1.out; rwa [show good x1 = true from hv] at h)
    clear hg hv
    obtain ⟨P, hP⟩ : ∃ P, aheadJ L x1 = P := ⟨_, rfl⟩
    obtain ⟨Q, hQ⟩ : ∃ Q, notJ L x1 = Q := ⟨_, rfl⟩
    have HPO := Lib.hid (show placeO L x1 = ((P : Int), (Q : Int), 0) by rw [hpo]; unfold placeI; rw [if_pos hs, hP, hQ])
    have HYS := Lib.hid (show L = S from HSELF.out.2 (HNEXT.out.2 hs))
    have HPX := Lib.hid hP
    have HQX := Lib.hid hQ
    clear hs hpo hP hQ
    go_enter Tryd.func5, Tryd.ntmps5
    go_wp2_with fail
    have HA1 := Lib.hid (Hld.push (HH0.out) 28 #[.int .i64 k1, .int .i64 n1, .string s1, .slice A1 na1 ca1, .slice B1 nb1 cb1] (g := w.heap.size) (by first | rfl | simp))
    refine (wakes7_any _ (HG.out.keep ((Hld.push (HH0.out) 28 #[.int .i64 k1, .int .i64 n1, .string s1, .slice A1 na1 ca1, .slice B1 nb1 cb1] (g := w.heap.size) (by first | rfl | simp))).bel)).mono ?_
    rintro e w1 ⟨rfl, hb1⟩
    have HH1 := Lib.hid (HA1.out.keep hb1)
    clear hb1 HH0 HA1
    go_wp2_with fail
    refine (lSome_is (HH1.out).v0 HL0.out h9 HLX.out HM.out).mono ?_
    rintro e w2 ⟨Al, cl, rfl, hrl, hb2⟩
    have HH2 := Lib.hid ((HH1.out.keep hb2).row (hrl))
    clear hb2 HH1
    clear hrl
    go_wp2_with fail
    refine (cSort_yes (HG.out.keep (HH2.out).bel) (HH2.out).v0 HM.out (by omega) HCL.out HGL.out).mono ?_
    rintro e w3 ⟨gs, rfl, hrs, hb3⟩
    have HH3 := Lib.hid ((HH2.out.keep hb3).row (hrs))
    clear hb3 HH2
    have HRS9 := Lib.hid hrs
    clear hrs
    obtain ⟨hc0, hf0, hl0⟩ := HH3.out.b0.rules
    go_wp2_with fail
    refine (cPlace_is (HG.out.keep (HH3.out).bel) (HH3.out).v1 HM.out (by omega) HCL.out (HH3.out).v3 C1.out HPO.out).mono ?_
    rintro e w4 ⟨rfl, hb4⟩
    have HH4 := Lib.hid (HH3.out.keep hb4)
    clear hc0 hf0 hl0
    clear hb4 HH3
    go_wp2_with fail
    refine ((show Calls Tryd.prog 19 #[.slice Al m cl] _ (BoolS true _) by have h := lRight L Al m cl _ (HH4.out).v1 HM.out HCL.out (by omega); rwa [HAL.out] at h)).mono ?_
    rintro e w5 ⟨rfl, hb5⟩
    have HH5 := Lib.hid (HH4.out.keep hb5)
    clear hb5 HH4
    go_wp2_with fail
    refine (rSort_is (HH5.out).v1 HM.out (by omega) HGL.out HCL.out HSX.out).mono ?_
    rintro e w6 ⟨Aw, cw, rfl, hrw, hb6⟩
    have HH6 := Lib.hid ((HH5.out.keep hb6).row (hrw))
    clear hb6 HH5
    clear hrw
    go_wp2_with fail
    refine (lSame_is (b := true) (show RowV _ _ _ S by have h := (HH6.out).v1; rwa [HSX.out] at h) (HH6.out).v0 HSL.out HSL.out HSC.out HSC.out (by omega) (by simp)).mono ?_
    rintro e w7 ⟨rfl, hb7⟩
    have HH7 := Lib.hid (HH6.out.keep hb7)
    clear hb7 HH6
    go_wp2_with fail
    refine (lSome_is (HH7.out).v3 HL0.out h9 HLX.out HM.out).mono ?_
    rintro e w8 ⟨Am, cm, rfl, hrm, hb8⟩
    have HH8 := Lib.hid ((HH7.out.keep hb8).row (hrm))
    clear hb8 HH7
    clear hrm
    go_wp2_with fail
    refine (lSame_is (b := true) (HH8.out).v3 (HH8.out).v0 HM.out HM.out HGC.out HGC.out (by omega) (by simp)).mono ?_
    rintro e w9 ⟨rfl, hb9⟩
    have HH9 := Lib.hid (HH8.out.keep hb9)
    clear hb9 HH8
    obtain ⟨hc0, hf0, hl0⟩ := HH9.out.b0.rules
    go_wp2_with fail
    refine (HRV.out _ _ (HH9.out).v5).mono ?_
    rintro e w10 ⟨rfl, hb10⟩
    have HH10 := Lib.hid (HH9.out.keep hb10)
    clear hc0 hf0 hl0
    clear hb10 HH9
    go_wp2_with fail
    refine (lSame_is (b := true) (HH10.out).v3 (HH10.out).v1 HM.out HSL.out HGC.out HSC.out (by omega) (by simpa using HYS.out)).mono ?_
    rintro e w11 ⟨rfl, hb11⟩
    have HH11 := Lib.hid (HH10.out.keep hb11)
    clear hb11 HH10
    have HH9 : Hid (Hld [(w.heap.size, 28, #[.int .i64 k1, .int .i64 n1, .string s1, .slice A1 na1 ca1, .slice B1 nb1 cb1])] [(fun W => RowV W Al cl L), (fun W => VR W TT [.int .i64 k1, .int .i64 n1, .string s1, .slice A1 na1 ca1, .slice B1 nb1 cb1] x1)] w w11) := Lib.hid (Hld.row (Hld.val (show Hld [(w.heap.size, 28, #[.int .i64 k1, .int .i64 n1, .string s1, .slice A1 na1 ca1, .slice B1 nb1 cb1])] [] w w11 from ⟨HH11.out.1, fun p hp => by cases hp⟩) (HH11.out).v5) (HH11.out).v3)
    clear HH11
    go_wp2
    go_loopg [12, 13, 102] m (fun gk s12 s13 s102 wr => ∃ i p q : Nat, i ≤ m ∧ p ≤ i ∧ q ≤ i ∧ gk = m - i ∧ s12 = .int .i64 p ∧ s13 = .int .i64 q ∧ s102 = .int .i64 i ∧ Hid (aheadJ (L.take i) x1 = p ∧ notJ (L.take i) x1 = q) ∧ Hid (Hld [(w.heap.size, 28, #[.int .i64 k1, .int .i64 n1, .string s1, .slice A1 na1 ca1, .slice B1 nb1 cb1])] [(fun W => RowV W Al cl L), (fun W => VR W TT [.int .i64 k1, .int .i64 n1, .string s1, .slice A1 na1 ca1, .slice B1 nb1 cb1] x1)] w wr))
    case atStart => exact ⟨0, 0, 0, Nat.zero_le _, Nat.le_refl _, Nat.le_refl _, rfl, by go_num, by go_num, by go_num, Lib.hid ⟨by simp [aheadJ], by simp [notJ]⟩, HH9⟩
    case round =>
      obtain ⟨i, p, q, hi, hpi, hqi, hgk, rfl, rfl, rfl, HQ, HB⟩ := hrel
      have HGK := Lib.hid hgk
      clear hgk
      by_cases hlt : i < m
      case neg =>
        obtain rfl : i = m := by omega
        have HE := Lib.hid (show p = P ∧ q = Q by
          obtain ⟨e1, e2⟩ := HQ.out
          rw [List.take_of_length_le (Nat.le_of_eq HM.out)] at e1 e2
          exact ⟨by rw [← e1, HPX.out], by rw [← e2, HQX.out]⟩)
        obtain ⟨rfl, rfl⟩ := HE.out
        go_wp2
        go_ret
        exact ⟨rfl, HB.out.bel⟩
      obtain ⟨y, hy⟩ : ∃ y, L[i]? = some y := ⟨_, List.getElem?_eq_getElem (by rw [HM.out]; omega)⟩
      obtain ⟨css9, e1, e2, e3, e4⟩ := HB.out.v0
      obtain ⟨b, o, k2, n2, s2, A2, na2, ca2, B2, nb2, cb2, hAl, hb, hvy, hz⟩ := kid_cellsG e1 e4 hy
      subst hAl
      obtain ⟨q0, q1, q2, q3, q4⟩ := hz _ (Below.refl _ _)
      have HHA := Lib.hid ((HB.out.val hvy).push 28 #[.int .i64 k2, .int .i64 n2, .string s2, .slice A2 na2 ca2, .slice B2 nb2 cb2] (g := wr.heap.size) rfl)
      have hgy := HGC.out y (List.mem_of_getElem? hy)
      have HLS := Lib.hid (fun (W : World) (csx csy : List Value) (hx : VR W TT csx y) (hv : VR W TT csy x1) => rLess_two y x1 csx csy TT TT W hx hv hgy.1 HGV.out hgy.2 C1.out)
      have hcs := count_succ hy x1
      have hc3 := cmpJ_3 y x1
      obtain ⟨c, hc⟩ : ∃ c, cmpJ y x1 = c := ⟨_, rfl⟩
      rw [hc] at hcs hc3 HLS
      have HCS := Lib.hid hcs
      clear e1 e2 e3 e4 hz hvy hy hgy hc hcs
      obtain ⟨hd0, hd1, hd2⟩ := HHA.out.b1.rules
      rcases hc3 with rfl | rfl | rfl
      · go_wp2_with fail
        refine (show Calls Tryd.prog 27 _ _ (BoolS true _) from (HLS.out _ _ _ HHA.out.v0 HHA.out.v2).1).mono ?_
        rintro e w31 ⟨rfl, hb31⟩
        have HHB := Lib.hid (HHA.out.keep hb31)
        clear hb31 hd0 hd1 hd2
        obtain ⟨hd0, hd1, hd2⟩ := HHB.out.b1.rules
        obtain ⟨he0, he1, he2⟩ := HHB.out.b0.rules
        go_wp2_with fail
        refine (show Calls Tryd.prog 27 _ _ (BoolS false _) from (HLS.out _ _ _ HHB.out.v0 HHB.out.v2).2).mono ?_
        rintro e w32 ⟨rfl, hb32⟩
        have HHC := Lib.hid ((HHB.out.keep hb32).pop.popv)
        clear hb32 hd0 hd1 hd2 he0 he1 he2
        go_wp2
        go_roundg (m - (i + 1))
        case measure => rw [HGK.out]; omega
        case rel => exact ⟨i + 1, p + 1, q + 1, by omega, by omega, by omega, rfl, by go_num, by go_num, by go_num, Lib.hid ⟨by rw [HCS.out.1, HQ.out.1]; rfl, by rw [HCS.out.2, HQ.out.2]; rfl⟩, HHC⟩
      · go_wp2_with fail
        refine (show Calls Tryd.prog 27 _ _ (BoolS false _) from (HLS.out _ _ _ HHA.out.v0 HHA.out.v2).1).mono ?_
        rintro e w31 ⟨rfl, hb31⟩
        have HHB := Lib.hid (HHA.out.keep hb31)
        clear hb31 hd0 hd1 hd2
        obtain ⟨hd0, hd1, hd2⟩ := HHB.out.b1.rules
        obtain ⟨he0, he1, he2⟩ := HHB.out.b0.rules
        go_wp2_with fail
        refine (show Calls Tryd.prog 27 _ _ (BoolS false _) from (HLS.out _ _ _ HHB.out.v0 HHB.out.v2).2).mono ?_
        rintro e w32 ⟨rfl, hb32⟩
        have HHC := Lib.hid ((HHB.out.keep hb32).pop.popv)
        clear hb32 hd0 hd1 hd2 he0 he1 he2
        go_wp2
        go_roundg (m - (i + 1))
        case measure => rw [HGK.out]; omega
        case rel => exact ⟨i + 1, p + 0, q + 1, by omega, by omega, by omega, rfl, by go_num, by go_num, by go_num, Lib.hid ⟨by rw [HCS.out.1, HQ.out.1]; rfl, by rw [HCS.out.2, HQ.out.2]; rfl⟩, HHC⟩
      · go_wp2_with fail
        refine (show Calls Tryd.prog 27 _ _ (BoolS false _) from (HLS.out _ _ _ HHA.out.v0 HHA.out.v2).1).mono ?_
        rintro e w31 ⟨rfl, hb31⟩
        have HHB := Lib.hid (HHA.out.keep hb31)
        clear hb31 hd0 hd1 hd2
        obtain ⟨hd0, hd1, hd2⟩ := HHB.out.b1.rules
        obtain ⟨he0, he1, he2⟩ := HHB.out.b0.rules
        go_wp2_with fail
        refine (show Calls Tryd.prog 27 _ _ (BoolS true _) from (HLS.out _ _ _ HHB.out.v0 HHB.out.v2).2).mono ?_
        rintro e w32 ⟨rfl, hb32⟩
        have HHC := Lib.hid ((HHB.out.keep hb32).pop.popv)
        clear hb32 hd0 hd1 hd2 he0 he1 he2
        go_wp2
        go_roundg (m - (i + 1))
        case measure => rw [HGK.out]; omega
        case rel => exact ⟨i + 1, p + 0, q + 0, by omega, by omega, by omega, rfl, by go_num, by go_num, by go_num, Lib.hid ⟨by rw [HCS.out.1, HQ.out.1]; rfl, by rw [HCS.out.2, HQ.out.2]; rfl⟩, HHC⟩
end Go.Proofs.YtbaogoiiekpgiaaDoor
