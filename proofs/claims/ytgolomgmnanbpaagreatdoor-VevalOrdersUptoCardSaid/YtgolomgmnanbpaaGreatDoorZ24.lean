import Derived.Test.YtgolomgmnanbpaaGreatDoorZ23
import Derived.Deep.RegionHeld3
namespace Go.Proofs.YtgolomgmnanbpaaGreatDoor
set_option linter.unusedVariables false
set_option linter.unusedSimpArgs false
open Go.RowKit
attribute [local go_sem] run_index_arr run_part_agg run_part_one run_field_agg
def cntB (l m i : Bool) (j : Nat) : Int := if j = 0 then 0 else if j = 1 then (if l = true then 1 else 0) else if j = 2 then (if l = true then 1 else 0) + (if m = true then 1 else 0) else (if l = true then 1 else 0) + (if m = true then 1 else 0) + (if i = true then 1 else 0)
theorem bel_alc {B : Nat} {a w : World} (h : Below B a w) (hB : B ≤ a.heap.size) (o : Obj) : Below B a (w.alloc o) := h.alloc (Nat.le_trans hB h.size) o
set_option maxRecDepth 100000 in
set_option maxHeartbeats 32000000 in
theorem vevalOrders_any (vs : Array Value) (v : JV) (us : Array Value) (u : JV) (w : World) (hG : GOE w) (h0 : VR w TT vs.toList v) (c0 : Came v) (h1 : VR w TT us.toList u) (c1 : Came u) :
    Calls Tryz.prog 5 #[.agg vs, .agg us] w (BoolS true w) := by
  obtain ⟨l0, rfl⟩ : ∃ l : List Value, vs = l.toArray := ⟨vs.toList, by simp⟩
  obtain ⟨l1, rfl⟩ : ∃ l : List Value, us = l.toArray := ⟨us.toList, by simp⟩
  replace h0 : VR w TT l0 v := by simpa using h0
  replace h1 : VR w TT l1 u := by simpa using h1
  have HV0 := Lib.hid (fun (W : World) (h : Below w.heap.size w W) => h0.bel h)
  have HV1 := Lib.hid (fun (W : World) (h : Below w.heap.size w W) => h1.bel h)
  obtain ⟨k0, n0, s0, A0, na0, ca0, B0, nb0, cb0, rfl⟩ := h0.form
  obtain ⟨k1, n1, s1, A1, na1, ca1, B1, nb1, cb1, rfl⟩ := h1.form
  have HG := Lib.hid hG
  have HC := Lib.hid (And.intro c0 c1)
  have HCK0 := Lib.hid (fun (W : World) (h : Below w.heap.size w W) (q : Int) (hq : chkJ v = q) => vChk_is hq (hG.keep h).gok (h0.bel h) c0)
  have HCK1 := Lib.hid (fun (W : World) (h : Below w.heap.size w W) (q : Int) (hq : chkJ u = q) => vChk_is hq (hG.keep h).gok (h1.bel h) c1)
  have HH0 := Lib.hid (((Held.nil w).push 25 #[.int .i64 k0, .int .i64 n0, .string s0, .slice A0 na0 ca0, .slice B0 nb0 cb0] (g := w.heap.size) rfl).push 25 #[.int .i64 k1, .int .i64 n1, .string s1, .slice A1 na1 ca1, .slice B1 nb1 cb1] (g := w.heap.size + 1) (by simp))
  clear hG h0 h1 c0 c1
  go_enter Tryz.func5, Tryz.ntmps5
  go_wp2_with fail
  refine (lWakes _ (HG.out.keep HH0.out.1)).mono ?_
  rintro e w1 ⟨rfl, hb1⟩
  have HH1 := Lib.hid (HH0.out.keep hb1)
  have hz1 : w.heap.size + 2 ≤ w1.heap.size := by have := hb1.size; simpa using this
  clear hb1
  obtain ⟨c0, f0, l0⟩ := HH1.out.b1.rules
  obtain ⟨c1, f1, l1⟩ := HH1.out.b0.rules
  go_wp2_with fail
  have HH2 := Lib.hid ((HH1.out.push 37 #[.string ⟨#[97]⟩, .int .i64 k0, .int .i64 n0, .string s0, .slice A0 na0 ca0, .slice B0 nb0 cb0, .string ⟨#[98]⟩, .int .i64 k1, .int .i64 n1, .string s1, .slice A1 na1 ca1, .slice B1 nb1 cb1] (g := w1.heap.size) rfl).push 29 #[.slice (some ⟨w1.heap.size, 0, none⟩) 2 2] (g := w1.heap.size + 1) (by simp))
  refine (lNamed ⟨#[97]⟩ _).mono ?_
  rintro e w2 ⟨rfl, hb2⟩
  have HH3 := Lib.hid (HH2.out.keep hb2)
  clear hb2 c0 f0 l0 c1 f1 l1
  go_wp2_with fail
  refine (lNamed ⟨#[98]⟩ _).mono ?_
  rintro e w3 ⟨rfl, hb3⟩
  have HH4 := Lib.hid (HH3.out.keep hb3)
  clear hb3
  obtain ⟨WE, hWE⟩ : ∃ W, (w3.alloc (.cells #[.int .i64 2, .int .i64 0, .int .i64 0, .string ⟨#[]⟩, .slice none 0 0, .slice none 0 0, .string ⟨#[97]⟩, .slice none 0 0] 28)).alloc (.cells #[.int .i64 2, .int .i64 0, .int .i64 0, .string ⟨#[]⟩, .slice none 0 0, .slice none 0 0, .string ⟨#[98]⟩, .slice none 0 0] 28) = W := ⟨_, rfl⟩
  have HHE := Lib.hid (show Held ((w3.heap.size + 1, 28, #[.int .i64 2, .int .i64 0, .int .i64 0, .string ⟨#[]⟩, .slice none 0 0, .slice none 0 0, .string ⟨#[98]⟩, .slice none 0 0]) :: (w3.heap.size, 28, #[.int .i64 2, .int .i64 0, .int .i64 0, .string ⟨#[]⟩, .slice none 0 0, .slice none 0 0, .string ⟨#[97]⟩, .slice none 0 0]) :: _) w WE by rw [← hWE]; exact (HH4.out.push 28 #[.int .i64 2, .int .i64 0, .int .i64 0, .string ⟨#[]⟩, .slice none 0 0, .slice none 0 0, .string ⟨#[97]⟩, .slice none 0 0] (g := w3.heap.size) rfl).push 28 #[.int .i64 2, .int .i64 0, .int .i64 0, .string ⟨#[]⟩, .slice none 0 0, .slice none 0 0, .string ⟨#[98]⟩, .slice none 0 0] (g := w3.heap.size + 1) (by simp))
  have HWE := Lib.hid hWE
  clear hWE
  have HBA := Lib.hid HHE.out.b1
  have HBB := Lib.hid HHE.out.b0
  have HASK := Lib.hid (fun (x : EJ) (cs : List Value) (W : World) (hW : Below WE.heap.size WE W) (hx : ER W TT cs x) (hcx : camE x) (hsx : smlE x) =>
    have hh := HHE.out.keep hW
    lAsk x cs (env2 v u) [[.string ⟨#[97]⟩, .int .i64 k0, .int .i64 n0, .string s0, .slice A0 na0 ca0, .slice B0 nb0 cb0], [.string ⟨#[98]⟩, .int .i64 k1, .int .i64 n1, .string s1, .slice A1 na1 ca1, .slice B1 nb1 cb1]] (some ⟨w1.heap.size, 0, none⟩) 2 2 (w1.heap.size + 1) W (HG.out.keep hh.1) hx ((RR.nil.snoc ⟨_, rfl, HV0.out W hh.1⟩).snoc ⟨_, rfl, HV1.out W hh.1⟩) rfl (Nat.le_refl _) (by simpa using rdF_blk hh.b3) (by omega) hcx hsx
      (fun b hb => by rcases List.mem_cons.1 hb with rfl | hb; exact HC.out.1; obtain rfl := List.mem_singleton.1 hb; exact HC.out.2) hh.b2)
  have HB := Lib.hid (Below.refl WE.heap.size WE)
  have hmf : ∀ (fn : Fn) (first cap : Array Value) (w : World), (Instr.makeFunc fn first cap).run Tryz.prog w = .ok (.func fn first cap) w := fun _ _ _ _ => rfl
  have HBE := Lib.hid HHE.out.1
  have HCKs := Lib.hid (fun (W : World) (hW : Below WE.heap.size WE W) => HHE.out.keep hW)
  go_upto_region 6 with fail
  rw [HWE.out]
  clear HH0 HH1 HH2 HH3 HH4
  by_cases hg : good v = true ∧ good u = true
  rotate_left
  · have HBAD := Lib.hid (show ∀ x, isB (evalJ x (env2 v u)) = none from fun x => by rw [eval_bad hg]; rfl)
    obtain ⟨ca, fa, la⟩ := (HBA.out.keep HB.out).rules
    obtain ⟨cb, fb, lb⟩ := (HBB.out.keep HB.out).rules
    have HK11 := Lib.hid (Blk.new WE 28 #[.int .i64 2, .int .i64 0, .int .i64 0, .string ⟨#[]⟩, .slice none 0 0, .slice none 0 0, .string ⟨#[97]⟩, .slice none 0 0, .int .i64 2, .int .i64 0, .int .i64 0, .string ⟨#[]⟩, .slice none 0 0, .slice none 0 0, .string ⟨#[98]⟩, .slice none 0 0])
    have HB11 := Lib.hid (bel_alc HB.out (Nat.le_refl _) (.cells #[.int .i64 2, .int .i64 0, .int .i64 0, .string ⟨#[]⟩, .slice none 0 0, .slice none 0 0, .string ⟨#[97]⟩, .slice none 0 0, .int .i64 2, .int .i64 0, .int .i64 0, .string ⟨#[]⟩, .slice none 0 0, .slice none 0 0, .string ⟨#[98]⟩, .slice none 0 0] 28))
    go_wp2_with fail
    refine (lOf25 12 _ 2 2 _).mono ?_
    rintro e w11 ⟨rfl, hb⟩
    have HBo11 := Lib.hid (HB11.out.trans (hb.mono HB11.out.size))
    have HKo11 := Lib.hid (HK11.out.keep hb)
    have HQ11 := Lib.hid (HASK.out (xAB 12) [.int .i64 12, .int .i64 0, .int .i64 0, .string ⟨#[]⟩, .slice none 0 0, .slice none 0 0, .string ⟨#[]⟩, .slice (some ⟨WE.heap.size, 0, none⟩) 2 2] _ HBo11.out (er_two 12 (er_name aT) (er_name bT) HKo11.out) (cam_of (by unfold iw; omega) (by simp) (cam_two (cam_name (by decide)) (cam_name (by decide)))) (sml_of (by simp) (sml_two sml_leaf sml_leaf)))
    clear hb ca fa la cb fb lb HB
    rw [HBAD.out] at HQ11
    go_wp2_with fail
    refine HQ11.out.mono ?_
    intro e w11b h
    obtain ⟨tl, rfl, hb⟩ := h.none__
    have HB := Lib.hid (HBo11.out.trans (hb.mono HBo11.out.size))
    clear h hb HBo11 HKo11 HQ11 HB11 HK11
    obtain ⟨ca, fa, la⟩ := (HBA.out.keep HB.out).rules
    obtain ⟨cb, fb, lb⟩ := (HBB.out.keep HB.out).rules
    have HK12 := Lib.hid (Blk.new w11b 28 #[.int .i64 2, .int .i64 0, .int .i64 0, .string ⟨#[]⟩, .slice none 0 0, .slice none 0 0, .string ⟨#[98]⟩, .slice none 0 0, .int .i64 2, .int .i64 0, .int .i64 0, .string ⟨#[]⟩, .slice none 0 0, .slice none 0 0, .string ⟨#[97]⟩, .slice none 0 0])
    have HB12 := Lib.hid (bel_alc HB.out (Nat.le_refl _) (.cells #[.int .i64 2, .int .i64 0, .int .i64 0, .string ⟨#[]⟩, .slice none 0 0, .slice none 0 0, .string ⟨#[98]⟩, .slice none 0 0, .int .i64 2, .int .i64 0, .int .i64 0, .string ⟨#[]⟩, .slice none 0 0, .slice none 0 0, .string ⟨#[97]⟩, .slice none 0 0] 28))
    go_wp2_with fail
    refine (lOf25 12 _ 2 2 _).mono ?_
    rintro e w12 ⟨rfl, hb⟩
    have HBo12 := Lib.hid (HB12.out.trans (hb.mono HB12.out.size))
    have HKo12 := Lib.hid (HK12.out.keep hb)
    have HQ12 := Lib.hid (HASK.out (xBA 12) [.int .i64 12, .int .i64 0, .int .i64 0, .string ⟨#[]⟩, .slice none 0 0, .slice none 0 0, .string ⟨#[]⟩, .slice (some ⟨w11b.heap.size, 0, none⟩) 2 2] _ HBo12.out (er_two 12 (er_name bT) (er_name aT) HKo12.out) (cam_of (by unfold iw; omega) (by simp) (cam_two (cam_name (by decide)) (cam_name (by decide)))) (sml_of (by simp) (sml_two sml_leaf sml_leaf)))
    clear hb ca fa la cb fb lb HB
    rw [HBAD.out] at HQ12
    go_wp2_with fail
    refine HQ12.out.mono ?_
    intro e w12b h
    obtain ⟨tm, rfl, hb⟩ := h.none__
    have HB := Lib.hid (HBo12.out.trans (hb.mono HBo12.out.size))
    clear h hb HBo12 HKo12 HQ12 HB12 HK12
    obtain ⟨ca, fa, la⟩ := (HBA.out.keep HB.out).rules
    obtain ⟨cb, fb, lb⟩ := (HBB.out.keep HB.out).rules
    have HK13 := Lib.hid (Blk.new w12b 28 #[.int .i64 2, .int .i64 0, .int .i64 0, .string ⟨#[]⟩, .slice none 0 0, .slice none 0 0, .string ⟨#[97]⟩, .slice none 0 0, .int .i64 2, .int .i64 0, .int .i64 0, .string ⟨#[]⟩, .slice none 0 0, .slice none 0 0, .string ⟨#[98]⟩, .slice none 0 0])
    have HB13 := Lib.hid (bel_alc HB.out (Nat.le_refl _) (.cells #[.int .i64 2, .int .i64 0, .int .i64 0, .string ⟨#[]⟩, .slice none 0 0, .slice none 0 0, .string ⟨#[97]⟩, .slice none 0 0, .int .i64 2, .int .i64 0, .int .i64 0, .string ⟨#[]⟩, .slice none 0 0, .slice none 0 0, .string ⟨#[98]⟩, .slice none 0 0] 28))
    go_wp2_with fail
    refine (lOf25 11 _ 2 2 _).mono ?_
    rintro e w13 ⟨rfl, hb⟩
    have HBo13 := Lib.hid (HB13.out.trans (hb.mono HB13.out.size))
    have HKo13 := Lib.hid (HK13.out.keep hb)
    have HQ13 := Lib.hid (HASK.out (xAB 11) [.int .i64 11, .int .i64 0, .int .i64 0, .string ⟨#[]⟩, .slice none 0 0, .slice none 0 0, .string ⟨#[]⟩, .slice (some ⟨w12b.heap.size, 0, none⟩) 2 2] _ HBo13.out (er_two 11 (er_name aT) (er_name bT) HKo13.out) (cam_of (by unfold iw; omega) (by simp) (cam_two (cam_name (by decide)) (cam_name (by decide)))) (sml_of (by simp) (sml_two sml_leaf sml_leaf)))
    clear hb ca fa la cb fb lb HB
    rw [HBAD.out] at HQ13
    go_wp2_with fail
    refine HQ13.out.mono ?_
    intro e w13b h
    obtain ⟨ti, rfl, hb⟩ := h.none__
    have HB := Lib.hid (HBo13.out.trans (hb.mono HBo13.out.size))
    clear h hb HBo13 HKo13 HQ13 HB13 HK13
    obtain ⟨ca, fa, la⟩ := (HBA.out.keep HB.out).rules
    obtain ⟨cb, fb, lb⟩ := (HBB.out.keep HB.out).rules
    have HK14 := Lib.hid (Blk.new w13b 28 #[.int .i64 2, .int .i64 0, .int .i64 0, .string ⟨#[]⟩, .slice none 0 0, .slice none 0 0, .string ⟨#[97]⟩, .slice none 0 0, .int .i64 2, .int .i64 0, .int .i64 0, .string ⟨#[]⟩, .slice none 0 0, .slice none 0 0, .string ⟨#[98]⟩, .slice none 0 0])
    have HB14 := Lib.hid (bel_alc HB.out (Nat.le_refl _) (.cells #[.int .i64 2, .int .i64 0, .int .i64 0, .string ⟨#[]⟩, .slice none 0 0, .slice none 0 0, .string ⟨#[97]⟩, .slice none 0 0, .int .i64 2, .int .i64 0, .int .i64 0, .string ⟨#[]⟩, .slice none 0 0, .slice none 0 0, .string ⟨#[98]⟩, .slice none 0 0] 28))
    go_wp2_with fail
    refine (lOf25 13 _ 2 2 _).mono ?_
    rintro e w14 ⟨rfl, hb⟩
    have HBo14 := Lib.hid (HB14.out.trans (hb.mono HB14.out.size))
    have HKo14 := Lib.hid (HK14.out.keep hb)
    have HQ14 := Lib.hid (HASK.out (xAB 13) [.int .i64 13, .int .i64 0, .int .i64 0, .string ⟨#[]⟩, .slice none 0 0, .slice none 0 0, .string ⟨#[]⟩, .slice (some ⟨w13b.heap.size, 0, none⟩) 2 2] _ HBo14.out (er_two 13 (er_name aT) (er_name bT) HKo14.out) (cam_of (by unfold iw; omega) (by simp) (cam_two (cam_name (by decide)) (cam_name (by decide)))) (sml_of (by simp) (sml_two sml_leaf sml_leaf)))
    clear hb ca fa la cb fb lb HB
    rw [HBAD.out] at HQ14
    go_wp2_with fail
    refine HQ14.out.mono ?_
    intro e w14b h
    obtain ⟨tq, rfl, hb⟩ := h.none__
    have HB := Lib.hid (HBo14.out.trans (hb.mono HBo14.out.size))
    clear h hb HBo14 HKo14 HQ14 HB14 HK14
    have hh := HCKs.out _ HB.out
    have HHB := Lib.hid hh
    clear hh
    by_cases hv : good v = true
    · have hu : ¬ good u = true := fun h => hg ⟨hv, h⟩
      have H0 := Lib.hid (HCK0.out _ HHB.out.1 0 (by unfold chkJ; rw [if_pos hv]))
      have H1 := Lib.hid (fun W hW => HCK1.out W hW 140 (by unfold chkJ; rw [if_neg hu]))
      clear hv hu hg
      obtain ⟨c0, f0, l0⟩ := HHB.out.b5.rules
      go_wp2_with fail
      refine H0.out.mono ?_
      rintro e w9 ⟨rfl, hb⟩
      have HH9 := Lib.hid (HHB.out.keep hb)
      clear hb c0 f0 l0
      obtain ⟨c1, f1, l1⟩ := HH9.out.b4.rules
      go_wp2_with fail
      refine (H1.out _ HH9.out.1).mono ?_
      rintro e w10 ⟨rfl, hb⟩
      have HH10 := Lib.hid (HH9.out.keep hb)
      clear hb c1 f1 l1
      go_wp2
      go_ret
      exact ⟨rfl, HH10.out.1⟩
    · have H0 := Lib.hid (HCK0.out _ HHB.out.1 140 (by unfold chkJ; rw [if_neg hv]))
      clear hv hg
      obtain ⟨c0, f0, l0⟩ := HHB.out.b5.rules
      go_wp2_with fail
      refine H0.out.mono ?_
      rintro e w9 ⟨rfl, hb⟩
      have HH9 := Lib.hid (HHB.out.keep hb)
      clear hb c0 f0 l0
      go_wp2
      go_ret
      exact ⟨rfl, HH9.out.1⟩
  have HAB := Lib.hid (ask_ab hg.1 hg.2)
  have HOR := Lib.hid (ask_or hg.1 hg.2)
  have HAND := Lib.hid (ask_and hg.1 hg.2)
  have HNOT := Lib.hid (ask_not hg.1 hg.2)
  have HT3 := Lib.hid (three hg.1 hg.2)
  have HK0 := Lib.hid (fun W hW => HCK0.out W hW 0 (by unfold chkJ; rw [if_pos hg.1]))
  have HK1 := Lib.hid (fun W hW => HCK1.out W hW 0 (by unfold chkJ; rw [if_pos hg.2]))
  clear hg HCK0 HCK1
  obtain ⟨l, hl⟩ : ∃ b, decide (cmpJ v u < 0) = b := ⟨_, rfl⟩
  obtain ⟨m, hm⟩ : ∃ b, decide (cmpJ u v < 0) = b := ⟨_, rfl⟩
  obtain ⟨i, hi⟩ : ∃ b, decide (cmpJ v u = 0) = b := ⟨_, rfl⟩
  obtain ⟨q, hq⟩ : ∃ b, decide (cmpJ v u ≤ 0) = b := ⟨_, rfl⟩
  have H3 := Lib.hid (show (l = true ∧ m = false ∧ i = false ∧ q = true) ∨ (l = false ∧ m = true ∧ i = false ∧ q = false) ∨ (l = false ∧ m = false ∧ i = true ∧ q = true) by
    rw [← hl, ← hm, ← hi, ← hq]
    rcases HT3.out with ⟨h1, h2, h3, h4⟩ | ⟨h1, h2, h3, h4⟩ | ⟨h1, h2, h3, h4⟩
    · exact .inl ⟨decide_eq_true h1, decide_eq_false h2, decide_eq_false h3, decide_eq_true h4⟩
    · exact .inr (.inl ⟨decide_eq_false h1, decide_eq_true h2, decide_eq_false h3, decide_eq_false h4⟩)
    · exact .inr (.inr ⟨decide_eq_false h1, decide_eq_false h2, decide_eq_true h3, decide_eq_true h4⟩))
  rw [hl, hm, hi, hq] at HAB
  rw [hl, hi] at HOR HAND
  rw [hm] at HNOT
  clear hl hm hi hq HT3
  obtain ⟨ca, fa, la⟩ := (HBA.out.keep HB.out).rules
  obtain ⟨cb, fb, lb⟩ := (HBB.out.keep HB.out).rules
  have HK15 := Lib.hid (Blk.new WE 28 #[.int .i64 2, .int .i64 0, .int .i64 0, .string ⟨#[]⟩, .slice none 0 0, .slice none 0 0, .string ⟨#[97]⟩, .slice none 0 0, .int .i64 2, .int .i64 0, .int .i64 0, .string ⟨#[]⟩, .slice none 0 0, .slice none 0 0, .string ⟨#[98]⟩, .slice none 0 0])
  have HB15 := Lib.hid (bel_alc HB.out (Nat.le_refl _) (.cells #[.int .i64 2, .int .i64 0, .int .i64 0, .string ⟨#[]⟩, .slice none 0 0, .slice none 0 0, .string ⟨#[97]⟩, .slice none 0 0, .int .i64 2, .int .i64 0, .int .i64 0, .string ⟨#[]⟩, .slice none 0 0, .slice none 0 0, .string ⟨#[98]⟩, .slice none 0 0] 28))
  go_wp2_with fail
  refine (lOf25 12 _ 2 2 _).mono ?_
  rintro e w15 ⟨rfl, hb⟩
  have HBo15 := Lib.hid (HB15.out.trans (hb.mono HB15.out.size))
  have HKo15 := Lib.hid (HK15.out.keep hb)
  have HQ15 := Lib.hid (HASK.out (xAB 12) [.int .i64 12, .int .i64 0, .int .i64 0, .string ⟨#[]⟩, .slice none 0 0, .slice none 0 0, .string ⟨#[]⟩, .slice (some ⟨WE.heap.size, 0, none⟩) 2 2] _ HBo15.out (er_two 12 (er_name aT) (er_name bT) HKo15.out) (cam_of (by unfold iw; omega) (by simp) (cam_two (cam_name (by decide)) (cam_name (by decide)))) (sml_of (by simp) (sml_two sml_leaf sml_leaf)))
  clear hb ca fa la cb fb lb HB
  rw [(HAB.out).1] at HQ15
  go_wp2_with fail
  refine HQ15.out.mono ?_
  intro e w15b h
  obtain ⟨rfl, hb⟩ := h.some_
  have HB := Lib.hid (HBo15.out.trans (hb.mono HBo15.out.size))
  clear h hb HBo15 HKo15 HQ15 HB15 HK15
  obtain ⟨ca, fa, la⟩ := (HBA.out.keep HB.out).rules
  obtain ⟨cb, fb, lb⟩ := (HBB.out.keep HB.out).rules
  have HK16 := Lib.hid (Blk.new w15b 28 #[.int .i64 2, .int .i64 0, .int .i64 0, .string ⟨#[]⟩, .slice none 0 0, .slice none 0 0, .string ⟨#[98]⟩, .slice none 0 0, .int .i64 2, .int .i64 0, .int .i64 0, .string ⟨#[]⟩, .slice none 0 0, .slice none 0 0, .string ⟨#[97]⟩, .slice none 0 0])
  have HB16 := Lib.hid (bel_alc HB.out (Nat.le_refl _) (.cells #[.int .i64 2, .int .i64 0, .int .i64 0, .string ⟨#[]⟩, .slice none 0 0, .slice none 0 0, .string ⟨#[98]⟩, .slice none 0 0, .int .i64 2, .int .i64 0, .int .i64 0, .string ⟨#[]⟩, .slice none 0 0, .slice none 0 0, .string ⟨#[97]⟩, .slice none 0 0] 28))
  go_wp2_with fail
  refine (lOf25 12 _ 2 2 _).mono ?_
  rintro e w16 ⟨rfl, hb⟩
  have HBo16 := Lib.hid (HB16.out.trans (hb.mono HB16.out.size))
  have HKo16 := Lib.hid (HK16.out.keep hb)
  have HQ16 := Lib.hid (HASK.out (xBA 12) [.int .i64 12, .int .i64 0, .int .i64 0, .string ⟨#[]⟩, .slice none 0 0, .slice none 0 0, .string ⟨#[]⟩, .slice (some ⟨w15b.heap.size, 0, none⟩) 2 2] _ HBo16.out (er_two 12 (er_name bT) (er_name aT) HKo16.out) (cam_of (by unfold iw; omega) (by simp) (cam_two (cam_name (by decide)) (cam_name (by decide)))) (sml_of (by simp) (sml_two sml_leaf sml_leaf)))
  clear hb ca fa la cb fb lb HB
  rw [(HAB.out).2.2.2] at HQ16
  go_wp2_with fail
  refine HQ16.out.mono ?_
  intro e w16b h
  obtain ⟨rfl, hb⟩ := h.some_
  have HB := Lib.hid (HBo16.out.trans (hb.mono HBo16.out.size))
  clear h hb HBo16 HKo16 HQ16 HB16 HK16
  obtain ⟨ca, fa, la⟩ := (HBA.out.keep HB.out).rules
  obtain ⟨cb, fb, lb⟩ := (HBB.out.keep HB.out).rules
  have HK17 := Lib.hid (Blk.new w16b 28 #[.int .i64 2, .int .i64 0, .int .i64 0, .string ⟨#[]⟩, .slice none 0 0, .slice none 0 0, .string ⟨#[97]⟩, .slice none 0 0, .int .i64 2, .int .i64 0, .int .i64 0, .string ⟨#[]⟩, .slice none 0 0, .slice none 0 0, .string ⟨#[98]⟩, .slice none 0 0])
  have HB17 := Lib.hid (bel_alc HB.out (Nat.le_refl _) (.cells #[.int .i64 2, .int .i64 0, .int .i64 0, .string ⟨#[]⟩, .slice none 0 0, .slice none 0 0, .string ⟨#[97]⟩, .slice none 0 0, .int .i64 2, .int .i64 0, .int .i64 0, .string ⟨#[]⟩, .slice none 0 0, .slice none 0 0, .string ⟨#[98]⟩, .slice none 0 0] 28))
  go_wp2_with fail
  refine (lOf25 11 _ 2 2 _).mono ?_
  rintro e w17 ⟨rfl, hb⟩
  have HBo17 := Lib.hid (HB17.out.trans (hb.mono HB17.out.size))
  have HKo17 := Lib.hid (HK17.out.keep hb)
  have HQ17 := Lib.hid (HASK.out (xAB 11) [.int .i64 11, .int .i64 0, .int .i64 0, .string ⟨#[]⟩, .slice none 0 0, .slice none 0 0, .string ⟨#[]⟩, .slice (some ⟨w16b.heap.size, 0, none⟩) 2 2] _ HBo17.out (er_two 11 (er_name aT) (er_name bT) HKo17.out) (cam_of (by unfold iw; omega) (by simp) (cam_two (cam_name (by decide)) (cam_name (by decide)))) (sml_of (by simp) (sml_two sml_leaf sml_leaf)))
  clear hb ca fa la cb fb lb HB
  rw [(HAB.out).2.1] at HQ17
  go_wp2_with fail
  refine HQ17.out.mono ?_
  intro e w17b h
  obtain ⟨rfl, hb⟩ := h.some_
  have HB := Lib.hid (HBo17.out.trans (hb.mono HBo17.out.size))
  clear h hb HBo17 HKo17 HQ17 HB17 HK17
  obtain ⟨ca, fa, la⟩ := (HBA.out.keep HB.out).rules
  obtain ⟨cb, fb, lb⟩ := (HBB.out.keep HB.out).rules
  have HK18 := Lib.hid (Blk.new w17b 28 #[.int .i64 2, .int .i64 0, .int .i64 0, .string ⟨#[]⟩, .slice none 0 0, .slice none 0 0, .string ⟨#[97]⟩, .slice none 0 0, .int .i64 2, .int .i64 0, .int .i64 0, .string ⟨#[]⟩, .slice none 0 0, .slice none 0 0, .string ⟨#[98]⟩, .slice none 0 0])
  have HB18 := Lib.hid (bel_alc HB.out (Nat.le_refl _) (.cells #[.int .i64 2, .int .i64 0, .int .i64 0, .string ⟨#[]⟩, .slice none 0 0, .slice none 0 0, .string ⟨#[97]⟩, .slice none 0 0, .int .i64 2, .int .i64 0, .int .i64 0, .string ⟨#[]⟩, .slice none 0 0, .slice none 0 0, .string ⟨#[98]⟩, .slice none 0 0] 28))
  go_wp2_with fail
  refine (lOf25 13 _ 2 2 _).mono ?_
  rintro e w18 ⟨rfl, hb⟩
  have HBo18 := Lib.hid (HB18.out.trans (hb.mono HB18.out.size))
  have HKo18 := Lib.hid (HK18.out.keep hb)
  have HQ18 := Lib.hid (HASK.out (xAB 13) [.int .i64 13, .int .i64 0, .int .i64 0, .string ⟨#[]⟩, .slice none 0 0, .slice none 0 0, .string ⟨#[]⟩, .slice (some ⟨w17b.heap.size, 0, none⟩) 2 2] _ HBo18.out (er_two 13 (er_name aT) (er_name bT) HKo18.out) (cam_of (by unfold iw; omega) (by simp) (cam_two (cam_name (by decide)) (cam_name (by decide)))) (sml_of (by simp) (sml_two sml_leaf sml_leaf)))
  clear hb ca fa la cb fb lb HB
  rw [(HAB.out).2.2.1] at HQ18
  go_wp2_with fail
  refine HQ18.out.mono ?_
  intro e w18b h
  obtain ⟨rfl, hb⟩ := h.some_
  have HB := Lib.hid (HBo18.out.trans (hb.mono HBo18.out.size))
  clear h hb HBo18 HKo18 HQ18 HB18 HK18
  have hh := HCKs.out _ HB.out
  have HHB := Lib.hid hh
  clear hh
  obtain ⟨c0, f0, l0⟩ := HHB.out.b5.rules
  go_wp2_with fail
  refine (HK0.out _ HHB.out.1).mono ?_
  rintro e w9 ⟨rfl, hb⟩
  have HH9 := Lib.hid (HHB.out.keep hb)
  have HB9 := Lib.hid (HB.out.trans (hb.mono HB.out.size))
  clear hb c0 f0 l0 HB HHB
  obtain ⟨c1, f1, l1⟩ := HH9.out.b4.rules
  go_wp2_with fail
  refine (HK1.out _ HH9.out.1).mono ?_
  rintro e w10 ⟨rfl, hb⟩
  have HB := Lib.hid (HB9.out.trans (hb.mono HB9.out.size))
  clear hb c1 f1 l1 HB9 HH9
  go_wp2
  obtain ⟨WL, hWL⟩ : ∃ W, w10.alloc (.cells #[.bool l, .bool m, .bool i] 4) = W := ⟨_, rfl⟩
  have HBL := Lib.hid (show Blk WL w10.heap.size 4 #[.bool l, .bool m, .bool i] by rw [← hWL]; exact Blk.new _ _ _)
  have HBW := Lib.hid (show Below WE.heap.size WE WL by rw [← hWL]; exact bel_alc HB.out (Nat.le_refl _) _)
  rw [hWL]
  clear hWL HB
  go_loopg [18, 102] 3 (fun gk s18 s102 wr => ∃ j : Nat, j ≤ 3 ∧ gk = 3 - j ∧ s102 = .int .i64 (j : Int) ∧ s18 = .int .i64 (cntB l m i j) ∧ Hid (Below WL.heap.size WL wr))
  case atStart => exact ⟨0, by omega, by go_num, rfl, rfl, Lib.hid (Below.refl _ _)⟩
  case round =>
    obtain ⟨j, hj, hgk, rfl, rfl, HBR⟩ := hrel
    have HGK := Lib.hid hgk
    clear hgk
    by_cases hj3 : j < 3
    · obtain ⟨b, hcb, hst⟩ : ∃ b : Bool, WL.cell? ⟨w10.heap.size, j, none⟩ = some (.bool b) ∧ cntB l m i (j + 1) = cntB l m i j + (if b = true then 1 else 0) := by
        rcases (by omega : j = 0 ∨ j = 1 ∨ j = 2) with rfl | rfl | rfl
        · exact ⟨l, HBL.out.cell 0, by simp [cntB]⟩
        · exact ⟨m, HBL.out.cell 1, by simp [cntB]⟩
        · exact ⟨i, HBL.out.cell 2, by simp [cntB]⟩
      have hcr := (HBR.out.cell (p := ⟨w10.heap.size, j, none⟩) HBL.out.lt).trans hcb
      have hlr : w10.heap.size < wr.heap.size := Nat.lt_of_lt_of_le HBL.out.lt HBR.out.size
      have hcn : 0 ≤ cntB l m i j ∧ cntB l m i j ≤ 3 := by
        unfold cntB
        constructor <;> (repeat' split) <;> omega
      obtain ⟨c, hc⟩ : ∃ c, cntB l m i j = c := ⟨_, rfl⟩
      rw [hc] at hcn hst
      rw [hc]
      have HST := Lib.hid hst
      have hn1 := hcn.1
      have hn2 := hcn.2
      clear hcb hst hc hcn
      cases b
      · go_wp2
        go_roundg (3 - (j + 1))
        case measure => rw [HGK.out]; omega
        case rel => exact ⟨j + 1, by omega, rfl, by go_num, by rw [HST.out]; simp, HBR⟩
      · go_wp2
        go_roundg (3 - (j + 1))
        case measure => rw [HGK.out]; omega
        case rel => exact ⟨j + 1, by omega, rfl, by go_num, by rw [HST.out]; simp, HBR⟩
    · obtain rfl : j = 3 := by omega
      have h31 : cntB l m i 3 = 1 := by rcases H3.out with ⟨rfl, rfl, rfl, _⟩ | ⟨rfl, rfl, rfl, _⟩ | ⟨rfl, rfl, rfl, _⟩ <;> rfl
      rw [h31]
      have HB := Lib.hid (HBW.out.trans (HBR.out.mono HBW.out.size))
      clear h31 HBR
      clear HK0 HK1 HAB
      go_upto_region 20 with fail
      go_cut [21, 22] (fun sA sB wx => sA = .bool (l || i) ∧ sB = .bool true ∧ ∃ W : World, W = wx ∧ Hid (Below WE.heap.size WE W))
      case first =>
        refine wp_region_held_drew (S := fun W' => Below wr.heap.size wr W') (by kernel_rfl) (by exact (Below.refl _ _).drew) (fun hHeld => ?_)
        refine wpAnyH_worldM (fun z19 hw0 => ?_)
        have HS := Lib.hid (show Below wr.heap.size wr z19 by rw [hw0]; exact (Below.refl _ _).drew)
        clear hw0
        refine wpAnyH_take (i := 0) (oi := ⟨some 111, _, _, _, _, _⟩) (v := .func (.func 27) #[] #[.pointer (some ⟨w1.heap.size + 1, 0, none⟩)]) rfl (by kernel_rfl) (by kernel_rfl) (by kernel_rfl) (fun _ _ _ h => h) (Or.inl ⟨by kernel_rfl, ?_⟩) (by assumption) ?_
        · intro W hSw; go_simp
        try simp only [Act.put, List.setIfInBounds_toArray, List.set_cons_zero, List.set_cons_succ]
        refine wpAnyH_take (i := 1) (oi := ⟨some 112, _, _, _, _, _⟩) (v := .agg #[.int .i64 2, .int .i64 0, .int .i64 0, .string ⟨#[]⟩, .slice none 0 0, .slice none 0 0, .string ⟨#[97]⟩, .slice none 0 0]) rfl (by kernel_rfl) (by kernel_rfl) (by kernel_rfl) (fun _ _ _ h => h) (Or.inl ⟨by kernel_rfl, ?_⟩) (by assumption) ?_
        · intro W hSw; obtain ⟨c8, f8, l8⟩ := (HBA.out.keep (HB.out.trans (hSw.mono HB.out.size))).rules; go_simp
        try simp only [Act.put, List.setIfInBounds_toArray, List.set_cons_zero, List.set_cons_succ]
        refine wpAnyH_take (i := 2) (oi := ⟨some 113, _, _, _, _, _⟩) (v := .agg #[.int .i64 2, .int .i64 0, .int .i64 0, .string ⟨#[]⟩, .slice none 0 0, .slice none 0 0, .string ⟨#[98]⟩, .slice none 0 0]) rfl (by kernel_rfl) (by kernel_rfl) (by kernel_rfl) (fun _ _ _ h => h) (Or.inl ⟨by kernel_rfl, ?_⟩) (by assumption) ?_
        · intro W hSw; obtain ⟨c8, f8, l8⟩ := (HBB.out.keep (HB.out.trans (hSw.mono HB.out.size))).rules; go_simp
        try simp only [Act.put, List.setIfInBounds_toArray, List.set_cons_zero, List.set_cons_succ]
        refine wpAnyH_take (i := 5) (oi := ⟨some 116, _, _, _, _, _⟩) (v := .agg #[.int .i64 2, .int .i64 0, .int .i64 0, .string ⟨#[]⟩, .slice none 0 0, .slice none 0 0, .string ⟨#[97]⟩, .slice none 0 0]) rfl (by kernel_rfl) (by kernel_rfl) (by kernel_rfl) (fun _ _ _ h => h) (Or.inl ⟨by kernel_rfl, ?_⟩) (by assumption) ?_
        · intro W hSw; obtain ⟨c8, f8, l8⟩ := (HBA.out.keep (HB.out.trans (hSw.mono HB.out.size))).rules; go_simp
        try simp only [Act.put, List.setIfInBounds_toArray, List.set_cons_zero, List.set_cons_succ]
        refine wpAnyH_take (i := 6) (oi := ⟨some 117, _, _, _, _, _⟩) (v := .agg #[.int .i64 2, .int .i64 0, .int .i64 0, .string ⟨#[]⟩, .slice none 0 0, .slice none 0 0, .string ⟨#[98]⟩, .slice none 0 0]) rfl (by kernel_rfl) (by kernel_rfl) (by kernel_rfl) (fun _ _ _ h => h) (Or.inl ⟨by kernel_rfl, ?_⟩) (by assumption) ?_
        · intro W hSw; obtain ⟨c8, f8, l8⟩ := (HBB.out.keep (HB.out.trans (hSw.mono HB.out.size))).rules; go_simp
        try simp only [Act.put, List.setIfInBounds_toArray, List.set_cons_zero, List.set_cons_succ]
        refine wpAnyH_ready (rs := [3, 7]) (by kernel_rfl) (by simp) ?_
        refine AllReadyH.cons (o := ⟨some 114, _, _, _, _, _⟩) rfl (fun K hK => ?_) (AllReadyH.cons (o := ⟨some 118, _, _, _, _, _⟩) rfl (fun K hK => ?_) AllReadyH.nil)
        · go_simp
          refine hK.out _ _ (by exact bel_alc HS.out (Nat.le_refl _) _) (fun hHeld2 => ?_)
          clear hK K
          try simp only [Act.put, List.setIfInBounds_toArray, List.set_cons_zero, List.set_cons_succ]
          refine wpAnyH_worldM (fun z20 hW => ?_)
          have HS2 := Lib.hid (show Below wr.heap.size wr z20 by rw [hW]; exact bel_alc HS.out (Nat.le_refl _) _)
          have HP3_2 := Lib.hid (show Blk z20 z19.heap.size 28 #[.int .i64 2, .int .i64 0, .int .i64 0, .string ⟨#[]⟩, .slice none 0 0, .slice none 0 0, .string ⟨#[97]⟩, .slice none 0 0, .int .i64 2, .int .i64 0, .int .i64 0, .string ⟨#[]⟩, .slice none 0 0, .slice none 0 0, .string ⟨#[98]⟩, .slice none 0 0] by rw [hW]; exact Blk.new _ _ _)
          clear hW hHeld2 HS 
          have HS := HS2
          clear HS2
          have HP3 := HP3_2
          clear HP3_2
          have hHeld := HS.out
          refine wpAnyH_ready (rs := [4, 7]) (by kernel_rfl) (by simp) ?_
          refine AllReadyH.cons (o := ⟨some 115, _, _, _, _, _⟩) rfl (fun K hK => ?_) (AllReadyH.cons (o := ⟨some 118, _, _, _, _, _⟩) rfl (fun K hK => ?_) AllReadyH.nil)
          · go_simp
            refine (lOf25 12 _ 2 2 _).mono ?_
            rintro e z21 ⟨rfl, hb⟩
            have HS2 := Lib.hid (HS.out.trans (hb.mono HS.out.size))
            have HP3_2 := Lib.hid (HP3.out.keep hb)
            refine hK.out _ _ (by exact HS2.out) (fun hHeld2 => ?_)
            clear hK K hb hHeld2 HS HP3
            have HS := HS2
            clear HS2
            have HP3 := HP3_2
            clear HP3_2
            try simp only [Act.put, List.setIfInBounds_toArray, List.set_cons_zero, List.set_cons_succ]
            have hHeld := HS.out
            refine wpAnyH_ready (rs := [7]) (by kernel_rfl) (by simp) ?_
            refine AllReadyH.cons (o := ⟨some 118, _, _, _, _, _⟩) rfl (fun K hK => ?_) AllReadyH.nil
            go_simp
            refine hK.out _ _ (by exact bel_alc HS.out (Nat.le_refl _) _) (fun hHeld2 => ?_)
            clear hK K
            try simp only [Act.put, List.setIfInBounds_toArray, List.set_cons_zero, List.set_cons_succ]
            refine wpAnyH_worldM (fun z22 hW => ?_)
            have HS2 := Lib.hid (show Below wr.heap.size wr z22 by rw [hW]; exact bel_alc HS.out (Nat.le_refl _) _)
            have HP7_2 := Lib.hid (show Blk z22 z21.heap.size 28 #[.int .i64 2, .int .i64 0, .int .i64 0, .string ⟨#[]⟩, .slice none 0 0, .slice none 0 0, .string ⟨#[97]⟩, .slice none 0 0, .int .i64 2, .int .i64 0, .int .i64 0, .string ⟨#[]⟩, .slice none 0 0, .slice none 0 0, .string ⟨#[98]⟩, .slice none 0 0] by rw [hW]; exact Blk.new _ _ _)
            have HP3_2 := Lib.hid (show Blk z22 z19.heap.size 28 #[.int .i64 2, .int .i64 0, .int .i64 0, .string ⟨#[]⟩, .slice none 0 0, .slice none 0 0, .string ⟨#[97]⟩, .slice none 0 0, .int .i64 2, .int .i64 0, .int .i64 0, .string ⟨#[]⟩, .slice none 0 0, .slice none 0 0, .string ⟨#[98]⟩, .slice none 0 0] by rw [hW]; exact Blk.alloc HP3.out _)
            clear hW hHeld2 HS HP3
            have HS := HS2
            clear HS2
            have HP3 := HP3_2
            clear HP3_2
            have HP7 := HP7_2
            clear HP7_2
            have hHeld := HS.out
            refine wpAnyH_ready (rs := [8]) (by kernel_rfl) (by simp) ?_
            refine AllReadyH.cons (o := ⟨some 119, _, _, _, _, _⟩) rfl (fun K hK => ?_) AllReadyH.nil
            go_simp
            refine (lOf25 11 _ 2 2 _).mono ?_
            rintro e z23 ⟨rfl, hb⟩
            have HS2 := Lib.hid (HS.out.trans (hb.mono HS.out.size))
            have HP3_2 := Lib.hid (HP3.out.keep hb)
            have HP7_2 := Lib.hid (HP7.out.keep hb)
            refine hK.out _ _ (by exact HS2.out) (fun hHeld2 => ?_)
            clear hK K hb hHeld2 HS HP3 HP7
            have HS := HS2
            clear HS2
            have HP3 := HP3_2
            clear HP3_2
            have HP7 := HP7_2
            clear HP7_2
            try simp only [Act.put, List.setIfInBounds_toArray, List.set_cons_zero, List.set_cons_succ]
            have hHeld := HS.out
            refine wpAnyH_ready (rs := [9]) (by kernel_rfl) (by simp) ?_
            refine AllReadyH.cons (o := ⟨some 120, _, _, _, _, _⟩) rfl (fun K hK => ?_) AllReadyH.nil
            go_simp
            refine hK.out _ _ (by exact bel_alc HS.out (Nat.le_refl _) _) (fun hHeld2 => ?_)
            clear hK K
            try simp only [Act.put, List.setIfInBounds_toArray, List.set_cons_zero, List.set_cons_succ]
            refine wpAnyH_worldM (fun z24 hW => ?_)
            have HSa := Lib.hid (show Below wr.heap.size wr z24 by rw [hW]; exact bel_alc HS.out (Nat.le_refl _) _)
            have HPa := Lib.hid (show Blk z24 z19.heap.size 28 #[.int .i64 2, .int .i64 0, .int .i64 0, .string ⟨#[]⟩, .slice none 0 0, .slice none 0 0, .string ⟨#[97]⟩, .slice none 0 0, .int .i64 2, .int .i64 0, .int .i64 0, .string ⟨#[]⟩, .slice none 0 0, .slice none 0 0, .string ⟨#[98]⟩, .slice none 0 0] ∧ Blk z24 z21.heap.size 28 #[.int .i64 2, .int .i64 0, .int .i64 0, .string ⟨#[]⟩, .slice none 0 0, .slice none 0 0, .string ⟨#[97]⟩, .slice none 0 0, .int .i64 2, .int .i64 0, .int .i64 0, .string ⟨#[]⟩, .slice none 0 0, .slice none 0 0, .string ⟨#[98]⟩, .slice none 0 0] ∧ Blk z24 z23.heap.size 28 #[.int .i64 12, .int .i64 0, .int .i64 0, .string ⟨#[]⟩, .slice none 0 0, .slice none 0 0, .string ⟨#[]⟩, .slice (some ⟨z19.heap.size, 0, none⟩) 2 2, .int .i64 11, .int .i64 0, .int .i64 0, .string ⟨#[]⟩, .slice none 0 0, .slice none 0 0, .string ⟨#[]⟩, .slice (some ⟨z21.heap.size, 0, none⟩) 2 2] by rw [hW]; exact ⟨Blk.alloc HP3.out _, Blk.alloc HP7.out _, Blk.new _ _ _⟩)
            clear hW hHeld2 HS HP3 HP7
            have hHeld := HSa.out
            refine wpAnyH_ready (rs := [10]) (by kernel_rfl) (by simp) ?_
            refine AllReadyH.cons (o := ⟨some 121, _, _, _, _, _⟩) rfl (fun K hK => ?_) AllReadyH.nil
            go_simp
            refine (lOf25 15 _ 2 2 _).mono ?_
            rintro e z25 ⟨rfl, hb⟩
            have HSb := Lib.hid (HSa.out.trans (hb.mono HSa.out.size))
            have HPb := Lib.hid (And.intro (HPa.out.1.keep hb) (And.intro (HPa.out.2.1.keep hb) (HPa.out.2.2.keep hb)))
            refine hK.out _ _ (by exact HSb.out) (fun hHeld2 => ?_)
            clear hK K hb hHeld2 HSa HPa
            try simp only [Act.put, List.setIfInBounds_toArray, List.set_cons_zero, List.set_cons_succ]
            have hHeld := HSb.out
            have HQ := Lib.hid (HASK.out (xOf 15 [xAB 12, xAB 11]) [.int .i64 15, .int .i64 0, .int .i64 0, .string ⟨#[]⟩, .slice none 0 0, .slice none 0 0, .string ⟨#[]⟩, .slice (some ⟨z23.heap.size, 0, none⟩) 2 2] z25 (HB.out.trans (HSb.out.mono HB.out.size)) (er_two 15 (er_two 12 (er_name aT) (er_name bT) HPb.out.1) (er_two 11 (er_name aT) (er_name bT) HPb.out.2.1) HPb.out.2.2) (cam_of (by unfold iw; omega) (by simp) (cam_two (cam_of (by unfold iw; omega) (by simp) (cam_two (cam_name (by decide)) (cam_name (by decide)))) (cam_of (by unfold iw; omega) (by simp) (cam_two (cam_name (by decide)) (cam_name (by decide)))))) (sml_of (by simp) (sml_two (sml_of (by simp) (sml_two sml_leaf sml_leaf)) (sml_of (by simp) (sml_two sml_leaf sml_leaf)))))
            rw [HOR.out] at HQ
            refine wpAnyH_ready (rs := [11]) (by kernel_rfl) (by simp) ?_
            refine AllReadyH.cons (o := ⟨some 122, _, _, _, _, _⟩) rfl (fun K hK => ?_) AllReadyH.nil
            go_simp
            refine HQ.out.mono ?_
            intro e z26 h
            obtain ⟨rfl, hb⟩ := h.some_
            have HSc := Lib.hid (HSb.out.trans (hb.mono HSb.out.size))
            refine hK.out _ _ (by exact HSc.out) (fun hHeld2 => ?_)
            clear hK K hb hHeld2 HSb HPb HQ h
            try simp only [Act.put, List.setIfInBounds_toArray, List.set_cons_zero, List.set_cons_succ]
            have hHeld := HSc.out
            refine wpAnyH_take (i := 12) (oi := ⟨some 110, _, _, _, _, _⟩) (v := .tuple #[.bool (l || i), .bool true]) rfl (by kernel_rfl) (by kernel_rfl) (by kernel_rfl) (fun _ _ _ h => h) (Or.inl ⟨by kernel_rfl, ?_⟩) (by assumption) ?_
            · intro W hSw; go_simp
            try simp only [Act.put, List.setIfInBounds_toArray, List.set_cons_zero, List.set_cons_succ]
            refine wpAnyH_take (i := 13) (oi := ⟨some 123, _, _, _, _, _⟩) (v := .bool (l || i)) rfl (by kernel_rfl) (by kernel_rfl) (by kernel_rfl) (fun _ _ _ h => h) (Or.inl ⟨by kernel_rfl, ?_⟩) (by assumption) ?_
            · intro W hSw; go_simp
            try simp only [Act.put, List.setIfInBounds_toArray, List.set_cons_zero, List.set_cons_succ]
            refine wpAnyH_take (i := 14) (oi := ⟨some 124, _, _, _, _, _⟩) (v := .bool true) rfl (by kernel_rfl) (by kernel_rfl) (by kernel_rfl) (fun _ _ _ h => h) (Or.inl ⟨by kernel_rfl, ?_⟩) (by assumption) ?_
            · intro W hSw; go_simp
            try simp only [Act.put, List.setIfInBounds_toArray, List.set_cons_zero, List.set_cons_succ]
            refine wpAnyH_take (i := 15) (oi := ⟨some 21, _, _, _, _, _⟩) (v := .bool (l || i)) rfl (by kernel_rfl) (by kernel_rfl) (by kernel_rfl) (fun _ _ _ h => h) (Or.inl ⟨by kernel_rfl, ?_⟩) (by assumption) ?_
            · intro W hSw; go_simp
            try simp only [Act.put, List.setIfInBounds_toArray, List.set_cons_zero, List.set_cons_succ]
            refine wpAnyH_take (i := 16) (oi := ⟨some 22, _, _, _, _, _⟩) (v := .bool true) rfl (by kernel_rfl) (by kernel_rfl) (by kernel_rfl) (fun _ _ _ h => h) (Or.inl ⟨by kernel_rfl, ?_⟩) (by assumption) ?_
            · intro W hSw; go_simp
            try simp only [Act.put, List.setIfInBounds_toArray, List.set_cons_zero, List.set_cons_succ]
            refine wpAnyH_done (by kernel_rfl) ?_ _
            have HF := Lib.hid (HB.out.trans (HSc.out.mono HB.out.size))
            go_wp2
            go_meet
            case rel => exact ⟨rfl, rfl, _, rfl, HF⟩
          · go_simp
            refine hK.out _ _ (by exact bel_alc HS.out (Nat.le_refl _) _) (fun hHeld2 => ?_)
            clear hK K
            try simp only [Act.put, List.setIfInBounds_toArray, List.set_cons_zero, List.set_cons_succ]
            refine wpAnyH_worldM (fun z27 hW => ?_)
            have HS2 := Lib.hid (show Below wr.heap.size wr z27 by rw [hW]; exact bel_alc HS.out (Nat.le_refl _) _)
            have HP7_2 := Lib.hid (show Blk z27 z20.heap.size 28 #[.int .i64 2, .int .i64 0, .int .i64 0, .string ⟨#[]⟩, .slice none 0 0, .slice none 0 0, .string ⟨#[97]⟩, .slice none 0 0, .int .i64 2, .int .i64 0, .int .i64 0, .string ⟨#[]⟩, .slice none 0 0, .slice none 0 0, .string ⟨#[98]⟩, .slice none 0 0] by rw [hW]; exact Blk.new _ _ _)
            have HP3_2 := Lib.hid (show Blk z27 z19.heap.size 28 #[.int .i64 2, .int .i64 0, .int .i64 0, .string ⟨#[]⟩, .slice none 0 0, .slice none 0 0, .string ⟨#[97]⟩, .slice none 0 0, .int .i64 2, .int .i64 0, .int .i64 0, .string ⟨#[]⟩, .slice none 0 0, .slice none 0 0, .string ⟨#[98]⟩, .slice none 0 0] by rw [hW]; exact Blk.alloc HP3.out _)
            clear hW hHeld2 HS HP3
            have HS := HS2
            clear HS2
            have HP3 := HP3_2
            clear HP3_2
            have HP7 := HP7_2
            clear HP7_2
            have hHeld := HS.out
            refine wpAnyH_ready (rs := [4]) (by kernel_rfl) (by simp) ?_
            refine AllReadyH.cons (o := ⟨some 115, _, _, _, _, _⟩) rfl (fun K hK => ?_) AllReadyH.nil
            go_simp
            refine (lOf25 12 _ 2 2 _).mono ?_
            rintro e z28 ⟨rfl, hb⟩
            have HS2 := Lib.hid (HS.out.trans (hb.mono HS.out.size))
            have HP3_2 := Lib.hid (HP3.out.keep hb)
            have HP7_2 := Lib.hid (HP7.out.keep hb)
            refine hK.out _ _ (by exact HS2.out) (fun hHeld2 => ?_)
            clear hK K hb hHeld2 HS HP3 HP7
            have HS := HS2
            clear HS2
            have HP3 := HP3_2
            clear HP3_2
            have HP7 := HP7_2
            clear HP7_2
            try simp only [Act.put, List.setIfInBounds_toArray, List.set_cons_zero, List.set_cons_succ]
            have hHeld := HS.out
            refine wpAnyH_ready (rs := [8]) (by kernel_rfl) (by simp) ?_
            refine AllReadyH.cons (o := ⟨some 119, _, _, _, _, _⟩) rfl (fun K hK => ?_) AllReadyH.nil
            go_simp
            refine (lOf25 11 _ 2 2 _).mono ?_
            rintro e z29 ⟨rfl, hb⟩
            have HS2 := Lib.hid (HS.out.trans (hb.mono HS.out.size))
            have HP3_2 := Lib.hid (HP3.out.keep hb)
            have HP7_2 := Lib.hid (HP7.out.keep hb)
            refine hK.out _ _ (by exact HS2.out) (fun hHeld2 => ?_)
            clear hK K hb hHeld2 HS HP3 HP7
            have HS := HS2
            clear HS2
            have HP3 := HP3_2
            clear HP3_2
            have HP7 := HP7_2
            clear HP7_2
            try simp only [Act.put, List.setIfInBounds_toArray, List.set_cons_zero, List.set_cons_succ]
            have hHeld := HS.out
            refine wpAnyH_ready (rs := [9]) (by kernel_rfl) (by simp) ?_
            refine AllReadyH.cons (o := ⟨some 120, _, _, _, _, _⟩) rfl (fun K hK => ?_) AllReadyH.nil
            go_simp
            refine hK.out _ _ (by exact bel_alc HS.out (Nat.le_refl _) _) (fun hHeld2 => ?_)
            clear hK K
            try simp only [Act.put, List.setIfInBounds_toArray, List.set_cons_zero, List.set_cons_succ]
            refine wpAnyH_worldM (fun z30 hW => ?_)
            have HSa := Lib.hid (show Below wr.heap.size wr z30 by rw [hW]; exact bel_alc HS.out (Nat.le_refl _) _)
            have HPa := Lib.hid (show Blk z30 z19.heap.size 28 #[.int .i64 2, .int .i64 0, .int .i64 0, .string ⟨#[]⟩, .slice none 0 0, .slice none 0 0, .string ⟨#[97]⟩, .slice none 0 0, .int .i64 2, .int .i64 0, .int .i64 0, .string ⟨#[]⟩, .slice none 0 0, .slice none 0 0, .string ⟨#[98]⟩, .slice none 0 0] ∧ Blk z30 z20.heap.size 28 #[.int .i64 2, .int .i64 0, .int .i64 0, .string ⟨#[]⟩, .slice none 0 0, .slice none 0 0, .string ⟨#[97]⟩, .slice none 0 0, .int .i64 2, .int .i64 0, .int .i64 0, .string ⟨#[]⟩, .slice none 0 0, .slice none 0 0, .string ⟨#[98]⟩, .slice none 0 0] ∧ Blk z30 z29.heap.size 28 #[.int .i64 12, .int .i64 0, .int .i64 0, .string ⟨#[]⟩, .slice none 0 0, .slice none 0 0, .string ⟨#[]⟩, .slice (some ⟨z19.heap.size, 0, none⟩) 2 2, .int .i64 11, .int .i64 0, .int .i64 0, .string ⟨#[]⟩, .slice none 0 0, .slice none 0 0, .string ⟨#[]⟩, .slice (some ⟨z20.heap.size, 0, none⟩) 2 2] by rw [hW]; exact ⟨Blk.alloc HP3.out _, Blk.alloc HP7.out _, Blk.new _ _ _⟩)
            clear hW hHeld2 HS HP3 HP7
            have hHeld := HSa.out
            refine wpAnyH_ready (rs := [10]) (by kernel_rfl) (by simp) ?_
            refine AllReadyH.cons (o := ⟨some 121, _, _, _, _, _⟩) rfl (fun K hK => ?_) AllReadyH.nil
            go_simp
            refine (lOf25 15 _ 2 2 _).mono ?_
            rintro e z31 ⟨rfl, hb⟩
            have HSb := Lib.hid (HSa.out.trans (hb.mono HSa.out.size))
            have HPb := Lib.hid (And.intro (HPa.out.1.keep hb) (And.intro (HPa.out.2.1.keep hb) (HPa.out.2.2.keep hb)))
            refine hK.out _ _ (by exact HSb.out) (fun hHeld2 => ?_)
            clear hK K hb hHeld2 HSa HPa
            try simp only [Act.put, List.setIfInBounds_toArray, List.set_cons_zero, List.set_cons_succ]
            have hHeld := HSb.out
            have HQ := Lib.hid (HASK.out (xOf 15 [xAB 12, xAB 11]) [.int .i64 15, .int .i64 0, .int .i64 0, .string ⟨#[]⟩, .slice none 0 0, .slice none 0 0, .string ⟨#[]⟩, .slice (some ⟨z29.heap.size, 0, none⟩) 2 2] z31 (HB.out.trans (HSb.out.mono HB.out.size)) (er_two 15 (er_two 12 (er_name aT) (er_name bT) HPb.out.1) (er_two 11 (er_name aT) (er_name bT) HPb.out.2.1) HPb.out.2.2) (cam_of (by unfold iw; omega) (by simp) (cam_two (cam_of (by unfold iw; omega) (by simp) (cam_two (cam_name (by decide)) (cam_name (by decide)))) (cam_of (by unfold iw; omega) (by simp) (cam_two (cam_name (by decide)) (cam_name (by decide)))))) (sml_of (by simp) (sml_two (sml_of (by simp) (sml_two sml_leaf sml_leaf)) (sml_of (by simp) (sml_two sml_leaf sml_leaf)))))
            rw [HOR.out] at HQ
            refine wpAnyH_ready (rs := [11]) (by kernel_rfl) (by simp) ?_
            refine AllReadyH.cons (o := ⟨some 122, _, _, _, _, _⟩) rfl (fun K hK => ?_) AllReadyH.nil
            go_simp
            refine HQ.out.mono ?_
            intro e z32 h
            obtain ⟨rfl, hb⟩ := h.some_
            have HSc := Lib.hid (HSb.out.trans (hb.mono HSb.out.size))
            refine hK.out _ _ (by exact HSc.out) (fun hHeld2 => ?_)
            clear hK K hb hHeld2 HSb HPb HQ h
            try simp only [Act.put, List.setIfInBounds_toArray, List.set_cons_zero, List.set_cons_succ]
            have hHeld := HSc.out
            refine wpAnyH_take (i := 12) (oi := ⟨some 110, _, _, _, _, _⟩) (v := .tuple #[.bool (l || i), .bool true]) rfl (by kernel_rfl) (by kernel_rfl) (by kernel_rfl) (fun _ _ _ h => h) (Or.inl ⟨by kernel_rfl, ?_⟩) (by assumption) ?_
            · intro W hSw; go_simp
            try simp only [Act.put, List.setIfInBounds_toArray, List.set_cons_zero, List.set_cons_succ]
            refine wpAnyH_take (i := 13) (oi := ⟨some 123, _, _, _, _, _⟩) (v := .bool (l || i)) rfl (by kernel_rfl) (by kernel_rfl) (by kernel_rfl) (fun _ _ _ h => h) (Or.inl ⟨by kernel_rfl, ?_⟩) (by assumption) ?_
            · intro W hSw; go_simp
            try simp only [Act.put, List.setIfInBounds_toArray, List.set_cons_zero, List.set_cons_succ]
            refine wpAnyH_take (i := 14) (oi := ⟨some 124, _, _, _, _, _⟩) (v := .bool true) rfl (by kernel_rfl) (by kernel_rfl) (by kernel_rfl) (fun _ _ _ h => h) (Or.inl ⟨by kernel_rfl, ?_⟩) (by assumption) ?_
            · intro W hSw; go_simp
            try simp only [Act.put, List.setIfInBounds_toArray, List.set_cons_zero, List.set_cons_succ]
            refine wpAnyH_take (i := 15) (oi := ⟨some 21, _, _, _, _, _⟩) (v := .bool (l || i)) rfl (by kernel_rfl) (by kernel_rfl) (by kernel_rfl) (fun _ _ _ h => h) (Or.inl ⟨by kernel_rfl, ?_⟩) (by assumption) ?_
            · intro W hSw; go_simp
            try simp only [Act.put, List.setIfInBounds_toArray, List.set_cons_zero, List.set_cons_succ]
            refine wpAnyH_take (i := 16) (oi := ⟨some 22, _, _, _, _, _⟩) (v := .bool true) rfl (by kernel_rfl) (by kernel_rfl) (by kernel_rfl) (fun _ _ _ h => h) (Or.inl ⟨by kernel_rfl, ?_⟩) (by assumption) ?_
            · intro W hSw; go_simp
            try simp only [Act.put, List.setIfInBounds_toArray, List.set_cons_zero, List.set_cons_succ]
            refine wpAnyH_done (by kernel_rfl) ?_ _
            have HF := Lib.hid (HB.out.trans (HSc.out.mono HB.out.size))
            go_wp2
            go_meet
            case rel => exact ⟨rfl, rfl, _, rfl, HF⟩
        · go_simp
          refine hK.out _ _ (by exact bel_alc HS.out (Nat.le_refl _) _) (fun hHeld2 => ?_)
          clear hK K
          try simp only [Act.put, List.setIfInBounds_toArray, List.set_cons_zero, List.set_cons_succ]
          refine wpAnyH_worldM (fun z33 hW => ?_)
          have HS2 := Lib.hid (show Below wr.heap.size wr z33 by rw [hW]; exact bel_alc HS.out (Nat.le_refl _) _)
          have HP7_2 := Lib.hid (show Blk z33 z19.heap.size 28 #[.int .i64 2, .int .i64 0, .int .i64 0, .string ⟨#[]⟩, .slice none 0 0, .slice none 0 0, .string ⟨#[97]⟩, .slice none 0 0, .int .i64 2, .int .i64 0, .int .i64 0, .string ⟨#[]⟩, .slice none 0 0, .slice none 0 0, .string ⟨#[98]⟩, .slice none 0 0] by rw [hW]; exact Blk.new _ _ _)
          clear hW hHeld2 HS 
          have HS := HS2
          clear HS2
          have HP7 := HP7_2
          clear HP7_2
          have hHeld := HS.out
          refine wpAnyH_ready (rs := [3]) (by kernel_rfl) (by simp) ?_
          refine AllReadyH.cons (o := ⟨some 114, _, _, _, _, _⟩) rfl (fun K hK => ?_) AllReadyH.nil
          go_simp
          refine hK.out _ _ (by exact bel_alc HS.out (Nat.le_refl _) _) (fun hHeld2 => ?_)
          clear hK K
          try simp only [Act.put, List.setIfInBounds_toArray, List.set_cons_zero, List.set_cons_succ]
          refine wpAnyH_worldM (fun z34 hW => ?_)
          have HS2 := Lib.hid (show Below wr.heap.size wr z34 by rw [hW]; exact bel_alc HS.out (Nat.le_refl _) _)
          have HP3_2 := Lib.hid (show Blk z34 z33.heap.size 28 #[.int .i64 2, .int .i64 0, .int .i64 0, .string ⟨#[]⟩, .slice none 0 0, .slice none 0 0, .string ⟨#[97]⟩, .slice none 0 0, .int .i64 2, .int .i64 0, .int .i64 0, .string ⟨#[]⟩, .slice none 0 0, .slice none 0 0, .string ⟨#[98]⟩, .slice none 0 0] by rw [hW]; exact Blk.new _ _ _)
          have HP7_2 := Lib.hid (show Blk z34 z19.heap.size 28 #[.int .i64 2, .int .i64 0, .int .i64 0, .string ⟨#[]⟩, .slice none 0 0, .slice none 0 0, .string ⟨#[97]⟩, .slice none 0 0, .int .i64 2, .int .i64 0, .int .i64 0, .string ⟨#[]⟩, .slice none 0 0, .slice none 0 0, .string ⟨#[98]⟩, .slice none 0 0] by rw [hW]; exact Blk.alloc HP7.out _)
          clear hW hHeld2 HS HP7
          have HS := HS2
          clear HS2
          have HP7 := HP7_2
          clear HP7_2
          have HP3 := HP3_2
          clear HP3_2
          have hHeld := HS.out
          refine wpAnyH_ready (rs := [4]) (by kernel_rfl) (by simp) ?_
          refine AllReadyH.cons (o := ⟨some 115, _, _, _, _, _⟩) rfl (fun K hK => ?_) AllReadyH.nil
          go_simp
          refine (lOf25 12 _ 2 2 _).mono ?_
          rintro e z35 ⟨rfl, hb⟩
          have HS2 := Lib.hid (HS.out.trans (hb.mono HS.out.size))
          have HP7_2 := Lib.hid (HP7.out.keep hb)
          have HP3_2 := Lib.hid (HP3.out.keep hb)
          refine hK.out _ _ (by exact HS2.out) (fun hHeld2 => ?_)
          clear hK K hb hHeld2 HS HP7 HP3
          have HS := HS2
          clear HS2
          have HP7 := HP7_2
          clear HP7_2
          have HP3 := HP3_2
          clear HP3_2
          try simp only [Act.put, List.setIfInBounds_toArray, List.set_cons_zero, List.set_cons_succ]
          have hHeld := HS.out
          refine wpAnyH_ready (rs := [8]) (by kernel_rfl) (by simp) ?_
          refine AllReadyH.cons (o := ⟨some 119, _, _, _, _, _⟩) rfl (fun K hK => ?_) AllReadyH.nil
          go_simp
          refine (lOf25 11 _ 2 2 _).mono ?_
          rintro e z36 ⟨rfl, hb⟩
          have HS2 := Lib.hid (HS.out.trans (hb.mono HS.out.size))
          have HP7_2 := Lib.hid (HP7.out.keep hb)
          have HP3_2 := Lib.hid (HP3.out.keep hb)
          refine hK.out _ _ (by exact HS2.out) (fun hHeld2 => ?_)
          clear hK K hb hHeld2 HS HP7 HP3
          have HS := HS2
          clear HS2
          have HP7 := HP7_2
          clear HP7_2
          have HP3 := HP3_2
          clear HP3_2
          try simp only [Act.put, List.setIfInBounds_toArray, List.set_cons_zero, List.set_cons_succ]
          have hHeld := HS.out
          refine wpAnyH_ready (rs := [9]) (by kernel_rfl) (by simp) ?_
          refine AllReadyH.cons (o := ⟨some 120, _, _, _, _, _⟩) rfl (fun K hK => ?_) AllReadyH.nil
          go_simp
          refine hK.out _ _ (by exact bel_alc HS.out (Nat.le_refl _) _) (fun hHeld2 => ?_)
          clear hK K
          try simp only [Act.put, List.setIfInBounds_toArray, List.set_cons_zero, List.set_cons_succ]
          refine wpAnyH_worldM (fun z37 hW => ?_)
          have HSa := Lib.hid (show Below wr.heap.size wr z37 by rw [hW]; exact bel_alc HS.out (Nat.le_refl _) _)
          have HPa := Lib.hid (show Blk z37 z33.heap.size 28 #[.int .i64 2, .int .i64 0, .int .i64 0, .string ⟨#[]⟩, .slice none 0 0, .slice none 0 0, .string ⟨#[97]⟩, .slice none 0 0, .int .i64 2, .int .i64 0, .int .i64 0, .string ⟨#[]⟩, .slice none 0 0, .slice none 0 0, .string ⟨#[98]⟩, .slice none 0 0] ∧ Blk z37 z19.heap.size 28 #[.int .i64 2, .int .i64 0, .int .i64 0, .string ⟨#[]⟩, .slice none 0 0, .slice none 0 0, .string ⟨#[97]⟩, .slice none 0 0, .int .i64 2, .int .i64 0, .int .i64 0, .string ⟨#[]⟩, .slice none 0 0, .slice none 0 0, .string ⟨#[98]⟩, .slice none 0 0] ∧ Blk z37 z36.heap.size 28 #[.int .i64 12, .int .i64 0, .int .i64 0, .string ⟨#[]⟩, .slice none 0 0, .slice none 0 0, .string ⟨#[]⟩, .slice (some ⟨z33.heap.size, 0, none⟩) 2 2, .int .i64 11, .int .i64 0, .int .i64 0, .string ⟨#[]⟩, .slice none 0 0, .slice none 0 0, .string ⟨#[]⟩, .slice (some ⟨z19.heap.size, 0, none⟩) 2 2] by rw [hW]; exact ⟨Blk.alloc HP3.out _, Blk.alloc HP7.out _, Blk.new _ _ _⟩)
          clear hW hHeld2 HS HP3 HP7
          have hHeld := HSa.out
          refine wpAnyH_ready (rs := [10]) (by kernel_rfl) (by simp) ?_
          refine AllReadyH.cons (o := ⟨some 121, _, _, _, _, _⟩) rfl (fun K hK => ?_) AllReadyH.nil
          go_simp
          refine (lOf25 15 _ 2 2 _).mono ?_
          rintro e z38 ⟨rfl, hb⟩
          have HSb := Lib.hid (HSa.out.trans (hb.mono HSa.out.size))
          have HPb := Lib.hid (And.intro (HPa.out.1.keep hb) (And.intro (HPa.out.2.1.keep hb) (HPa.out.2.2.keep hb)))
          refine hK.out _ _ (by exact HSb.out) (fun hHeld2 => ?_)
          clear hK K hb hHeld2 HSa HPa
          try simp only [Act.put, List.setIfInBounds_toArray, List.set_cons_zero, List.set_cons_succ]
          have hHeld := HSb.out
          have HQ := Lib.hid (HASK.out (xOf 15 [xAB 12, xAB 11]) [.int .i64 15, .int .i64 0, .int .i64 0, .string ⟨#[]⟩, .slice none 0 0, .slice none 0 0, .string ⟨#[]⟩, .slice (some ⟨z36.heap.size, 0, none⟩) 2 2] z38 (HB.out.trans (HSb.out.mono HB.out.size)) (er_two 15 (er_two 12 (er_name aT) (er_name bT) HPb.out.1) (er_two 11 (er_name aT) (er_name bT) HPb.out.2.1) HPb.out.2.2) (cam_of (by unfold iw; omega) (by simp) (cam_two (cam_of (by unfold iw; omega) (by simp) (cam_two (cam_name (by decide)) (cam_name (by decide)))) (cam_of (by unfold iw; omega) (by simp) (cam_two (cam_name (by decide)) (cam_name (by decide)))))) (sml_of (by simp) (sml_two (sml_of (by simp) (sml_two sml_leaf sml_leaf)) (sml_of (by simp) (sml_two sml_leaf sml_leaf)))))
          rw [HOR.out] at HQ
          refine wpAnyH_ready (rs := [11]) (by kernel_rfl) (by simp) ?_
          refine AllReadyH.cons (o := ⟨some 122, _, _, _, _, _⟩) rfl (fun K hK => ?_) AllReadyH.nil
          go_simp
          refine HQ.out.mono ?_
          intro e z39 h
          obtain ⟨rfl, hb⟩ := h.some_
          have HSc := Lib.hid (HSb.out.trans (hb.mono HSb.out.size))
          refine hK.out _ _ (by exact HSc.out) (fun hHeld2 => ?_)
          clear hK K hb hHeld2 HSb HPb HQ h
          try simp only [Act.put, List.setIfInBounds_toArray, List.set_cons_zero, List.set_cons_succ]
          have hHeld := HSc.out
          refine wpAnyH_take (i := 12) (oi := ⟨some 110, _, _, _, _, _⟩) (v := .tuple #[.bool (l || i), .bool true]) rfl (by kernel_rfl) (by kernel_rfl) (by kernel_rfl) (fun _ _ _ h => h) (Or.inl ⟨by kernel_rfl, ?_⟩) (by assumption) ?_
          · intro W hSw; go_simp
          try simp only [Act.put, List.setIfInBounds_toArray, List.set_cons_zero, List.set_cons_succ]
          refine wpAnyH_take (i := 13) (oi := ⟨some 123, _, _, _, _, _⟩) (v := .bool (l || i)) rfl (by kernel_rfl) (by kernel_rfl) (by kernel_rfl) (fun _ _ _ h => h) (Or.inl ⟨by kernel_rfl, ?_⟩) (by assumption) ?_
          · intro W hSw; go_simp
          try simp only [Act.put, List.setIfInBounds_toArray, List.set_cons_zero, List.set_cons_succ]
          refine wpAnyH_take (i := 14) (oi := ⟨some 124, _, _, _, _, _⟩) (v := .bool true) rfl (by kernel_rfl) (by kernel_rfl) (by kernel_rfl) (fun _ _ _ h => h) (Or.inl ⟨by kernel_rfl, ?_⟩) (by assumption) ?_
          · intro W hSw; go_simp
          try simp only [Act.put, List.setIfInBounds_toArray, List.set_cons_zero, List.set_cons_succ]
          refine wpAnyH_take (i := 15) (oi := ⟨some 21, _, _, _, _, _⟩) (v := .bool (l || i)) rfl (by kernel_rfl) (by kernel_rfl) (by kernel_rfl) (fun _ _ _ h => h) (Or.inl ⟨by kernel_rfl, ?_⟩) (by assumption) ?_
          · intro W hSw; go_simp
          try simp only [Act.put, List.setIfInBounds_toArray, List.set_cons_zero, List.set_cons_succ]
          refine wpAnyH_take (i := 16) (oi := ⟨some 22, _, _, _, _, _⟩) (v := .bool true) rfl (by kernel_rfl) (by kernel_rfl) (by kernel_rfl) (fun _ _ _ h => h) (Or.inl ⟨by kernel_rfl, ?_⟩) (by assumption) ?_
          · intro W hSw; go_simp
          try simp only [Act.put, List.setIfInBounds_toArray, List.set_cons_zero, List.set_cons_succ]
          refine wpAnyH_done (by kernel_rfl) ?_ _
          have HF := Lib.hid (HB.out.trans (HSc.out.mono HB.out.size))
          go_wp2
          go_meet
          case rel => exact ⟨rfl, rfl, _, rfl, HF⟩
      case rest =>
        obtain ⟨rfl, rfl, wq, rfl, HB2⟩ := hcut
        clear HB
        have HB := HB2
        clear HB2
        obtain ⟨ca, fa, la⟩ := (HBA.out.keep HB.out).rules
        obtain ⟨cb, fb, lb⟩ := (HBB.out.keep HB.out).rules
        have HK1 := Lib.hid (Blk.new wq 28 #[.int .i64 2, .int .i64 0, .int .i64 0, .string ⟨#[]⟩, .slice none 0 0, .slice none 0 0, .string ⟨#[98]⟩, .slice none 0 0, .int .i64 2, .int .i64 0, .int .i64 0, .string ⟨#[]⟩, .slice none 0 0, .slice none 0 0, .string ⟨#[97]⟩, .slice none 0 0])
        have HB1 := Lib.hid (bel_alc HB.out (Nat.le_refl _) (.cells #[.int .i64 2, .int .i64 0, .int .i64 0, .string ⟨#[]⟩, .slice none 0 0, .slice none 0 0, .string ⟨#[98]⟩, .slice none 0 0, .int .i64 2, .int .i64 0, .int .i64 0, .string ⟨#[]⟩, .slice none 0 0, .slice none 0 0, .string ⟨#[97]⟩, .slice none 0 0] 28))
        go_wp2_with fail
        refine (lOf25 12 _ 2 2 _).mono ?_
        rintro e y1 ⟨rfl, hb⟩
        have HK2 := Lib.hid ((HK1.out.keep hb).alloc (.cells #[.int .i64 12, .int .i64 0, .int .i64 0, .string ⟨#[]⟩, .slice none 0 0, .slice none 0 0, .string ⟨#[]⟩, .slice (some ⟨wq.heap.size, 0, none⟩) 2 2] 28))
        have HK3 := Lib.hid (Blk.new y1 28 #[.int .i64 12, .int .i64 0, .int .i64 0, .string ⟨#[]⟩, .slice none 0 0, .slice none 0 0, .string ⟨#[]⟩, .slice (some ⟨wq.heap.size, 0, none⟩) 2 2])
        have HB2 := Lib.hid (bel_alc (HB1.out.trans (hb.mono HB1.out.size)) (Nat.le_refl _) (.cells #[.int .i64 12, .int .i64 0, .int .i64 0, .string ⟨#[]⟩, .slice none 0 0, .slice none 0 0, .string ⟨#[]⟩, .slice (some ⟨wq.heap.size, 0, none⟩) 2 2] 28))
        clear hb ca fa la cb fb lb HB HB1 HK1
        go_wp2_with fail
        refine (lOf25 5 _ 1 1 _).mono ?_
        rintro e y2 ⟨rfl, hb⟩
        have HB3 := Lib.hid (HB2.out.trans (hb.mono HB2.out.size))
        have HQ := Lib.hid (HASK.out (xOf 5 [xBA 12]) [.int .i64 5, .int .i64 0, .int .i64 0, .string ⟨#[]⟩, .slice none 0 0, .slice none 0 0, .string ⟨#[]⟩, .slice (some ⟨y1.heap.size, 0, none⟩) 1 1] _ HB3.out (er_one 5 (er_two 12 (er_name bT) (er_name aT) (HK2.out.keep hb)) (HK3.out.keep hb)) (cam_of (by unfold iw; omega) (by simp) (fun y hy => by obtain rfl := List.mem_singleton.1 hy; exact (cam_of (by unfold iw; omega) (by simp) (cam_two (cam_name (by decide)) (cam_name (by decide)))))) (sml_of (by simp) (fun y hy => by obtain rfl := List.mem_singleton.1 hy; exact (sml_of (by simp) (sml_two sml_leaf sml_leaf)))))
        rw [HNOT.out] at HQ
        clear hb HK2 HK3 HB2
        go_wp2_with fail
        refine HQ.out.mono ?_
        intro e wr h
        obtain ⟨rfl, hb⟩ := h.some_
        have HB := Lib.hid (HB3.out.trans (hb.mono HB3.out.size))
        clear h hb HB3 HQ
        go_upto_region 22 with fail
        go_cut [25, 26] (fun sA sB wx => sA = .bool (l && i) ∧ sB = .bool true ∧ ∃ W : World, W = wx ∧ Hid (Below WE.heap.size WE W))
        case first =>
          refine wp_region_held_drew (S := fun W' => Below wr.heap.size wr W') (by kernel_rfl) (by exact (Below.refl _ _).drew) (fun hHeld => ?_)
          refine wpAnyH_worldM (fun z40 hw0 => ?_)
          have HS := Lib.hid (show Below wr.heap.size wr z40 by rw [hw0]; exact (Below.refl _ _).drew)
          clear hw0
          refine wpAnyH_take (i := 0) (oi := ⟨some 137, _, _, _, _, _⟩) (v := .func (.func 27) #[] #[.pointer (some ⟨w1.heap.size + 1, 0, none⟩)]) rfl (by kernel_rfl) (by kernel_rfl) (by kernel_rfl) (fun _ _ _ h => h) (Or.inl ⟨by kernel_rfl, ?_⟩) (by assumption) ?_
          · intro W hSw; go_simp
          try simp only [Act.put, List.setIfInBounds_toArray, List.set_cons_zero, List.set_cons_succ]
          refine wpAnyH_take (i := 1) (oi := ⟨some 138, _, _, _, _, _⟩) (v := .agg #[.int .i64 2, .int .i64 0, .int .i64 0, .string ⟨#[]⟩, .slice none 0 0, .slice none 0 0, .string ⟨#[97]⟩, .slice none 0 0]) rfl (by kernel_rfl) (by kernel_rfl) (by kernel_rfl) (fun _ _ _ h => h) (Or.inl ⟨by kernel_rfl, ?_⟩) (by assumption) ?_
          · intro W hSw; obtain ⟨c8, f8, l8⟩ := (HBA.out.keep (HB.out.trans (hSw.mono HB.out.size))).rules; go_simp
          try simp only [Act.put, List.setIfInBounds_toArray, List.set_cons_zero, List.set_cons_succ]
          refine wpAnyH_take (i := 2) (oi := ⟨some 139, _, _, _, _, _⟩) (v := .agg #[.int .i64 2, .int .i64 0, .int .i64 0, .string ⟨#[]⟩, .slice none 0 0, .slice none 0 0, .string ⟨#[98]⟩, .slice none 0 0]) rfl (by kernel_rfl) (by kernel_rfl) (by kernel_rfl) (fun _ _ _ h => h) (Or.inl ⟨by kernel_rfl, ?_⟩) (by assumption) ?_
          · intro W hSw; obtain ⟨c8, f8, l8⟩ := (HBB.out.keep (HB.out.trans (hSw.mono HB.out.size))).rules; go_simp
          try simp only [Act.put, List.setIfInBounds_toArray, List.set_cons_zero, List.set_cons_succ]
          refine wpAnyH_take (i := 5) (oi := ⟨some 142, _, _, _, _, _⟩) (v := .agg #[.int .i64 2, .int .i64 0, .int .i64 0, .string ⟨#[]⟩, .slice none 0 0, .slice none 0 0, .string ⟨#[97]⟩, .slice none 0 0]) rfl (by kernel_rfl) (by kernel_rfl) (by kernel_rfl) (fun _ _ _ h => h) (Or.inl ⟨by kernel_rfl, ?_⟩) (by assumption) ?_
          · intro W hSw; obtain ⟨c8, f8, l8⟩ := (HBA.out.keep (HB.out.trans (hSw.mono HB.out.size))).rules; go_simp
          try simp only [Act.put, List.setIfInBounds_toArray, List.set_cons_zero, List.set_cons_succ]
          refine wpAnyH_take (i := 6) (oi := ⟨some 143, _, _, _, _, _⟩) (v := .agg #[.int .i64 2, .int .i64 0, .int .i64 0, .string ⟨#[]⟩, .slice none 0 0, .slice none 0 0, .string ⟨#[98]⟩, .slice none 0 0]) rfl (by kernel_rfl) (by kernel_rfl) (by kernel_rfl) (fun _ _ _ h => h) (Or.inl ⟨by kernel_rfl, ?_⟩) (by assumption) ?_
          · intro W hSw; obtain ⟨c8, f8, l8⟩ := (HBB.out.keep (HB.out.trans (hSw.mono HB.out.size))).rules; go_simp
          try simp only [Act.put, List.setIfInBounds_toArray, List.set_cons_zero, List.set_cons_succ]
          refine wpAnyH_ready (rs := [3, 7]) (by kernel_rfl) (by simp) ?_
          refine AllReadyH.cons (o := ⟨some 140, _, _, _, _, _⟩) rfl (fun K hK => ?_) (AllReadyH.cons (o := ⟨some 144, _, _, _, _, _⟩) rfl (fun K hK => ?_) AllReadyH.nil)
          · go_simp
            refine hK.out _ _ (by exact bel_alc HS.out (Nat.le_refl _) _) (fun hHeld2 => ?_)
            clear hK K
            try simp only [Act.put, List.setIfInBounds_toArray, List.set_cons_zero, List.set_cons_succ]
            refine wpAnyH_worldM (fun z41 hW => ?_)
            have HS2 := Lib.hid (show Below wr.heap.size wr z41 by rw [hW]; exact bel_alc HS.out (Nat.le_refl _) _)
            have HP3_2 := Lib.hid (show Blk z41 z40.heap.size 28 #[.int .i64 2, .int .i64 0, .int .i64 0, .string ⟨#[]⟩, .slice none 0 0, .slice none 0 0, .string ⟨#[97]⟩, .slice none 0 0, .int .i64 2, .int .i64 0, .int .i64 0, .string ⟨#[]⟩, .slice none 0 0, .slice none 0 0, .string ⟨#[98]⟩, .slice none 0 0] by rw [hW]; exact Blk.new _ _ _)
            clear hW hHeld2 HS 
            have HS := HS2
            clear HS2
            have HP3 := HP3_2
            clear HP3_2
            have hHeld := HS.out
            refine wpAnyH_ready (rs := [4, 7]) (by kernel_rfl) (by simp) ?_
            refine AllReadyH.cons (o := ⟨some 141, _, _, _, _, _⟩) rfl (fun K hK => ?_) (AllReadyH.cons (o := ⟨some 144, _, _, _, _, _⟩) rfl (fun K hK => ?_) AllReadyH.nil)
            · go_simp
              refine (lOf25 12 _ 2 2 _).mono ?_
              rintro e z42 ⟨rfl, hb⟩
              have HS2 := Lib.hid (HS.out.trans (hb.mono HS.out.size))
              have HP3_2 := Lib.hid (HP3.out.keep hb)
              refine hK.out _ _ (by exact HS2.out) (fun hHeld2 => ?_)
              clear hK K hb hHeld2 HS HP3
              have HS := HS2
              clear HS2
              have HP3 := HP3_2
              clear HP3_2
              try simp only [Act.put, List.setIfInBounds_toArray, List.set_cons_zero, List.set_cons_succ]
              have hHeld := HS.out
              refine wpAnyH_ready (rs := [7]) (by kernel_rfl) (by simp) ?_
              refine AllReadyH.cons (o := ⟨some 144, _, _, _, _, _⟩) rfl (fun K hK => ?_) AllReadyH.nil
              go_simp
              refine hK.out _ _ (by exact bel_alc HS.out (Nat.le_refl _) _) (fun hHeld2 => ?_)
              clear hK K
              try simp only [Act.put, List.setIfInBounds_toArray, List.set_cons_zero, List.set_cons_succ]
              refine wpAnyH_worldM (fun z43 hW => ?_)
              have HS2 := Lib.hid (show Below wr.heap.size wr z43 by rw [hW]; exact bel_alc HS.out (Nat.le_refl _) _)
              have HP7_2 := Lib.hid (show Blk z43 z42.heap.size 28 #[.int .i64 2, .int .i64 0, .int .i64 0, .string ⟨#[]⟩, .slice none 0 0, .slice none 0 0, .string ⟨#[97]⟩, .slice none 0 0, .int .i64 2, .int .i64 0, .int .i64 0, .string ⟨#[]⟩, .slice none 0 0, .slice none 0 0, .string ⟨#[98]⟩, .slice none 0 0] by rw [hW]; exact Blk.new _ _ _)
              have HP3_2 := Lib.hid (show Blk z43 z40.heap.size 28 #[.int .i64 2, .int .i64 0, .int .i64 0, .string ⟨#[]⟩, .slice none 0 0, .slice none 0 0, .string ⟨#[97]⟩, .slice none 0 0, .int .i64 2, .int .i64 0, .int .i64 0, .string ⟨#[]⟩, .slice none 0 0, .slice none 0 0, .string ⟨#[98]⟩, .slice none 0 0] by rw [hW]; exact Blk.alloc HP3.out _)
              clear hW hHeld2 HS HP3
              have HS := HS2
              clear HS2
              have HP3 := HP3_2
              clear HP3_2
              have HP7 := HP7_2
              clear HP7_2
              have hHeld := HS.out
              refine wpAnyH_ready (rs := [8]) (by kernel_rfl) (by simp) ?_
              refine AllReadyH.cons (o := ⟨some 145, _, _, _, _, _⟩) rfl (fun K hK => ?_) AllReadyH.nil
              go_simp
              refine (lOf25 11 _ 2 2 _).mono ?_
              rintro e z44 ⟨rfl, hb⟩
              have HS2 := Lib.hid (HS.out.trans (hb.mono HS.out.size))
              have HP3_2 := Lib.hid (HP3.out.keep hb)
              have HP7_2 := Lib.hid (HP7.out.keep hb)
              refine hK.out _ _ (by exact HS2.out) (fun hHeld2 => ?_)
              clear hK K hb hHeld2 HS HP3 HP7
              have HS := HS2
              clear HS2
              have HP3 := HP3_2
              clear HP3_2
              have HP7 := HP7_2
              clear HP7_2
              try simp only [Act.put, List.setIfInBounds_toArray, List.set_cons_zero, List.set_cons_succ]
              have hHeld := HS.out
              refine wpAnyH_ready (rs := [9]) (by kernel_rfl) (by simp) ?_
              refine AllReadyH.cons (o := ⟨some 146, _, _, _, _, _⟩) rfl (fun K hK => ?_) AllReadyH.nil
              go_simp
              refine hK.out _ _ (by exact bel_alc HS.out (Nat.le_refl _) _) (fun hHeld2 => ?_)
              clear hK K
              try simp only [Act.put, List.setIfInBounds_toArray, List.set_cons_zero, List.set_cons_succ]
              refine wpAnyH_worldM (fun z45 hW => ?_)
              have HSa := Lib.hid (show Below wr.heap.size wr z45 by rw [hW]; exact bel_alc HS.out (Nat.le_refl _) _)
              have HPa := Lib.hid (show Blk z45 z40.heap.size 28 #[.int .i64 2, .int .i64 0, .int .i64 0, .string ⟨#[]⟩, .slice none 0 0, .slice none 0 0, .string ⟨#[97]⟩, .slice none 0 0, .int .i64 2, .int .i64 0, .int .i64 0, .string ⟨#[]⟩, .slice none 0 0, .slice none 0 0, .string ⟨#[98]⟩, .slice none 0 0] ∧ Blk z45 z42.heap.size 28 #[.int .i64 2, .int .i64 0, .int .i64 0, .string ⟨#[]⟩, .slice none 0 0, .slice none 0 0, .string ⟨#[97]⟩, .slice none 0 0, .int .i64 2, .int .i64 0, .int .i64 0, .string ⟨#[]⟩, .slice none 0 0, .slice none 0 0, .string ⟨#[98]⟩, .slice none 0 0] ∧ Blk z45 z44.heap.size 28 #[.int .i64 12, .int .i64 0, .int .i64 0, .string ⟨#[]⟩, .slice none 0 0, .slice none 0 0, .string ⟨#[]⟩, .slice (some ⟨z40.heap.size, 0, none⟩) 2 2, .int .i64 11, .int .i64 0, .int .i64 0, .string ⟨#[]⟩, .slice none 0 0, .slice none 0 0, .string ⟨#[]⟩, .slice (some ⟨z42.heap.size, 0, none⟩) 2 2] by rw [hW]; exact ⟨Blk.alloc HP3.out _, Blk.alloc HP7.out _, Blk.new _ _ _⟩)
              clear hW hHeld2 HS HP3 HP7
              have hHeld := HSa.out
              refine wpAnyH_ready (rs := [10]) (by kernel_rfl) (by simp) ?_
              refine AllReadyH.cons (o := ⟨some 147, _, _, _, _, _⟩) rfl (fun K hK => ?_) AllReadyH.nil
              go_simp
              refine (lOf25 14 _ 2 2 _).mono ?_
              rintro e z46 ⟨rfl, hb⟩
              have HSb := Lib.hid (HSa.out.trans (hb.mono HSa.out.size))
              have HPb := Lib.hid (And.intro (HPa.out.1.keep hb) (And.intro (HPa.out.2.1.keep hb) (HPa.out.2.2.keep hb)))
              refine hK.out _ _ (by exact HSb.out) (fun hHeld2 => ?_)
              clear hK K hb hHeld2 HSa HPa
              try simp only [Act.put, List.setIfInBounds_toArray, List.set_cons_zero, List.set_cons_succ]
              have hHeld := HSb.out
              have HQ := Lib.hid (HASK.out (xOf 14 [xAB 12, xAB 11]) [.int .i64 14, .int .i64 0, .int .i64 0, .string ⟨#[]⟩, .slice none 0 0, .slice none 0 0, .string ⟨#[]⟩, .slice (some ⟨z44.heap.size, 0, none⟩) 2 2] z46 (HB.out.trans (HSb.out.mono HB.out.size)) (er_two 14 (er_two 12 (er_name aT) (er_name bT) HPb.out.1) (er_two 11 (er_name aT) (er_name bT) HPb.out.2.1) HPb.out.2.2) (cam_of (by unfold iw; omega) (by simp) (cam_two (cam_of (by unfold iw; omega) (by simp) (cam_two (cam_name (by decide)) (cam_name (by decide)))) (cam_of (by unfold iw; omega) (by simp) (cam_two (cam_name (by decide)) (cam_name (by decide)))))) (sml_of (by simp) (sml_two (sml_of (by simp) (sml_two sml_leaf sml_leaf)) (sml_of (by simp) (sml_two sml_leaf sml_leaf)))))
              rw [HAND.out] at HQ
              refine wpAnyH_ready (rs := [11]) (by kernel_rfl) (by simp) ?_
              refine AllReadyH.cons (o := ⟨some 148, _, _, _, _, _⟩) rfl (fun K hK => ?_) AllReadyH.nil
              go_simp
              refine HQ.out.mono ?_
              intro e z47 h
              obtain ⟨rfl, hb⟩ := h.some_
              have HSc := Lib.hid (HSb.out.trans (hb.mono HSb.out.size))
              refine hK.out _ _ (by exact HSc.out) (fun hHeld2 => ?_)
              clear hK K hb hHeld2 HSb HPb HQ h
              try simp only [Act.put, List.setIfInBounds_toArray, List.set_cons_zero, List.set_cons_succ]
              have hHeld := HSc.out
              refine wpAnyH_take (i := 12) (oi := ⟨some 136, _, _, _, _, _⟩) (v := .tuple #[.bool (l && i), .bool true]) rfl (by kernel_rfl) (by kernel_rfl) (by kernel_rfl) (fun _ _ _ h => h) (Or.inl ⟨by kernel_rfl, ?_⟩) (by assumption) ?_
              · intro W hSw; go_simp
              try simp only [Act.put, List.setIfInBounds_toArray, List.set_cons_zero, List.set_cons_succ]
              refine wpAnyH_take (i := 13) (oi := ⟨some 149, _, _, _, _, _⟩) (v := .bool (l && i)) rfl (by kernel_rfl) (by kernel_rfl) (by kernel_rfl) (fun _ _ _ h => h) (Or.inl ⟨by kernel_rfl, ?_⟩) (by assumption) ?_
              · intro W hSw; go_simp
              try simp only [Act.put, List.setIfInBounds_toArray, List.set_cons_zero, List.set_cons_succ]
              refine wpAnyH_take (i := 14) (oi := ⟨some 150, _, _, _, _, _⟩) (v := .bool true) rfl (by kernel_rfl) (by kernel_rfl) (by kernel_rfl) (fun _ _ _ h => h) (Or.inl ⟨by kernel_rfl, ?_⟩) (by assumption) ?_
              · intro W hSw; go_simp
              try simp only [Act.put, List.setIfInBounds_toArray, List.set_cons_zero, List.set_cons_succ]
              refine wpAnyH_take (i := 15) (oi := ⟨some 25, _, _, _, _, _⟩) (v := .bool (l && i)) rfl (by kernel_rfl) (by kernel_rfl) (by kernel_rfl) (fun _ _ _ h => h) (Or.inl ⟨by kernel_rfl, ?_⟩) (by assumption) ?_
              · intro W hSw; go_simp
              try simp only [Act.put, List.setIfInBounds_toArray, List.set_cons_zero, List.set_cons_succ]
              refine wpAnyH_take (i := 16) (oi := ⟨some 26, _, _, _, _, _⟩) (v := .bool true) rfl (by kernel_rfl) (by kernel_rfl) (by kernel_rfl) (fun _ _ _ h => h) (Or.inl ⟨by kernel_rfl, ?_⟩) (by assumption) ?_
              · intro W hSw; go_simp
              try simp only [Act.put, List.setIfInBounds_toArray, List.set_cons_zero, List.set_cons_succ]
              refine wpAnyH_done (by kernel_rfl) ?_ _
              have HF := Lib.hid (HB.out.trans (HSc.out.mono HB.out.size))
              go_wp2
              go_meet
              case rel => exact ⟨rfl, rfl, _, rfl, HF⟩
            · go_simp
              refine hK.out _ _ (by exact bel_alc HS.out (Nat.le_refl _) _) (fun hHeld2 => ?_)
              clear hK K
              try simp only [Act.put, List.setIfInBounds_toArray, List.set_cons_zero, List.set_cons_succ]
              refine wpAnyH_worldM (fun z48 hW => ?_)
              have HS2 := Lib.hid (show Below wr.heap.size wr z48 by rw [hW]; exact bel_alc HS.out (Nat.le_refl _) _)
              have HP7_2 := Lib.hid (show Blk z48 z41.heap.size 28 #[.int .i64 2, .int .i64 0, .int .i64 0, .string ⟨#[]⟩, .slice none 0 0, .slice none 0 0, .string ⟨#[97]⟩, .slice none 0 0, .int .i64 2, .int .i64 0, .int .i64 0, .string ⟨#[]⟩, .slice none 0 0, .slice none 0 0, .string ⟨#[98]⟩, .slice none 0 0] by rw [hW]; exact Blk.new _ _ _)
              have HP3_2 := Lib.hid (show Blk z48 z40.heap.size 28 #[.int .i64 2, .int .i64 0, .int .i64 0, .string ⟨#[]⟩, .slice none 0 0, .slice none 0 0, .string ⟨#[97]⟩, .slice none 0 0, .int .i64 2, .int .i64 0, .int .i64 0, .string ⟨#[]⟩, .slice none 0 0, .slice none 0 0, .string ⟨#[98]⟩, .slice none 0 0] by rw [hW]; exact Blk.alloc HP3.out _)
              clear hW hHeld2 HS HP3
              have HS := HS2
              clear HS2
              have HP3 := HP3_2
              clear HP3_2
              have HP7 := HP7_2
              clear HP7_2
              have hHeld := HS.out
              refine wpAnyH_ready (rs := [4]) (by kernel_rfl) (by simp) ?_
              refine AllReadyH.cons (o := ⟨some 141, _, _, _, _, _⟩) rfl (fun K hK => ?_) AllReadyH.nil
              go_simp
              refine (lOf25 12 _ 2 2 _).mono ?_
              rintro e z49 ⟨rfl, hb⟩
              have HS2 := Lib.hid (HS.out.trans (hb.mono HS.out.size))
              have HP3_2 := Lib.hid (HP3.out.keep hb)
              have HP7_2 := Lib.hid (HP7.out.keep hb)
              refine hK.out _ _ (by exact HS2.out) (fun hHeld2 => ?_)
              clear hK K hb hHeld2 HS HP3 HP7
              have HS := HS2
              clear HS2
              have HP3 := HP3_2
              clear HP3_2
              have HP7 := HP7_2
              clear HP7_2
              try simp only [Act.put, List.setIfInBounds_toArray, List.set_cons_zero, List.set_cons_succ]
              have hHeld := HS.out
              refine wpAnyH_ready (rs := [8]) (by kernel_rfl) (by simp) ?_
              refine AllReadyH.cons (o := ⟨some 145, _, _, _, _, _⟩) rfl (fun K hK => ?_) AllReadyH.nil
              go_simp
              refine (lOf25 11 _ 2 2 _).mono ?_
              rintro e z50 ⟨rfl, hb⟩
              have HS2 := Lib.hid (HS.out.trans (hb.mono HS.out.size))
              have HP3_2 := Lib.hid (HP3.out.keep hb)
              have HP7_2 := Lib.hid (HP7.out.keep hb)
              refine hK.out _ _ (by exact HS2.out) (fun hHeld2 => ?_)
              clear hK K hb hHeld2 HS HP3 HP7
              have HS := HS2
              clear HS2
              have HP3 := HP3_2
              clear HP3_2
              have HP7 := HP7_2
              clear HP7_2
              try simp only [Act.put, List.setIfInBounds_toArray, List.set_cons_zero, List.set_cons_succ]
              have hHeld := HS.out
              refine wpAnyH_ready (rs := [9]) (by kernel_rfl) (by simp) ?_
              refine AllReadyH.cons (o := ⟨some 146, _, _, _, _, _⟩) rfl (fun K hK => ?_) AllReadyH.nil
              go_simp
              refine hK.out _ _ (by exact bel_alc HS.out (Nat.le_refl _) _) (fun hHeld2 => ?_)
              clear hK K
              try simp only [Act.put, List.setIfInBounds_toArray, List.set_cons_zero, List.set_cons_succ]
              refine wpAnyH_worldM (fun z51 hW => ?_)
              have HSa := Lib.hid (show Below wr.heap.size wr z51 by rw [hW]; exact bel_alc HS.out (Nat.le_refl _) _)
              have HPa := Lib.hid (show Blk z51 z40.heap.size 28 #[.int .i64 2, .int .i64 0, .int .i64 0, .string ⟨#[]⟩, .slice none 0 0, .slice none 0 0, .string ⟨#[97]⟩, .slice none 0 0, .int .i64 2, .int .i64 0, .int .i64 0, .string ⟨#[]⟩, .slice none 0 0, .slice none 0 0, .string ⟨#[98]⟩, .slice none 0 0] ∧ Blk z51 z41.heap.size 28 #[.int .i64 2, .int .i64 0, .int .i64 0, .string ⟨#[]⟩, .slice none 0 0, .slice none 0 0, .string ⟨#[97]⟩, .slice none 0 0, .int .i64 2, .int .i64 0, .int .i64 0, .string ⟨#[]⟩, .slice none 0 0, .slice none 0 0, .string ⟨#[98]⟩, .slice none 0 0] ∧ Blk z51 z50.heap.size 28 #[.int .i64 12, .int .i64 0, .int .i64 0, .string ⟨#[]⟩, .slice none 0 0, .slice none 0 0, .string ⟨#[]⟩, .slice (some ⟨z40.heap.size, 0, none⟩) 2 2, .int .i64 11, .int .i64 0, .int .i64 0, .string ⟨#[]⟩, .slice none 0 0, .slice none 0 0, .string ⟨#[]⟩, .slice (some ⟨z41.heap.size, 0, none⟩) 2 2] by rw [hW]; exact ⟨Blk.alloc HP3.out _, Blk.alloc HP7.out _, Blk.new _ _ _⟩)
              clear hW hHeld2 HS HP3 HP7
              have hHeld := HSa.out
              refine wpAnyH_ready (rs := [10]) (by kernel_rfl) (by simp) ?_
              refine AllReadyH.cons (o := ⟨some 147, _, _, _, _, _⟩) rfl (fun K hK => ?_) AllReadyH.nil
              go_simp
              refine (lOf25 14 _ 2 2 _).mono ?_
              rintro e z52 ⟨rfl, hb⟩
              have HSb := Lib.hid (HSa.out.trans (hb.mono HSa.out.size))
              have HPb := Lib.hid (And.intro (HPa.out.1.keep hb) (And.intro (HPa.out.2.1.keep hb) (HPa.out.2.2.keep hb)))
              refine hK.out _ _ (by exact HSb.out) (fun hHeld2 => ?_)
              clear hK K hb hHeld2 HSa HPa
              try simp only [Act.put, List.setIfInBounds_toArray, List.set_cons_zero, List.set_cons_succ]
              have hHeld := HSb.out
              have HQ := Lib.hid (HASK.out (xOf 14 [xAB 12, xAB 11]) [.int .i64 14, .int .i64 0, .int .i64 0, .string ⟨#[]⟩, .slice none 0 0, .slice none 0 0, .string ⟨#[]⟩, .slice (some ⟨z50.heap.size, 0, none⟩) 2 2] z52 (HB.out.trans (HSb.out.mono HB.out.size)) (er_two 14 (er_two 12 (er_name aT) (er_name bT) HPb.out.1) (er_two 11 (er_name aT) (er_name bT) HPb.out.2.1) HPb.out.2.2) (cam_of (by unfold iw; omega) (by simp) (cam_two (cam_of (by unfold iw; omega) (by simp) (cam_two (cam_name (by decide)) (cam_name (by decide)))) (cam_of (by unfold iw; omega) (by simp) (cam_two (cam_name (by decide)) (cam_name (by decide)))))) (sml_of (by simp) (sml_two (sml_of (by simp) (sml_two sml_leaf sml_leaf)) (sml_of (by simp) (sml_two sml_leaf sml_leaf)))))
              rw [HAND.out] at HQ
              refine wpAnyH_ready (rs := [11]) (by kernel_rfl) (by simp) ?_
              refine AllReadyH.cons (o := ⟨some 148, _, _, _, _, _⟩) rfl (fun K hK => ?_) AllReadyH.nil
              go_simp
              refine HQ.out.mono ?_
              intro e z53 h
              obtain ⟨rfl, hb⟩ := h.some_
              have HSc := Lib.hid (HSb.out.trans (hb.mono HSb.out.size))
              refine hK.out _ _ (by exact HSc.out) (fun hHeld2 => ?_)
              clear hK K hb hHeld2 HSb HPb HQ h
              try simp only [Act.put, List.setIfInBounds_toArray, List.set_cons_zero, List.set_cons_succ]
              have hHeld := HSc.out
              refine wpAnyH_take (i := 12) (oi := ⟨some 136, _, _, _, _, _⟩) (v := .tuple #[.bool (l && i), .bool true]) rfl (by kernel_rfl) (by kernel_rfl) (by kernel_rfl) (fun _ _ _ h => h) (Or.inl ⟨by kernel_rfl, ?_⟩) (by assumption) ?_
              · intro W hSw; go_simp
              try simp only [Act.put, List.setIfInBounds_toArray, List.set_cons_zero, List.set_cons_succ]
              refine wpAnyH_take (i := 13) (oi := ⟨some 149, _, _, _, _, _⟩) (v := .bool (l && i)) rfl (by kernel_rfl) (by kernel_rfl) (by kernel_rfl) (fun _ _ _ h => h) (Or.inl ⟨by kernel_rfl, ?_⟩) (by assumption) ?_
              · intro W hSw; go_simp
              try simp only [Act.put, List.setIfInBounds_toArray, List.set_cons_zero, List.set_cons_succ]
              refine wpAnyH_take (i := 14) (oi := ⟨some 150, _, _, _, _, _⟩) (v := .bool true) rfl (by kernel_rfl) (by kernel_rfl) (by kernel_rfl) (fun _ _ _ h => h) (Or.inl ⟨by kernel_rfl, ?_⟩) (by assumption) ?_
              · intro W hSw; go_simp
              try simp only [Act.put, List.setIfInBounds_toArray, List.set_cons_zero, List.set_cons_succ]
              refine wpAnyH_take (i := 15) (oi := ⟨some 25, _, _, _, _, _⟩) (v := .bool (l && i)) rfl (by kernel_rfl) (by kernel_rfl) (by kernel_rfl) (fun _ _ _ h => h) (Or.inl ⟨by kernel_rfl, ?_⟩) (by assumption) ?_
              · intro W hSw; go_simp
              try simp only [Act.put, List.setIfInBounds_toArray, List.set_cons_zero, List.set_cons_succ]
              refine wpAnyH_take (i := 16) (oi := ⟨some 26, _, _, _, _, _⟩) (v := .bool true) rfl (by kernel_rfl) (by kernel_rfl) (by kernel_rfl) (fun _ _ _ h => h) (Or.inl ⟨by kernel_rfl, ?_⟩) (by assumption) ?_
              · intro W hSw; go_simp
              try simp only [Act.put, List.setIfInBounds_toArray, List.set_cons_zero, List.set_cons_succ]
              refine wpAnyH_done (by kernel_rfl) ?_ _
              have HF := Lib.hid (HB.out.trans (HSc.out.mono HB.out.size))
              go_wp2
              go_meet
              case rel => exact ⟨rfl, rfl, _, rfl, HF⟩
          · go_simp
            refine hK.out _ _ (by exact bel_alc HS.out (Nat.le_refl _) _) (fun hHeld2 => ?_)
            clear hK K
            try simp only [Act.put, List.setIfInBounds_toArray, List.set_cons_zero, List.set_cons_succ]
            refine wpAnyH_worldM (fun z54 hW => ?_)
            have HS2 := Lib.hid (show Below wr.heap.size wr z54 by rw [hW]; exact bel_alc HS.out (Nat.le_refl _) _)
            have HP7_2 := Lib.hid (show Blk z54 z40.heap.size 28 #[.int .i64 2, .int .i64 0, .int .i64 0, .string ⟨#[]⟩, .slice none 0 0, .slice none 0 0, .string ⟨#[97]⟩, .slice none 0 0, .int .i64 2, .int .i64 0, .int .i64 0, .string ⟨#[]⟩, .slice none 0 0, .slice none 0 0, .string ⟨#[98]⟩, .slice none 0 0] by rw [hW]; exact Blk.new _ _ _)
            clear hW hHeld2 HS 
            have HS := HS2
            clear HS2
            have HP7 := HP7_2
            clear HP7_2
            have hHeld := HS.out
            refine wpAnyH_ready (rs := [3]) (by kernel_rfl) (by simp) ?_
            refine AllReadyH.cons (o := ⟨some 140, _, _, _, _, _⟩) rfl (fun K hK => ?_) AllReadyH.nil
            go_simp
            refine hK.out _ _ (by exact bel_alc HS.out (Nat.le_refl _) _) (fun hHeld2 => ?_)
            clear hK K
            try simp only [Act.put, List.setIfInBounds_toArray, List.set_cons_zero, List.set_cons_succ]
            refine wpAnyH_worldM (fun z55 hW => ?_)
            have HS2 := Lib.hid (show Below wr.heap.size wr z55 by rw [hW]; exact bel_alc HS.out (Nat.le_refl _) _)
            have HP3_2 := Lib.hid (show Blk z55 z54.heap.size 28 #[.int .i64 2, .int .i64 0, .int .i64 0, .string ⟨#[]⟩, .slice none 0 0, .slice none 0 0, .string ⟨#[97]⟩, .slice none 0 0, .int .i64 2, .int .i64 0, .int .i64 0, .string ⟨#[]⟩, .slice none 0 0, .slice none 0 0, .string ⟨#[98]⟩, .slice none 0 0] by rw [hW]; exact Blk.new _ _ _)
            have HP7_2 := Lib.hid (show Blk z55 z40.heap.size 28 #[.int .i64 2, .int .i64 0, .int .i64 0, .string ⟨#[]⟩, .slice none 0 0, .slice none 0 0, .string ⟨#[97]⟩, .slice none 0 0, .int .i64 2, .int .i64 0, .int .i64 0, .string ⟨#[]⟩, .slice none 0 0, .slice none 0 0, .string ⟨#[98]⟩, .slice none 0 0] by rw [hW]; exact Blk.alloc HP7.out _)
            clear hW hHeld2 HS HP7
            have HS := HS2
            clear HS2
            have HP7 := HP7_2
            clear HP7_2
            have HP3 := HP3_2
            clear HP3_2
            have hHeld := HS.out
            refine wpAnyH_ready (rs := [4]) (by kernel_rfl) (by simp) ?_
            refine AllReadyH.cons (o := ⟨some 141, _, _, _, _, _⟩) rfl (fun K hK => ?_) AllReadyH.nil
            go_simp
            refine (lOf25 12 _ 2 2 _).mono ?_
            rintro e z56 ⟨rfl, hb⟩
            have HS2 := Lib.hid (HS.out.trans (hb.mono HS.out.size))
            have HP7_2 := Lib.hid (HP7.out.keep hb)
            have HP3_2 := Lib.hid (HP3.out.keep hb)
            refine hK.out _ _ (by exact HS2.out) (fun hHeld2 => ?_)
            clear hK K hb hHeld2 HS HP7 HP3
            have HS := HS2
            clear HS2
            have HP7 := HP7_2
            clear HP7_2
            have HP3 := HP3_2
            clear HP3_2
            try simp only [Act.put, List.setIfInBounds_toArray, List.set_cons_zero, List.set_cons_succ]
            have hHeld := HS.out
            refine wpAnyH_ready (rs := [8]) (by kernel_rfl) (by simp) ?_
            refine AllReadyH.cons (o := ⟨some 145, _, _, _, _, _⟩) rfl (fun K hK => ?_) AllReadyH.nil
            go_simp
            refine (lOf25 11 _ 2 2 _).mono ?_
            rintro e z57 ⟨rfl, hb⟩
            have HS2 := Lib.hid (HS.out.trans (hb.mono HS.out.size))
            have HP7_2 := Lib.hid (HP7.out.keep hb)
            have HP3_2 := Lib.hid (HP3.out.keep hb)
            refine hK.out _ _ (by exact HS2.out) (fun hHeld2 => ?_)
            clear hK K hb hHeld2 HS HP7 HP3
            have HS := HS2
            clear HS2
            have HP7 := HP7_2
            clear HP7_2
            have HP3 := HP3_2
            clear HP3_2
            try simp only [Act.put, List.setIfInBounds_toArray, List.set_cons_zero, List.set_cons_succ]
            have hHeld := HS.out
            refine wpAnyH_ready (rs := [9]) (by kernel_rfl) (by simp) ?_
            refine AllReadyH.cons (o := ⟨some 146, _, _, _, _, _⟩) rfl (fun K hK => ?_) AllReadyH.nil
            go_simp
            refine hK.out _ _ (by exact bel_alc HS.out (Nat.le_refl _) _) (fun hHeld2 => ?_)
            clear hK K
            try simp only [Act.put, List.setIfInBounds_toArray, List.set_cons_zero, List.set_cons_succ]
            refine wpAnyH_worldM (fun z58 hW => ?_)
            have HSa := Lib.hid (show Below wr.heap.size wr z58 by rw [hW]; exact bel_alc HS.out (Nat.le_refl _) _)
            have HPa := Lib.hid (show Blk z58 z54.heap.size 28 #[.int .i64 2, .int .i64 0, .int .i64 0, .string ⟨#[]⟩, .slice none 0 0, .slice none 0 0, .string ⟨#[97]⟩, .slice none 0 0, .int .i64 2, .int .i64 0, .int .i64 0, .string ⟨#[]⟩, .slice none 0 0, .slice none 0 0, .string ⟨#[98]⟩, .slice none 0 0] ∧ Blk z58 z40.heap.size 28 #[.int .i64 2, .int .i64 0, .int .i64 0, .string ⟨#[]⟩, .slice none 0 0, .slice none 0 0, .string ⟨#[97]⟩, .slice none 0 0, .int .i64 2, .int .i64 0, .int .i64 0, .string ⟨#[]⟩, .slice none 0 0, .slice none 0 0, .string ⟨#[98]⟩, .slice none 0 0] ∧ Blk z58 z57.heap.size 28 #[.int .i64 12, .int .i64 0, .int .i64 0, .string ⟨#[]⟩, .slice none 0 0, .slice none 0 0, .string ⟨#[]⟩, .slice (some ⟨z54.heap.size, 0, none⟩) 2 2, .int .i64 11, .int .i64 0, .int .i64 0, .string ⟨#[]⟩, .slice none 0 0, .slice none 0 0, .string ⟨#[]⟩, .slice (some ⟨z40.heap.size, 0, none⟩) 2 2] by rw [hW]; exact ⟨Blk.alloc HP3.out _, Blk.alloc HP7.out _, Blk.new _ _ _⟩)
            clear hW hHeld2 HS HP3 HP7
            have hHeld := HSa.out
            refine wpAnyH_ready (rs := [10]) (by kernel_rfl) (by simp) ?_
            refine AllReadyH.cons (o := ⟨some 147, _, _, _, _, _⟩) rfl (fun K hK => ?_) AllReadyH.nil
            go_simp
            refine (lOf25 14 _ 2 2 _).mono ?_
            rintro e z59 ⟨rfl, hb⟩
            have HSb := Lib.hid (HSa.out.trans (hb.mono HSa.out.size))
            have HPb := Lib.hid (And.intro (HPa.out.1.keep hb) (And.intro (HPa.out.2.1.keep hb) (HPa.out.2.2.keep hb)))
            refine hK.out _ _ (by exact HSb.out) (fun hHeld2 => ?_)
            clear hK K hb hHeld2 HSa HPa
            try simp only [Act.put, List.setIfInBounds_toArray, List.set_cons_zero, List.set_cons_succ]
            have hHeld := HSb.out
            have HQ := Lib.hid (HASK.out (xOf 14 [xAB 12, xAB 11]) [.int .i64 14, .int .i64 0, .int .i64 0, .string ⟨#[]⟩, .slice none 0 0, .slice none 0 0, .string ⟨#[]⟩, .slice (some ⟨z57.heap.size, 0, none⟩) 2 2] z59 (HB.out.trans (HSb.out.mono HB.out.size)) (er_two 14 (er_two 12 (er_name aT) (er_name bT) HPb.out.1) (er_two 11 (er_name aT) (er_name bT) HPb.out.2.1) HPb.out.2.2) (cam_of (by unfold iw; omega) (by simp) (cam_two (cam_of (by unfold iw; omega) (by simp) (cam_two (cam_name (by decide)) (cam_name (by decide)))) (cam_of (by unfold iw; omega) (by simp) (cam_two (cam_name (by decide)) (cam_name (by decide)))))) (sml_of (by simp) (sml_two (sml_of (by simp) (sml_two sml_leaf sml_leaf)) (sml_of (by simp) (sml_two sml_leaf sml_leaf)))))
            rw [HAND.out] at HQ
            refine wpAnyH_ready (rs := [11]) (by kernel_rfl) (by simp) ?_
            refine AllReadyH.cons (o := ⟨some 148, _, _, _, _, _⟩) rfl (fun K hK => ?_) AllReadyH.nil
            go_simp
            refine HQ.out.mono ?_
            intro e z60 h
            obtain ⟨rfl, hb⟩ := h.some_
            have HSc := Lib.hid (HSb.out.trans (hb.mono HSb.out.size))
            refine hK.out _ _ (by exact HSc.out) (fun hHeld2 => ?_)
            clear hK K hb hHeld2 HSb HPb HQ h
            try simp only [Act.put, List.setIfInBounds_toArray, List.set_cons_zero, List.set_cons_succ]
            have hHeld := HSc.out
            refine wpAnyH_take (i := 12) (oi := ⟨some 136, _, _, _, _, _⟩) (v := .tuple #[.bool (l && i), .bool true]) rfl (by kernel_rfl) (by kernel_rfl) (by kernel_rfl) (fun _ _ _ h => h) (Or.inl ⟨by kernel_rfl, ?_⟩) (by assumption) ?_
            · intro W hSw; go_simp
            try simp only [Act.put, List.setIfInBounds_toArray, List.set_cons_zero, List.set_cons_succ]
            refine wpAnyH_take (i := 13) (oi := ⟨some 149, _, _, _, _, _⟩) (v := .bool (l && i)) rfl (by kernel_rfl) (by kernel_rfl) (by kernel_rfl) (fun _ _ _ h => h) (Or.inl ⟨by kernel_rfl, ?_⟩) (by assumption) ?_
            · intro W hSw; go_simp
            try simp only [Act.put, List.setIfInBounds_toArray, List.set_cons_zero, List.set_cons_succ]
            refine wpAnyH_take (i := 14) (oi := ⟨some 150, _, _, _, _, _⟩) (v := .bool true) rfl (by kernel_rfl) (by kernel_rfl) (by kernel_rfl) (fun _ _ _ h => h) (Or.inl ⟨by kernel_rfl, ?_⟩) (by assumption) ?_
            · intro W hSw; go_simp
            try simp only [Act.put, List.setIfInBounds_toArray, List.set_cons_zero, List.set_cons_succ]
            refine wpAnyH_take (i := 15) (oi := ⟨some 25, _, _, _, _, _⟩) (v := .bool (l && i)) rfl (by kernel_rfl) (by kernel_rfl) (by kernel_rfl) (fun _ _ _ h => h) (Or.inl ⟨by kernel_rfl, ?_⟩) (by assumption) ?_
            · intro W hSw; go_simp
            try simp only [Act.put, List.setIfInBounds_toArray, List.set_cons_zero, List.set_cons_succ]
            refine wpAnyH_take (i := 16) (oi := ⟨some 26, _, _, _, _, _⟩) (v := .bool true) rfl (by kernel_rfl) (by kernel_rfl) (by kernel_rfl) (fun _ _ _ h => h) (Or.inl ⟨by kernel_rfl, ?_⟩) (by assumption) ?_
            · intro W hSw; go_simp
            try simp only [Act.put, List.setIfInBounds_toArray, List.set_cons_zero, List.set_cons_succ]
            refine wpAnyH_done (by kernel_rfl) ?_ _
            have HF := Lib.hid (HB.out.trans (HSc.out.mono HB.out.size))
            go_wp2
            go_meet
            case rel => exact ⟨rfl, rfl, _, rfl, HF⟩
        case rest =>
          obtain ⟨rfl, rfl, wq, rfl, HB2⟩ := hcut
          clear HB
          have HB := HB2
          clear HB2
          rcases H3.out with ⟨rfl, rfl, rfl, rfl⟩ | ⟨rfl, rfl, rfl, rfl⟩ | ⟨rfl, rfl, rfl, rfl⟩
          all_goals
            have HX := Lib.hid (HBE.out.trans (HB.out.mono HBE.out.size))
            go_wp2
            go_ret
            exact ⟨rfl, HX.out⟩
end Go.Proofs.YtgolomgmnanbpaaGreatDoor
