/- The walk of CollateStands. -/
import Derived.Test.YtbaogoiiekpgiaaDoorC7e
import Derived.Test.YtbaogoiiekpgiaaDoorC7d
namespace Go.Proofs.YtbaogoiiekpgiaaDoor
set_option linter.unusedVariables false
set_option linter.unusedSimpArgs false
open Go.RowKit
attribute [local go_sem] run_index_arr run_part_agg run_part_one run_field_agg

/-- in a sorted row: where a value stands, and how often it was there before -/
theorem stands_law {L S : List JV} {i : Nat} {v : JV} (hg : ∀ x ∈ L, gd x) (hS : rSortJ L = S) (hv : S[i]? = some v) : placeO S v = ((aheadJ S v : Int), (notJ S v : Int), 0) ∧ aheadJ S v ≤ i ∧ i < notJ S v ∧ notJ S v ≤ S.length ∧ notJ S v = aheadJ S v + L.countP (fun y => decide (cmpJ y v = 0)) := by
  subst hS
  have hp := rSortJ_perm hg
  have hgS : ∀ x ∈ rSortJ L, gd x := fun x hx => hg x (hp.subset hx)
  have hgv := hgS v (List.mem_of_getElem? hv)
  have hs := rSortJ_sorted hg
  obtain ⟨h1, h2⟩ := stands hgS hs hv
  refine ⟨?_, h1, h2, (ahead_le _ _).2, ?_⟩
  · rw [placeO_yes hgS hgv]
    unfold placeI
    rw [if_pos ((sorted_next hgS).1 hs)]
  · rw [counts hgS hgv, hp.countP_eq]
theorem cnt_succ {l : List JV} {i : Nat} {y : JV} (hy : l[i]? = some y) (v : JV) : (l.take (i + 1)).countP (fun y => decide (cmpJ y v = 0)) = (l.take i).countP (fun y => decide (cmpJ y v = 0)) + (if cmpJ y v = 0 then 1 else 0) := by
  rw [List.take_add_one, hy, List.countP_append]; simp [List.countP_cons]
set_option maxRecDepth 100000 in
set_option maxHeartbeats 8000000 in
theorem collateStands_any (a0 : Option Addr) (len0 cap0 : Nat) (xs0 : List JV) (w : World) (hG : GOK w) (hl0 : len0 = xs0.length) (hr0 : RowV w a0 cap0 xs0) (hi0 : inL xs0) (hb0 : bulkL xs0 ≤ 4194304) :
    Calls Tryd.prog 9 #[.slice a0 len0 cap0] w (BoolS true w) := by
  have hcm := came_row hi0 hb0
  have h9 : len0 ≤ 4194304 := by rw [hl0]; exact Nat.le_trans (bulkL_len xs0) hb0
  obtain ⟨L, hL⟩ : ∃ L, xs0.take 20 = L := ⟨_, rfl⟩
  obtain ⟨m, hm⟩ : ∃ m, L.length = m := ⟨_, rfl⟩
  have hm20 : m ≤ 20 := by rw [← hm, ← hL, List.length_take]; omega
  have HLX := Lib.hid hL
  have HM := Lib.hid hm
  have HL0 := Lib.hid hl0.symm
  have HCL := Lib.hid (show ∀ x ∈ L, Came x from fun x hx => hcm x (by rw [← hL] at hx; exact List.mem_of_mem_take hx))
  have HG := Lib.hid hG
  have HH0 := Lib.hid ((Hld.nil w).row hr0)
  clear hG hcm hl0 hr0 hi0 hb0 hL hm
  by_cases hg : ∀ x ∈ L, gd x
  case neg =>
    have HNG := Lib.hid hg
    clear hg
    go_enter Tryd.func9, Tryd.ntmps9
    go_wp2_with fail
    refine (wakes7_any _ (HG.out.keep (HH0.out).bel)).mono ?_
    rintro e w1 ⟨rfl, hb1⟩
    have HH1 := Lib.hid (HH0.out.keep hb1)
    clear hb1 HH0
    go_wp2_with fail
    refine (lSome_is (HH1.out).v0 HL0.out h9 HLX.out HM.out).mono ?_
    rintro e w2 ⟨Al, cl, rfl, hrl, hb2⟩
    have HH2 := Lib.hid ((HH1.out.keep hb2).row (hrl))
    clear hb2 HH1
    clear hrl
    go_wp2_with fail
    refine (cSort_no (HG.out.keep (HH2.out).bel) (HH2.out).v0 HM.out (by omega) HCL.out HNG.out).mono ?_
    rintro e w3 ⟨rfl, hb3⟩
    have HH3 := Lib.hid (HH2.out.keep hb3)
    clear hb3 HH2
    go_wp2
    go_ret
    exact ⟨rfl, HH3.out.bel⟩
  · have HGL := Lib.hid hg
    obtain ⟨S, hS⟩ : ∃ S, rSortJ L = S := ⟨_, rfl⟩
    have HST := Lib.hid (fun (i : Nat) (v : JV) (hv : S[i]? = some v) => stands_law hg hS hv)
    have HSX := Lib.hid hS
    have HSL := Lib.hid (show S.length = m by rw [← hS, (rSortJ_perm hg).length_eq, HM.out])
    have HSC := Lib.hid (show ∀ x ∈ S, gd x ∧ Came x from fun x hx => (by rw [← hS] at hx; exact ⟨hg x ((rSortJ_perm hg).subset hx), HCL.out x ((rSortJ_perm hg).subset hx)⟩))
    have HGC := Lib.hid (show ∀ x ∈ L, gd x ∧ Came x from fun x hx => ⟨hg x hx, HCL.out x hx⟩)
    clear hg hS
    go_enter Tryd.func9, Tryd.ntmps9
    go_wp2_with fail
    refine (wakes7_any _ (HG.out.keep (HH0.out).bel)).mono ?_
    rintro e w1 ⟨rfl, hb1⟩
    have HH1 := Lib.hid (HH0.out.keep hb1)
    clear hb1 HH0
    go_wp2_with fail
    refine (lSome_is (HH1.out).v0 HL0.out h9 HLX.out HM.out).mono ?_
    rintro e w2 ⟨Al, cl, rfl, hrl, hb2⟩
    have HH2 := Lib.hid ((HH1.out.keep hb2).row (hrl))
    clear hb2 HH1
    clear hrl
    go_wp2_with fail
    refine (cSort_yes (HG.out.keep (HH2.out).bel) (HH2.out).v0 HM.out (by omega) HCL.out HGL.out).mono ?_
    rintro e w3 ⟨gs, rfl, hrs, hb3⟩
    have HH3 := Lib.hid ((HH2.out.keep hb3).row (hrs))
    clear hb3 HH2
    clear hrs
    have HH9 : Hid (Hld [] [(fun W => RowV W (some ⟨gs, 0, none⟩) m S), (fun W => RowV W Al cl L)] w w3) := Lib.hid (Hld.row (Hld.row (show Hld [] [] w w3 from ⟨HH3.out.1, fun p hp => by cases hp⟩) (HH3.out).v1) (show RowV _ _ _ S by have h := (HH3.out).v0; rwa [HSX.out] at h))
    clear HH3
    go_wp2
    go_loopg [39] m (fun gk s39 wr => ∃ i : Nat, i ≤ m ∧ gk = m - i ∧ s39 = .int .i64 i ∧ Hid (Hld [] [(fun W => RowV W (some ⟨gs, 0, none⟩) m S), (fun W => RowV W Al cl L)] w wr))
    case atStart => exact ⟨0, Nat.zero_le _, rfl, by go_num, HH9⟩
    case round =>
      obtain ⟨i, hi, hgk, rfl, HB⟩ := hrel
      have HGK := Lib.hid hgk
      clear hgk
      by_cases hlt : i < m
      case neg =>
        obtain rfl : i = m := by omega
        go_wp2
        go_ret
        exact ⟨rfl, HB.out.bel⟩
      obtain ⟨v, hv⟩ : ∃ v, S[i]? = some v := ⟨_, List.getElem?_eq_getElem (by rw [HSL.out]; omega)⟩
      obtain ⟨css9, e1, e2, e3, e4⟩ := HB.out.v0
      obtain ⟨b, o, k1, n1, s1, A1, na1, ca1, B1, nb1, cb1, hAl, hb, hvv, hz⟩ := kid_cellsG e1 e4 hv
      obtain ⟨rfl, rfl⟩ : gs = b ∧ 0 = o := by simpa using hAl
      obtain ⟨q0, q1, q2, q3, q4⟩ := hz _ (Below.refl _ _)
      simp only [Nat.zero_add] at q0 q1 q2 q3 q4
      have HHA := Lib.hid ((HB.out.val hvv).push 28 #[.int .i64 k1, .int .i64 n1, .string s1, .slice A1 na1 ca1, .slice B1 nb1 cb1] (g := wr.heap.size) rfl)
      have hgv := HSC.out v (List.mem_of_getElem? hv)
      obtain ⟨hpl, hpi, hqi, hqm, hcnt⟩ := HST.out i v hv
      obtain ⟨P, hP⟩ : ∃ P, aheadJ S v = P := ⟨_, rfl⟩
      obtain ⟨Q, hQ⟩ : ∃ Q, notJ S v = Q := ⟨_, rfl⟩
      rw [hP, hQ] at hpl hcnt
      rw [hP] at hpi
      rw [hQ, HSL.out] at hqm
      rw [hQ] at hqi
      have HPL := Lib.hid hpl
      have HCN := Lib.hid hcnt
      have HGV := Lib.hid hgv
      have hpn : ¬ (i : Int) < (P : Int) := by omega
      have hqn : ¬ (Q : Int) ≤ (i : Int) := by omega
      have hpn2 : decide (i < P) = false := by simp; omega
      have hqn2 : decide (Q ≤ i) = false := by simp; omega
      have hpn3 : ¬ i < P := by omega
      have hqn3 : ¬ Q ≤ i := by omega
      clear e1 e2 e3 e4 hz hvv hv hgv hP hQ hpl hcnt hAl
      obtain ⟨wo, rfl⟩ : ∃ wo : World, wo = wr := ⟨_, rfl⟩
      obtain ⟨hc0, hf0, hl0⟩ := HHA.out.b0.rules
      go_wp2_with fail
      refine (cPlace_is (HG.out.keep HHA.out.bel) HHA.out.v1 HSL.out (by omega) (fun x hx => (HSC.out x hx).2) HHA.out.v0 HGV.out.2 HPL.out).mono ?_
      rintro e w41 ⟨rfl, hb41⟩
      have HH41 := Lib.hid (HHA.out.keep hb41)
      clear hc0 hf0 hl0
      clear hb41 HHA
      have HHB : Hid (Hld [(wo.heap.size, 28, #[.int .i64 k1, .int .i64 n1, .string s1, .slice A1 na1 ca1, .slice B1 nb1 cb1])] [(fun W => VR W TT [.int .i64 k1, .int .i64 n1, .string s1, .slice A1 na1 ca1, .slice B1 nb1 cb1] v), (fun W => RowV W (some ⟨gs, 0, none⟩) m S), (fun W => RowV W Al cl L)] w w41) := HH41
      clear HH41
      go_wp2
      go_loopg [11, 65] m (fun gk s11 s65 w8 => ∃ j n : Nat, j ≤ m ∧ n ≤ j ∧ gk = m - j ∧ s11 = .int .i64 n ∧ s65 = .int .i64 j ∧ Hid ((L.take j).countP (fun y => decide (cmpJ y v = 0)) = n) ∧ Hid (Hld [(wo.heap.size, 28, #[.int .i64 k1, .int .i64 n1, .string s1, .slice A1 na1 ca1, .slice B1 nb1 cb1])] [(fun W => VR W TT [.int .i64 k1, .int .i64 n1, .string s1, .slice A1 na1 ca1, .slice B1 nb1 cb1] v), (fun W => RowV W (some ⟨gs, 0, none⟩) m S), (fun W => RowV W Al cl L)] w w8))
      case atStart => exact ⟨0, 0, Nat.zero_le _, Nat.le_refl _, rfl, by go_num, by go_num, Lib.hid (by simp), HHB⟩
      case round =>
        obtain ⟨j, n, hj, hnj, hgk, rfl, rfl, HQ, HC⟩ := hrel
        have HGK2 := Lib.hid hgk
        clear hgk
        obtain ⟨hd0, hd1, hd2⟩ := HC.out.b0.rules
        by_cases hlt2 : j < m
        case neg =>
          obtain rfl : j = m := by omega
          have hqp : Q = P + n := by
            rw [HCN.out]
            have h := HQ.out
            rw [List.take_of_length_le (Nat.le_of_eq HM.out)] at h
            rw [h]
          subst hqp
          have hsub : ((P + n : Nat) : Int) - (P : Int) = (n : Int) := by omega
          have hw1 : IntKind.i64.wrap (((P + n : Nat) : Int) - (P : Int)) = (n : Int) := by rw [hsub, IntKind.wrap_i64]; omega
          have HHD := Lib.hid (HC.out.pop.popv)
          clear hd0 hd1 hd2
          go_wp2
          go_roundg (j - (i + 1))
          case measure => rw [HGK.out]; omega
          case rel => exact ⟨i + 1, hlt, rfl, by go_num, HHD⟩
        obtain ⟨y, hy⟩ : ∃ y, L[j]? = some y := ⟨_, List.getElem?_eq_getElem (by rw [HM.out]; omega)⟩
        obtain ⟨css8, e1, e2, e3, e4⟩ := HC.out.v2
        obtain ⟨b, o, k2, n2, s2, A2, na2, ca2, B2, nb2, cb2, hAl, hb2, hvy, hz⟩ := kid_cellsG e1 e4 hy
        subst hAl
        obtain ⟨q0, q1, q2, q3, q4⟩ := hz _ (Below.refl _ _)
        have HHE := Lib.hid ((HC.out.val hvy).push 28 #[.int .i64 k2, .int .i64 n2, .string s2, .slice A2 na2 ca2, .slice B2 nb2 cb2] (g := wr.heap.size) rfl)
        have hgy := HGC.out y (List.mem_of_getElem? hy)
        have hcs := cnt_succ hy v
        obtain ⟨bb, hbb⟩ : ∃ bb : Bool, decide (cmpJ y v = 0) = bb := ⟨_, rfl⟩
        have HSM := Lib.hid (fun (W : World) (csx csy : List Value) (h : Below w.heap.size w W) (hx : VR W TT csx v) (hv : VR W TT csy y) => show Calls Tryd.prog 36 #[.agg csx.toArray, .agg csy.toArray] W (BoolS bb W) from
          (vSameG v y csx csy TT TT W (HG.out.keep h) hx hv HGV.out.2 hgy.2).mono fun e w' ⟨tt, h1, h2, h3⟩ => ⟨by rw [h1]; congr 2; rw [Bool.eq_iff_iff, h2, ← hbb, decide_eq_true_eq]; exact ⟨fun h => by rw [h.2.2]; exact cmpJ_self y, fun h => ⟨HGV.out.1, hgy.1, (cmpJ_eq hgy.1.j HGV.out.1.j h).symm⟩⟩, h3⟩)
        have HBB := Lib.hid hbb
        have HCS := Lib.hid hcs
        clear e1 e2 e3 e4 hz hvy hy hgy hcs hbb hd0 hd1 hd2
        obtain ⟨hd0, hd1, hd2⟩ := HHE.out.b1.rules
        go_wp2_with fail
        refine (HSM.out _ _ _ HHE.out.bel HHE.out.v1 HHE.out.v0).mono ?_
        rintro e w31 ⟨rfl, hb31⟩
        have HHF := Lib.hid ((HHE.out.keep hb31).pop.popv)
        clear hb31 hd0 hd1 hd2 HHE HSM
        cases bb with
        | true =>
          have hc1 := HCS.out
          rw [if_pos (of_decide_eq_true HBB.out), HQ.out] at hc1
          have HC1 := Lib.hid hc1
          clear hc1
          go_wp2
          go_roundg (m - (j + 1))
          case measure => rw [HGK2.out]; omega
          case rel => exact ⟨j + 1, n + 1, by omega, by omega, rfl, by go_num, by go_num, HC1, HHF⟩
        | false =>
          have hc1 := HCS.out
          rw [if_neg (of_decide_eq_false HBB.out), HQ.out] at hc1
          have HC1 := Lib.hid hc1
          clear hc1
          go_wp2
          go_roundg (m - (j + 1))
          case measure => rw [HGK2.out]; omega
          case rel => exact ⟨j + 1, n, by omega, by omega, rfl, by go_num, by go_num, HC1, HHF⟩
end Go.Proofs.YtbaogoiiekpgiaaDoor
