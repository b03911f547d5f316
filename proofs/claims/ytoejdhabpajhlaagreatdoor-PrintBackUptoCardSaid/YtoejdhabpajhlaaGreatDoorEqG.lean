/- The walks of package value: slices.EqualFunc, equal, Same, of any two values. -/
import Derived.Test.YtoejdhabpajhlaaGreatDoorOneG
import Derived.Test.YtoejdhabpajhlaaGreatDoorMeasG
import Derived.Test.YtoejdhabpajhlaaGreatDoorEq18
namespace Go.Proofs.YtoejdhabpajhlaaGreatDoor
set_option linter.unusedVariables false
set_option linter.unusedSimpArgs false
open Go.RowKit Go.Shelf
attribute [local go_sem] run_index_arr run_part_agg run_part_one run_field_agg

set_option maxRecDepth 100000 in
set_option maxHeartbeats 4000000 in
theorem vEqFG (kids kidsq : List JV) (css css' : List (List Value)) (A A' : Option Addr) (nk nkq ca ca' : Nat) (F F' : Nat → Prop) (w : World) (hnk : kids.length = nk) (hnkq : kidsq.length = nkq) (hk9 : nk ≤ 4194304) (hkq9 : nkq ≤ 4194304) (h1 : VRs w F css kids) (h6 : RdF w F A css.flatten) (h1' : VRs w F' css' kidsq) (h6' : RdF w F' A' css'.flatten) (h2 : nk ≤ ca) (h2' : nkq ≤ ca')
    (heq : ∀ (x y : JV) (c c' : List Value) (W : World), x ∈ kids → y ∈ kidsq → Below w.heap.size w W → VR W F c x → VR W F' c' y → Calls Tryz.prog 34 #[.agg c.toArray, .agg c'.toArray] W (EqS (x = y) W)) :
    Calls Tryz.prog 66 #[.slice A nk ca, .slice A' nkq ca', .func (.func 34) #[] #[]] w (EqS (kids = kidsq) w) := by
  have HIH := Lib.hid (fun (i : Nat) (x : JV) (hx : kids[i]? = some x) => kid_cellsG h1 h6 hx)
  have HIH' := Lib.hid (fun (i : Nat) (x : JV) (hx : kidsq[i]? = some x) => kid_cellsG h1' h6' hx)
  have HEQ := Lib.hid heq
  have HNK := Lib.hid hnk
  have HNKQ := Lib.hid hnkq
  clear h1 h6 h1' h6' heq hnk hnkq
  by_cases el : nk = nkq
  case neg =>
    have HNO := Lib.hid (show ¬ (kids = kidsq) from fun e => el (by rw [← HNK.out, ← HNKQ.out, e]))
    have hb1 : ((nk : Int) == nkq) = false := by simp; omega
    have hb2 : ((nk : Int) != nkq) = true := by simp; omega
    go_enter Tryz.func66, Tryz.ntmps66
    go_wp2
    go_ret
    exact EqS.no HNO.out (Below.refl _ _)
  subst el
  go_enter Tryz.func66, Tryz.ntmps66
  go_wp2
  go_loopg [17] nk (fun gk s17 wr => ∃ i : Nat, i ≤ nk ∧ gk = nk - i ∧ s17 = .int .i64 i ∧ Hid (kids.take i = kidsq.take i) ∧ Hid (Below w.heap.size w wr))
  case atStart => exact ⟨0, Nat.zero_le _, rfl, by go_num, Lib.hid rfl, Lib.hid (Below.refl _ _)⟩
  case round =>
    obtain ⟨i, hi, hgk, rfl, HSM, HB⟩ := hrel
    have HG := Lib.hid hgk
    clear hgk
    by_cases hlt : i < nk
    · obtain ⟨x, hx⟩ : ∃ x, kids[i]? = some x := ⟨_, List.getElem?_eq_getElem (by rw [HNK.out]; exact hlt)⟩
      obtain ⟨y, hy⟩ : ∃ y, kidsq[i]? = some y := ⟨_, List.getElem?_eq_getElem (by rw [HNKQ.out]; exact hlt)⟩
      obtain ⟨b, o, k1, n1, s1, A1, na1, ca1, B1, nb1, cb1, rfl, hb, hvx, hz⟩ := HIH.out i x hx
      obtain ⟨b', o', k2, n2, s2, A2, na2, ca2, B2, nb2, cb2, rfl, hb', hvx', hz'⟩ := HIH'.out i y hy
      have hbA := (Below.refl wr.heap.size wr).alloc (Nat.le_refl _) (.cells #[.int .i64 k1, .int .i64 n1, .string s1, .slice A1 na1 ca1, .slice B1 nb1 cb1] 25)
      obtain ⟨q0, q1, q2, q3, q4⟩ := hz _ HB.out
      obtain ⟨p0, p1, p2, p3, p4⟩ := hz' _ (HB.out.trans (hbA.mono HB.out.size))
      have hTS := TwoB.new wr 25 #[.int .i64 k1, .int .i64 n1, .string s1, .slice A1 na1 ca1, .slice B1 nb1 cb1] #[.int .i64 k2, .int .i64 n2, .string s2, .slice A2 na2 ca2, .slice B2 nb2 cb2]
      have HB2 := Lib.hid (HB.out.trans (hTS.2.2.mono HB.out.size))
      have HCL := Lib.hid (HEQ.out x y _ _ _ (List.mem_of_getElem? hx) (List.mem_of_getElem? hy) HB2.out (hvx.bel HB2.out) (hvx'.bel HB2.out))
      have HXY := Lib.hid (show x = y → kids.take (i + 1) = kidsq.take (i + 1) from fun e => by rw [List.take_add_one, List.take_add_one, HSM.out, hx, hy, e])
      have HXN := Lib.hid (show x ≠ y → ¬ kids = kidsq from fun e h => e (by rw [h, hy] at hx; exact (Option.some.inj hx).symm))
      obtain ⟨c1, f1, l1⟩ := hTS.1.rules
      obtain ⟨c2, f2, l2⟩ := hTS.2.1.rules
      have hb1 : b < wr.heap.size := Nat.lt_of_lt_of_le hb HB.out.size
      have hb1' : b' < wr.heap.size := Nat.lt_of_lt_of_le hb' HB.out.size
      clear hz hz' hvx hvx' hx hy hbA hTS
      go_wp2_with fail
      refine HCL.out.mono ?_
      rintro e w2 ⟨tt, rfl, htt, hb2⟩
      have HB3 := Lib.hid (HB2.out.trans (hb2.mono HB2.out.size))
      have HTT := Lib.hid htt
      clear hb2 htt
      cases tt with
      | true =>
        have HK := Lib.hid (HXY.out (HTT.out.1 (by trivial)))
        go_wp2
        go_roundg (nk - (i + 1))
        case measure => rw [HG.out]; omega
        case rel => exact ⟨i + 1, hlt, rfl, by go_num, HK, HB3⟩
      | false =>
        have HF := Lib.hid (HXN.out (fun e => by have := HTT.out.2 e; cases this))
        go_wp2
        go_ret
        exact EqS.no HF.out HB3.out
    · obtain rfl : i = nk := by omega
      have HF := Lib.hid (show kids = kidsq by
        have e1 := HSM.out
        rwa [List.take_of_length_le (Nat.le_of_eq HNK.out), List.take_of_length_le (Nat.le_of_eq HNKQ.out)] at e1)
      go_wp2
      go_ret
      exact EqS.yes HF.out HB.out
set_option maxRecDepth 100000 in
set_option maxHeartbeats 4000000 in
theorem vEqualG : ∀ (N : Nat) (v v' : JV), nodesJ v ≤ N → ∀ (cs cs' : List Value) (F F' : Nat → Prop) (w : World), VR w F cs v → VR w F' cs' v' → Came v → Came v' → Calls Tryz.prog 34 #[.agg cs.toArray, .agg cs'.toArray] w (EqS (v = v') w)
  | 0, v, _, h, _, _, _, _, _, _, _, _, _ => by have := nodesJ_pos v; omega
  | N + 1, .mk k n s kids keys, .mk kq nq sq kidsq keysq, hN, cs, cs', F, F', w, hv, hv', hC, hC' => by
    have ih := vEqualG N
    unfold nodesJ at hN
    obtain ⟨_, _, hsl, hkl, hyl, _, hck⟩ := hC.out
    obtain ⟨_, _, hsl', hkl', hyl', _, hck'⟩ := hC'.out
    obtain ⟨A, B, ca, cb, css, rfl, h1, h2, h3, h4, h5, h6, h7⟩ := hv.out
    obtain ⟨A', B', ca', cb', css', rfl, h1', h2', h3', h4', h5', h6', h7'⟩ := hv'.out
    have HEF := Lib.hid (fun W (h : Below w.heap.size w W) => vEqFG kids kidsq css css' A A' kids.length kidsq.length ca ca' F F' W rfl rfl hkl hkl' (h1.below h) (h6.keep (KeepF.of_below h)) (h1'.below h) (h6'.keep (KeepF.of_below h)) h2 h2'
      (fun x y c c' W2 hx hy hW2 hc hc' => by
        obtain ⟨i, hi⟩ := List.mem_iff_getElem?.1 hx
        obtain ⟨hn1, hn2⟩ := nodesL_at hi
        exact ih x y (by omega) c c' F F' W2 hc hc' (hck x hx) (hck' y hy)))
    have HSE := Lib.hid (fun W (h : Below w.heap.size w W) => strEqual_any B B' keys.length keysq.length cb cb' keys keysq W rfl rfl (h7.keep (KeepF.of_below h)).rd (h7'.keep (KeepF.of_below h)).rd h3 h3' hyl hyl')
    have HTB := Lib.hid (TwoB.new w 25 #[.int .i64 k, .int .i64 n, .string ⟨s.toArray⟩, .slice A kids.length ca, .slice B keys.length cb] #[.int .i64 kq, .int .i64 nq, .string ⟨sq.toArray⟩, .slice A' kidsq.length ca', .slice B' keysq.length cb'])
    obtain ⟨nk, hnk⟩ : ∃ nk, kids.length = nk := ⟨_, rfl⟩
    obtain ⟨ny, hny⟩ : ∃ ny, keys.length = ny := ⟨_, rfl⟩
    obtain ⟨nkq, hnkq⟩ : ∃ nkq, kidsq.length = nkq := ⟨_, rfl⟩
    obtain ⟨nyq, hnyq⟩ : ∃ nyq, keysq.length = nyq := ⟨_, rfl⟩
    rw [hnk, hny, hnkq, hnyq] at HTB ⊢
    rw [hnk, hnkq] at HEF
    rw [hny, hnyq] at HSE
    have y1 : w.heap.size ≠ w.heap.size + 1 := by omega
    have y2 : w.heap.size + 1 ≠ w.heap.size := by omega
    clear hv hv' hC hC' hck hck' h1 h1' h2 h2' h3 h3' h4 h4' h5 h5' h6 h6' h7 h7' hnk hny hnkq hnyq ih hN
    obtain ⟨PP, hPP⟩ : ∃ PP : Prop, (JV.mk k n s kids keys = JV.mk kq nq sq kidsq keysq) = PP := ⟨_, rfl⟩
    rw [hPP]
    have HPN := Lib.hid (show (k ≠ kq ∨ n ≠ nq ∨ s ≠ sq ∨ kids ≠ kidsq ∨ keys ≠ keysq) → ¬ PP by
      rw [← hPP]; intro h e; injection e with e1 e2 e3 e4 e5
      rcases h with h | h | h | h | h
      · exact h e1
      · exact h e2
      · exact h e3
      · exact h e4
      · exact h e5)
    have HPY := Lib.hid (show k = kq → n = nq → s = sq → kids = kidsq → keys = keysq → PP by rw [← hPP]; rintro rfl rfl rfl rfl rfl; rfl)
    clear hPP
    by_cases ek : k = kq
    case neg =>
      have HNO := Lib.hid (HPN.out (.inl ek))
      have hb1 : (k == kq) = false := by simp [ek]
      go_enter Tryz.func34, Tryz.ntmps34
      go_wp2
      go_ret
      exact EqS.no HNO.out HTB.out.2.2
    by_cases en : n = nq
    case neg =>
      have HNO := Lib.hid (HPN.out (.inr (.inl en)))
      have hb1 : (n == nq) = false := by simp [en]
      subst ek
      go_enter Tryz.func34, Tryz.ntmps34
      go_wp2
      go_ret
      exact EqS.no HNO.out HTB.out.2.2
    by_cases es : s = sq
    case neg =>
      have HNO := Lib.hid (HPN.out (.inr (.inr (.inl es))))
      have hb1 : (s == sq) = false := by simp [es]
      subst ek en
      go_enter Tryz.func34, Tryz.ntmps34
      go_wp2
      go_ret
      exact EqS.no HNO.out HTB.out.2.2
    subst ek en es
    obtain ⟨dk, hdk⟩ : ∃ dk : Bool, decide (keys = keysq) = dk := ⟨_, rfl⟩
    rw [hdk] at HSE
    have HDK := Lib.hid hdk
    clear hdk
    cases dk with
    | false =>
      have HNO := Lib.hid (HPN.out (.inr (.inr (.inr (.inr (of_decide_eq_false HDK.out))))))
      go_enter Tryz.func34, Tryz.ntmps34
      go_wp2_with fail
      refine (HSE.out _ HTB.out.2.2).mono ?_
      rintro e w1 ⟨rfl, q, rfl⟩
      have HTQ := Lib.hid (HTB.out.drewN q)
      go_wp2
      go_ret
      exact EqS.no HNO.out HTQ.out.2.2
    | true =>
    have HKE := Lib.hid (of_decide_eq_true HDK.out)
    go_enter Tryz.func34, Tryz.ntmps34
    go_wp2_with fail
    refine (HSE.out _ HTB.out.2.2).mono ?_
    rintro e w1 ⟨rfl, q, rfl⟩
    have HTQ := Lib.hid (HTB.out.drewN q)
    obtain ⟨W1, hW1⟩ : ∃ W1, World.drewN ((w.alloc (.cells #[.int .i64 k, .int .i64 n, .string ⟨s.toArray⟩, .slice A nk ca, .slice B ny cb] 25)).alloc (.cells #[.int .i64 k, .int .i64 n, .string ⟨s.toArray⟩, .slice A' nkq ca', .slice B' nyq cb'] 25)) q = W1 := ⟨_, rfl⟩
    rw [hW1] at HTQ ⊢
    clear hW1
    obtain ⟨c1, f1, l1⟩ := HTQ.out.1.rules
    obtain ⟨c2, f2, l2⟩ := HTQ.out.2.1.rules
    go_wp2_with fail
    refine (HEF.out _ HTQ.out.2.2).mono ?_
    rintro e w2 ⟨tt, rfl, htt, hb2⟩
    have HB2 := Lib.hid (HTQ.out.2.2.trans (hb2.mono HTQ.out.2.2.size))
    have HTT := Lib.hid htt
    clear hb2 htt
    go_wp2
    go_ret
    refine ⟨tt, rfl, ⟨fun h => HPY.out (by trivial) (by trivial) (by trivial) (HTT.out.1 h) HKE.out, fun h => ?_⟩, HB2.out⟩
    cases tt with
    | true => rfl
    | false => exact absurd h (HPN.out (.inr (.inr (.inr (.inl fun e => by have := HTT.out.2 e; cases this)))))
set_option maxRecDepth 100000 in
set_option maxHeartbeats 4000000 in
theorem vSameG (v v' : JV) (cs cs' : List Value) (F F' : Nat → Prop) (w : World) (hG : GOK w) (hv : VR w F cs v) (hv' : VR w F' cs' v') (hC : Came v) (hC' : Came v') :
    Calls Tryz.prog 17 #[.agg cs.toArray, .agg cs'.toArray] w (EqS (good v = true ∧ good v' = true ∧ v = v') w) := by
  have H1 := Lib.hid (fun W (h : Below w.heap.size w W) => vRightG v cs F W (hG.keep h) (hv.bel h) hC)
  have H2 := Lib.hid (fun W (h : Below w.heap.size w W) => vRightG v' cs' F' W (hG.keep h) (hv'.bel h) hC')
  have H3 := Lib.hid (fun W (h : Below w.heap.size w W) => vEqualG _ v v' (Nat.le_refl _) cs cs' F F' W (hv.bel h) (hv'.bel h) hC hC')
  obtain ⟨k0, n0, s0, A0, na0, ca0, B0, nb0, cb0, rfl⟩ := hv.form
  obtain ⟨k1, n1, s1, A1, na1, ca1, B1, nb1, cb1, rfl⟩ := hv'.form
  have HB := Lib.hid (TwoB.new w 25 #[.int .i64 k0, .int .i64 n0, .string s0, .slice A0 na0 ca0, .slice B0 nb0 cb0] #[.int .i64 k1, .int .i64 n1, .string s1, .slice A1 na1 ca1, .slice B1 nb1 cb1])
  clear hv hv' hC hC' hG
  obtain ⟨g, hg⟩ : ∃ g, good v = g := ⟨_, rfl⟩
  obtain ⟨g', hg'⟩ : ∃ g', good v' = g' := ⟨_, rfl⟩
  rw [hg] at H1 ⊢
  rw [hg'] at H2 ⊢
  clear hg hg'
  cases g with
  | false =>
    go_enter Tryz.func17, Tryz.ntmps17
    go_wp2_with fail
    refine (H1.out _ HB.out.2.2).mono ?_
    rintro e w1 ⟨rfl, hb1⟩
    have HB1 := Lib.hid (HB.out.keep hb1)
    clear hb1
    go_wp2
    go_ret
    exact EqS.no (fun e => by cases e.1) HB1.out.2.2
  | true =>
  cases g' with
  | false =>
    go_enter Tryz.func17, Tryz.ntmps17
    go_wp2_with fail
    refine (H1.out _ HB.out.2.2).mono ?_
    rintro e w1 ⟨rfl, hb1⟩
    have HB1 := Lib.hid (HB.out.keep hb1)
    clear hb1
    obtain ⟨c1, f1, l1⟩ := HB1.out.1.rules
    obtain ⟨c2, f2, l2⟩ := HB1.out.2.1.rules
    go_wp2_with fail
    refine (H2.out _ HB1.out.2.2).mono ?_
    rintro e w2 ⟨rfl, hb2⟩
    have HB2 := Lib.hid (HB1.out.keep hb2)
    clear hb2
    go_wp2
    go_ret
    exact EqS.no (fun e => by cases e.2.1) HB2.out.2.2
  | true =>
    go_enter Tryz.func17, Tryz.ntmps17
    go_wp2_with fail
    refine (H1.out _ HB.out.2.2).mono ?_
    rintro e w1 ⟨rfl, hb1⟩
    have HB1 := Lib.hid (HB.out.keep hb1)
    clear hb1
    obtain ⟨c1, f1, l1⟩ := HB1.out.1.rules
    obtain ⟨c2, f2, l2⟩ := HB1.out.2.1.rules
    go_wp2_with fail
    refine (H2.out _ HB1.out.2.2).mono ?_
    rintro e w2 ⟨rfl, hb2⟩
    have HB2 := Lib.hid (HB1.out.keep hb2)
    clear hb2 c1 f1 l1 c2 f2 l2
    obtain ⟨c1, f1, l1⟩ := HB2.out.1.rules
    obtain ⟨c2, f2, l2⟩ := HB2.out.2.1.rules
    go_wp2_with fail
    refine (H3.out _ HB2.out.2.2).mono ?_
    rintro e w3 ⟨tt, rfl, htt, hb3⟩
    have HB3 := Lib.hid (HB2.out.keep hb3)
    have HTT := Lib.hid htt
    clear hb3 htt
    go_wp2
    go_ret
    exact ⟨tt, rfl, by rw [HTT.out]; simp, HB3.out.2.2⟩
end Go.Proofs.YtoejdhabpajhlaaGreatDoor
