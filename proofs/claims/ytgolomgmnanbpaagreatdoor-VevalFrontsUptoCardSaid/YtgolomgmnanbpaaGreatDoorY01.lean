import Derived.Test.YtgolomgmnanbpaaGreatDoorZ03
import Derived.Test.YtgolomgmnanbpaaGreatDoorZ04
import Derived.Test.YtgolomgmnanbpaaGreatDoorZ01
import Derived.WalkMore
import Derived.Test.YtgolomgmnanbpaaGreatDoorZ05
import Derived.Test.YtgolomgmnanbpaaGreatDoorZ24
import Derived.Test.YtgolomgmnanbpaaGreatDoorZ25
import Derived.Test.YtgolomgmnanbpaaGreatDoorZ08
import Derived.Test.YtgolomgmnanbpaaGreatDoorZ09
import Derived.Test.YtgolomgmnanbpaaGreatDoorZ07
import Derived.Test.YtgolomgmnanbpaaGreatDoorZ21
import Derived.Deep.RegionHeld3
namespace Go.Proofs.YtgolomgmnanbpaaGreatDoor
set_option linter.unusedVariables false
set_option linter.unusedSimpArgs false
open Go.RowKit
section
variable {α : Type} {R R' : List Value → α → Prop} {css : List (List Value)} {xs : List α} {m : Nat}
theorem take_flat (n : Nat) : ∀ {css : List (List Value)}, (∀ c ∈ css, c.length = m) → (css.take n).flatten = css.flatten.take (n * m) := by
  induction n with
  | zero => intro css h; simp
  | succ n ih =>
    intro css h
    cases css with
    | nil => simp
    | cons c r =>
      have hl := h c List.mem_cons_self
      have e : (n + 1) * m = c.length + n * m := by rw [Nat.add_mul, hl]; omega
      rw [List.take_succ_cons, List.flatten_cons, List.flatten_cons, ih (fun c hc => h c (List.mem_cons_of_mem _ hc)), e, List.take_length_add_append]
end
section
variable {W W' : World} {F F' : Nat → Prop} {cs : List Value} {x : EJ}
end
section
variable {W W' : World} {F F' : Nat → Prop} {cs : List Value} {x : SJ}
end
section
variable {W W' : World} {F F' : Nat → Prop} {cs : List Value}
end
end Go.Proofs.YtgolomgmnanbpaaGreatDoor
namespace Go.Proofs.YtgolomgmnanbpaaGreatDoor
set_option linter.unusedVariables false
set_option linter.unusedSimpArgs false
open Go.RowKit
attribute [local go_sem] run_index_arr run_part_agg run_part_one run_field_agg
set_option maxRecDepth 100000 in
set_option maxHeartbeats 4000000 in
/-- slices.Equal over texts -/
theorem strEqual_any (A1 A2 : Option Addr) (n1 n2 c1 c2 : Nat) (k1 k2 : List (List UInt8)) (w : World) (hn1 : k1.length = n1) (hn2 : k2.length = n2) (h1 : Rd w A1 (strV k1)) (h2 : Rd w A2 (strV k2)) (hc1 : n1 ≤ c1) (hc2 : n2 ≤ c2) (hl1 : n1 ≤ 4194304) (hl2 : n2 ≤ 4194304) :
    Calls Tryz.prog 148 #[.slice A1 n1 c1, .slice A2 n2 c2] w fun e w' => e = .returned (.bool (decide (k1 = k2))) ∧ ∃ q, w.drewN q = w' := by
  by_cases hlen : n1 = n2
  · subst hlen
    have HN1 := Lib.hid hn1
    have HN2 := Lib.hid hn2
    clear hn1 hn2
    go_enter Tryz.func148, Tryz.ntmps148
    go_wp2
    go_loopg [13] n1 (fun gk i wr => ∃ k q : Nat, k ≤ n1 ∧ gk = n1 - k ∧ i = .int .i64 k ∧ wr = w.drewN q ∧ Hid (k1.take k = k2.take k))
    case atStart => exact ⟨0, 0, Nat.zero_le _, rfl, rfl, rfl, Lib.hid rfl⟩
    case round =>
      obtain ⟨k, q, hk, hgk, rfl, rfl, HE⟩ := hrel
      have HG := Lib.hid hgk
      clear hgk
      by_cases hlt : k < n1
      · obtain ⟨a, ha⟩ : ∃ x, k1[k]? = some x := ⟨_, List.getElem?_eq_getElem (by rw [HN1.out]; exact hlt)⟩
        obtain ⟨b, hb⟩ : ∃ x, k2[k]? = some x := ⟨_, List.getElem?_eq_getElem (by rw [HN2.out]; exact hlt)⟩
        have key : ∀ (A : Option Addr) (ks : List (List UInt8)) (x : List UInt8), Rd w A (strV ks) → ks[k]? = some x → ∃ b o, A = some ⟨b, o, none⟩ ∧ w.cell? ⟨b, o + k, none⟩ = some (.string ⟨x.toArray⟩) := fun A ks x hr hx => by
          have hkl := (List.getElem?_eq_some_iff.1 hx)
          obtain ⟨b, o, rfl, _, hc⟩ := hr (by intro e; have h := strV_len ks; rw [e] at h; have := hkl.1; simp at h; omega)
          refine ⟨b, o, rfl, ?_⟩
          rw [hc k (by rw [strV_len]; exact hkl.1)]
          simp [strV, hkl.2]
        obtain ⟨b1, o1, rfl, x1⟩ := key A1 k1 a h1 ha
        obtain ⟨b2, o2, rfl, x2⟩ := key A2 k2 b h2 hb
        have HA := Lib.hid ha
        have HB := Lib.hid hb
        clear ha hb key
        by_cases hab : a = b
        · subst hab
          go_wp2
          go_quiet (fail)
          go_wp2
          go_roundg (n1 - (k + 1))
          case measure => rw [HG.out]; omega
          case rel => exact ⟨k + 1, q + nq, hlt, rfl, by go_num, rfl, Lib.hid (by rw [List.take_add_one, List.take_add_one, HE.out, HA.out, HB.out])⟩
        · have hbe : (a == b) = false := by simpa using hab
          have hbe2 : (a != b) = true := by simpa using hab
          have HF := Lib.hid (show k1 ≠ k2 from fun e => hab (by have h := HA.out; rw [e, HB.out] at h; injection h with h; exact h.symm))
          clear hab
          go_wp2
          go_quiet (fail)
          go_wp2
          go_ret
          exact ⟨ret_bool (by rw [decide_eq_false HF.out]), q + nq, (World.drewN_drewN _ _ _).symm⟩
      · obtain rfl : k = n1 := by omega
        go_wp2
        go_ret
        refine ⟨ret_bool ?_, q, rfl⟩
        have h := HE.out
        rw [List.take_of_length_le (by rw [HN1.out]; exact Nat.le_refl _), List.take_of_length_le (by rw [HN2.out]; exact Nat.le_refl _)] at h
        simp [h]
  · have hne : ((n1 : Int) != (n2 : Int)) = true := by simp; omega
    have HF := Lib.hid (show k1 ≠ k2 from fun e => hlen (by rw [← hn1, ← hn2, e]))
    clear hlen
    go_enter Tryz.func148, Tryz.ntmps148
    go_wp2
    go_ret
    exact ⟨ret_bool (by rw [decide_eq_false HF.out]), 0, rfl⟩
end Go.Proofs.YtgolomgmnanbpaaGreatDoor
namespace Go.Proofs.YtgolomgmnanbpaaGreatDoor
set_option linter.unusedVariables false
set_option linter.unusedSimpArgs false
open Go.RowKit
attribute [local go_sem] run_index_arr run_part_agg run_part_one run_field_agg
end Go.Proofs.YtgolomgmnanbpaaGreatDoor
namespace Go.Proofs.YtgolomgmnanbpaaGreatDoor
set_option linter.unusedVariables false
set_option linter.unusedSimpArgs false
theorem map_err (l : List SJ) (id : List UInt8) (v : JV) : (∃ q, q ≠ 0 ∧ mapJ l id v = ([], q)) ∨
    (mayP l = true ∧ idOk id = true ∧ good v = true ∧ mapJ l id v = ((goL (envM id v) (0, []) l).2, 0)) := by
  unfold mapJ
  by_cases h1 : mayP l = false
  · rw [if_pos h1]; exact .inl ⟨332, by omega, rfl⟩
  rw [if_neg h1]
  by_cases h2 : idOk id = false
  · rw [if_pos h2]; exact .inl ⟨290, by omega, rfl⟩
  rw [if_neg h2]
  by_cases h3 : good v = false
  · rw [if_pos h3]; exact .inl ⟨140, by omega, rfl⟩
  rw [if_neg h3]
  exact .inr ⟨by simpa using h1, by simpa using h2, by simpa using h3, rfl⟩
theorem env_good {id : List UInt8} {v : JV} (h2 : idOk id = true) (h3 : good v = true) : ∀ b ∈ envM id v, good b.2 = true := by
  have hgt : good (jText id) = true := by
    have h1 := idOk_txt h2
    unfold good jText goodJ goodA nodesJ nodesL goodL
    simp [h1]
  intro b hb
  rcases List.mem_cons.1 hb with rfl | hb
  · exact h3
  · obtain rfl := List.mem_singleton.1 hb; exact hgt
theorem ok0 : EmOk (0, []) := ⟨by show 0 ≤ 4; omega, by show 0 ≤ 256; omega, fun e he => by cases he⟩
theorem fronts_law {p q : List SJ} {id : List UInt8} {v : JV} (h1 : (mapJ p id v).2 = 0) (h2 : (mapJ (p ++ q) id v).2 = 0) : (mapJ p id v).1 <+: (mapJ (p ++ q) id v).1 := by
  rcases map_err p id v with ⟨e, he, hp⟩ | ⟨ha, hb, hc, hp⟩
  · rw [hp] at h1; exact absurd h1 he
  rcases map_err (p ++ q) id v with ⟨e, he, hq⟩ | ⟨ha', _, _, hq⟩
  · rw [hq] at h2; exact absurd h2 he
  rw [hp, hq]
  show (goL (envM id v) (0, []) p).2 <+: (goL (envM id v) (0, []) (p ++ q)).2
  unfold mayP at ha ha'
  rw [mayL_app, Bool.and_eq_true] at ha'
  rw [goL_app]
  exact (goL_ok q (envM id v) 12 _ (env_good hb hc) ha'.2 (goL_ok p (envM id v) 12 (0, []) (env_good hb hc) ha ok0).1).2
end Go.Proofs.YtgolomgmnanbpaaGreatDoor
namespace Go.Proofs.YtgolomgmnanbpaaGreatDoor
set_option linter.unusedVariables false
set_option linter.unusedSimpArgs false
open Go.RowKit
attribute [local go_sem] run_index_arr run_part_agg run_part_one run_field_agg
theorem EqS.yes {p : Prop} {w w' : World} (h : p) (hb : Below w.heap.size w w') : EqS p w (.returned (.bool true)) w' := ⟨true, rfl, by simp [h], hb⟩
end Go.Proofs.YtgolomgmnanbpaaGreatDoor
namespace Go.Proofs.YtgolomgmnanbpaaGreatDoor
set_option linter.unusedVariables false
set_option linter.unusedSimpArgs false
open Go.RowKit Go.Shelf
attribute [local go_sem] run_index_arr run_part_agg run_part_one run_field_agg
set_option maxRecDepth 100000 in
set_option maxHeartbeats 4000000 in
theorem vEqFG (kids kidsq : List JV) (css css' : List (List Value)) (A A' : Option Addr) (nk nkq ca ca' : Nat) (F F' : Nat → Prop) (w : World) (hnk : kids.length = nk) (hnkq : kidsq.length = nkq) (hk9 : nk ≤ 4194304) (hkq9 : nkq ≤ 4194304) (h1 : VRs w F css kids) (h6 : RdF w F A css.flatten) (h1' : VRs w F' css' kidsq) (h6' : RdF w F' A' css'.flatten) (h2 : nk ≤ ca) (h2' : nkq ≤ ca')
    (heq : ∀ (x y : JV) (c c' : List Value) (W : World), x ∈ kids → y ∈ kidsq → Below w.heap.size w W → VR W F c x → VR W F' c' y → Calls Tryz.prog 101 #[.agg c.toArray, .agg c'.toArray] W (EqS (x = y) W)) :
    Calls Tryz.prog 149 #[.slice A nk ca, .slice A' nkq ca', .func (.func 101) #[] #[]] w (EqS (kids = kidsq) w) := by
  have HIH := Lib.hid (fun (i : Nat) (x : JV) (hx : kids[i]? = some x) => kid_cellsG h1 h6 hx)
  have HIH' := Lib.hid (fun (i : Nat) (x : JV) (hx : kidsq[i]? = some x) => kid_cellsG h1' h6' hx)
  have HEQ := Lib.hid heq
  have HNK := Lib.hid hnk
  have HNKQ := Lib.hid hnkq
  clear h1 h6 h1' h6' heq hnk hnkq
  by_cases el : nk = nkq
  case neg =>
    have HNO := Lib.hid (show ¬ (kids = kidsq) from fun e => el (by rw [← HNK.out, ← HNKQ.out, e]))
    have hb1 : ((nk : Int) == nkq) = false := by simp; omega
    have hb2 : ((nk : Int) != nkq) = true := by simp; omega
    go_enter Tryz.func149, Tryz.ntmps149
    go_wp2
    go_ret
    exact EqS.no HNO.out (Below.refl _ _)
  subst el
  go_enter Tryz.func149, Tryz.ntmps149
  go_wp2
  go_loopg [17] nk (fun gk s17 wr => ∃ i : Nat, i ≤ nk ∧ gk = nk - i ∧ s17 = .int .i64 i ∧ Hid (kids.take i = kidsq.take i) ∧ Hid (Below w.heap.size w wr))
  case atStart => exact ⟨0, Nat.zero_le _, rfl, by go_num, Lib.hid rfl, Lib.hid (Below.refl _ _)⟩
  case round =>
    obtain ⟨i, hi, hgk, rfl, HSM, HB⟩ := hrel
    have HG := Lib.hid hgk
    clear hgk
    by_cases hlt : i < nk
    · obtain ⟨x, hx⟩ : ∃ x, kids[i]? = some x := ⟨_, List.getElem?_eq_getElem (by rw [HNK.out]; exact hlt)⟩
      obtain ⟨y, hy⟩ : ∃ y, kidsq[i]? = some y := ⟨_, List.getElem?_eq_getElem (by rw [HNKQ.out]; exact hlt)⟩
      obtain ⟨b, o, k1, n1, s1, A1, na1, ca1, B1, nb1, cb1, rfl, hb, hvx, hz⟩ := HIH.out i x hx
      obtain ⟨b', o', k2, n2, s2, A2, na2, ca2, B2, nb2, cb2, rfl, hb', hvx', hz'⟩ := HIH'.out i y hy
      have hbA := (Below.refl wr.heap.size wr).alloc (Nat.le_refl _) (.cells #[.int .i64 k1, .int .i64 n1, .string s1, .slice A1 na1 ca1, .slice B1 nb1 cb1] 25)
      obtain ⟨q0, q1, q2, q3, q4⟩ := hz _ HB.out
      obtain ⟨p0, p1, p2, p3, p4⟩ := hz' _ (HB.out.trans (hbA.mono HB.out.size))
      have hTS := TwoB.new wr 25 #[.int .i64 k1, .int .i64 n1, .string s1, .slice A1 na1 ca1, .slice B1 nb1 cb1] #[.int .i64 k2, .int .i64 n2, .string s2, .slice A2 na2 ca2, .slice B2 nb2 cb2]
      have HB2 := Lib.hid (HB.out.trans (hTS.2.2.mono HB.out.size))
      have HCL := Lib.hid (HEQ.out x y _ _ _ (List.mem_of_getElem? hx) (List.mem_of_getElem? hy) HB2.out (hvx.bel HB2.out) (hvx'.bel HB2.out))
      have HXY := Lib.hid (show x = y → kids.take (i + 1) = kidsq.take (i + 1) from fun e => by rw [List.take_add_one, List.take_add_one, HSM.out, hx, hy, e])
      have HXN := Lib.hid (show x ≠ y → ¬ kids = kidsq from fun e h => e (by rw [h, hy] at hx; exact (Option.some.inj hx).symm))
      obtain ⟨c1, f1, l1⟩ := hTS.1.rules
      obtain ⟨c2, f2, l2⟩ := hTS.2.1.rules
      have hb1 : b < wr.heap.size := Nat.lt_of_lt_of_le hb HB.out.size
      have hb1' : b' < wr.heap.size := Nat.lt_of_lt_of_le hb' HB.out.size
      clear hz hz' hvx hvx' hx hy hbA hTS
      go_wp2_with fail
      refine HCL.out.mono ?_
      rintro e w2 ⟨tt, rfl, htt, hb2⟩
      have HB3 := Lib.hid (HB2.out.trans (hb2.mono HB2.out.size))
      have HTT := Lib.hid htt
      clear hb2 htt
      cases tt with
      | true =>
        have HK := Lib.hid (HXY.out (HTT.out.1 (by trivial)))
        go_wp2
        go_roundg (nk - (i + 1))
        case measure => rw [HG.out]; omega
        case rel => exact ⟨i + 1, hlt, rfl, by go_num, HK, HB3⟩
      | false =>
        have HF := Lib.hid (HXN.out (fun e => by have := HTT.out.2 e; cases this))
        go_wp2
        go_ret
        exact EqS.no HF.out HB3.out
    · obtain rfl : i = nk := by omega
      have HF := Lib.hid (show kids = kidsq by
        have e1 := HSM.out
        rwa [List.take_of_length_le (Nat.le_of_eq HNK.out), List.take_of_length_le (Nat.le_of_eq HNKQ.out)] at e1)
      go_wp2
      go_ret
      exact EqS.yes HF.out HB.out
set_option maxRecDepth 100000 in
set_option maxHeartbeats 4000000 in
theorem vEqualG : ∀ (N : Nat) (v v' : JV), nodesJ v ≤ N → ∀ (cs cs' : List Value) (F F' : Nat → Prop) (w : World), VR w F cs v → VR w F' cs' v' → Came v → Came v' → Calls Tryz.prog 101 #[.agg cs.toArray, .agg cs'.toArray] w (EqS (v = v') w)
  | 0, v, _, h, _, _, _, _, _, _, _, _, _ => by have := nodesJ_pos v; omega
  | N + 1, .mk k n s kids keys, .mk kq nq sq kidsq keysq, hN, cs, cs', F, F', w, hv, hv', hC, hC' => by
    have ih := vEqualG N
    unfold nodesJ at hN
    obtain ⟨_, _, hsl, hkl, hyl, _, hck⟩ := hC.out
    obtain ⟨_, _, hsl', hkl', hyl', _, hck'⟩ := hC'.out
    obtain ⟨A, B, ca, cb, css, rfl, h1, h2, h3, h4, h5, h6, h7⟩ := hv.out
    obtain ⟨A', B', ca', cb', css', rfl, h1', h2', h3', h4', h5', h6', h7'⟩ := hv'.out
    have HEF := Lib.hid (fun W (h : Below w.heap.size w W) => vEqFG kids kidsq css css' A A' kids.length kidsq.length ca ca' F F' W rfl rfl hkl hkl' (h1.below h) (h6.keep (KeepF.of_below h)) (h1'.below h) (h6'.keep (KeepF.of_below h)) h2 h2'
      (fun x y c c' W2 hx hy hW2 hc hc' => by
        obtain ⟨i, hi⟩ := List.mem_iff_getElem?.1 hx
        obtain ⟨hn1, hn2⟩ := nodesL_at hi
        exact ih x y (by omega) c c' F F' W2 hc hc' (hck x hx) (hck' y hy)))
    have HSE := Lib.hid (fun W (h : Below w.heap.size w W) => strEqual_any B B' keys.length keysq.length cb cb' keys keysq W rfl rfl (h7.keep (KeepF.of_below h)).rd (h7'.keep (KeepF.of_below h)).rd h3 h3' hyl hyl')
    have HTB := Lib.hid (TwoB.new w 25 #[.int .i64 k, .int .i64 n, .string ⟨s.toArray⟩, .slice A kids.length ca, .slice B keys.length cb] #[.int .i64 kq, .int .i64 nq, .string ⟨sq.toArray⟩, .slice A' kidsq.length ca', .slice B' keysq.length cb'])
    obtain ⟨nk, hnk⟩ : ∃ nk, kids.length = nk := ⟨_, rfl⟩
    obtain ⟨ny, hny⟩ : ∃ ny, keys.length = ny := ⟨_, rfl⟩
    obtain ⟨nkq, hnkq⟩ : ∃ nkq, kidsq.length = nkq := ⟨_, rfl⟩
    obtain ⟨nyq, hnyq⟩ : ∃ nyq, keysq.length = nyq := ⟨_, rfl⟩
    rw [hnk, hny, hnkq, hnyq] at HTB ⊢
    rw [hnk, hnkq] at HEF
    rw [hny, hnyq] at HSE
    have y1 : w.heap.size ≠ w.heap.size + 1 := by omega
    have y2 : w.heap.size + 1 ≠ w.heap.size := by omega
    clear hv hv' hC hC' hck hck' h1 h1' h2 h2' h3 h3' h4 h4' h5 h5' h6 h6' h7 h7' hnk hny hnkq hnyq ih hN
    obtain ⟨PP, hPP⟩ : ∃ PP : Prop, (JV.mk k n s kids keys = JV.mk kq nq sq kidsq keysq) = PP := ⟨_, rfl⟩
    rw [hPP]
    have HPN := Lib.hid (show (k ≠ kq ∨ n ≠ nq ∨ s ≠ sq ∨ kids ≠ kidsq ∨ keys ≠ keysq) → ¬ PP by
      rw [← hPP]; intro h e; injection e with e1 e2 e3 e4 e5
      rcases h with h | h | h | h | h
      · exact h e1
      · exact h e2
      · exact h e3
      · exact h e4
      · exact h e5)
    have HPY := Lib.hid (show k = kq → n = nq → s = sq → kids = kidsq → keys = keysq → PP by rw [← hPP]; rintro rfl rfl rfl rfl rfl; rfl)
    clear hPP
    by_cases ek : k = kq
    case neg =>
      have HNO := Lib.hid (HPN.out (.inl ek))
      have hb1 : (k == kq) = false := by simp [ek]
      go_enter Tryz.func101, Tryz.ntmps101
      go_wp2
      go_ret
      exact EqS.no HNO.out HTB.out.2.2
    by_cases en : n = nq
    case neg =>
      have HNO := Lib.hid (HPN.out (.inr (.inl en)))
      have hb1 : (n == nq) = false := by simp [en]
      subst ek
      go_enter Tryz.func101, Tryz.ntmps101
      go_wp2
      go_ret
      exact EqS.no HNO.out HTB.out.2.2
    by_cases es : s = sq
    case neg =>
      have HNO := Lib.hid (HPN.out (.inr (.inr (.inl es))))
      have hb1 : (s == sq) = false := by simp [es]
      subst ek en
      go_enter Tryz.func101, Tryz.ntmps101
      go_wp2
      go_ret
      exact EqS.no HNO.out HTB.out.2.2
    subst ek en es
    obtain ⟨dk, hdk⟩ : ∃ dk : Bool, decide (keys = keysq) = dk := ⟨_, rfl⟩
    rw [hdk] at HSE
    have HDK := Lib.hid hdk
    clear hdk
    cases dk with
    | false =>
      have HNO := Lib.hid (HPN.out (.inr (.inr (.inr (.inr (of_decide_eq_false HDK.out))))))
      go_enter Tryz.func101, Tryz.ntmps101
      go_wp2_with fail
      refine (HSE.out _ HTB.out.2.2).mono ?_
      rintro e w1 ⟨rfl, q, rfl⟩
      have HTQ := Lib.hid (HTB.out.drewN q)
      go_wp2
      go_ret
      exact EqS.no HNO.out HTQ.out.2.2
    | true =>
    have HKE := Lib.hid (of_decide_eq_true HDK.out)
    go_enter Tryz.func101, Tryz.ntmps101
    go_wp2_with fail
    refine (HSE.out _ HTB.out.2.2).mono ?_
    rintro e w1 ⟨rfl, q, rfl⟩
    have HTQ := Lib.hid (HTB.out.drewN q)
    obtain ⟨W1, hW1⟩ : ∃ W1, World.drewN ((w.alloc (.cells #[.int .i64 k, .int .i64 n, .string ⟨s.toArray⟩, .slice A nk ca, .slice B ny cb] 25)).alloc (.cells #[.int .i64 k, .int .i64 n, .string ⟨s.toArray⟩, .slice A' nkq ca', .slice B' nyq cb'] 25)) q = W1 := ⟨_, rfl⟩
    rw [hW1] at HTQ ⊢
    clear hW1
    obtain ⟨c1, f1, l1⟩ := HTQ.out.1.rules
    obtain ⟨c2, f2, l2⟩ := HTQ.out.2.1.rules
    go_wp2_with fail
    refine (HEF.out _ HTQ.out.2.2).mono ?_
    rintro e w2 ⟨tt, rfl, htt, hb2⟩
    have HB2 := Lib.hid (HTQ.out.2.2.trans (hb2.mono HTQ.out.2.2.size))
    have HTT := Lib.hid htt
    clear hb2 htt
    go_wp2
    go_ret
    refine ⟨tt, rfl, ⟨fun h => HPY.out (by trivial) (by trivial) (by trivial) (HTT.out.1 h) HKE.out, fun h => ?_⟩, HB2.out⟩
    cases tt with
    | true => rfl
    | false => exact absurd h (HPN.out (.inr (.inr (.inr (.inl fun e => by have := HTT.out.2 e; cases this)))))
set_option maxRecDepth 100000 in
set_option maxHeartbeats 4000000 in
theorem vSameG (v v' : JV) (cs cs' : List Value) (F F' : Nat → Prop) (w : World) (hG : GOK w) (hv : VR w F cs v) (hv' : VR w F' cs' v') (hC : Came v) (hC' : Came v') :
    Calls Tryz.prog 64 #[.agg cs.toArray, .agg cs'.toArray] w (EqS (good v = true ∧ good v' = true ∧ v = v') w) := by
  have H1 := Lib.hid (fun W (h : Below w.heap.size w W) => vRightG v cs F W (hG.keep h) (hv.bel h) hC)
  have H2 := Lib.hid (fun W (h : Below w.heap.size w W) => vRightG v' cs' F' W (hG.keep h) (hv'.bel h) hC')
  have H3 := Lib.hid (fun W (h : Below w.heap.size w W) => vEqualG _ v v' (Nat.le_refl _) cs cs' F F' W (hv.bel h) (hv'.bel h) hC hC')
  obtain ⟨k0, n0, s0, A0, na0, ca0, B0, nb0, cb0, rfl⟩ := hv.form
  obtain ⟨k1, n1, s1, A1, na1, ca1, B1, nb1, cb1, rfl⟩ := hv'.form
  have HB := Lib.hid (TwoB.new w 25 #[.int .i64 k0, .int .i64 n0, .string s0, .slice A0 na0 ca0, .slice B0 nb0 cb0] #[.int .i64 k1, .int .i64 n1, .string s1, .slice A1 na1 ca1, .slice B1 nb1 cb1])
  clear hv hv' hC hC' hG
  obtain ⟨g, hg⟩ : ∃ g, good v = g := ⟨_, rfl⟩
  obtain ⟨g', hg'⟩ : ∃ g', good v' = g' := ⟨_, rfl⟩
  rw [hg] at H1 ⊢
  rw [hg'] at H2 ⊢
  clear hg hg'
  cases g with
  | false =>
    go_enter Tryz.func64, Tryz.ntmps64
    go_wp2_with fail
    refine (H1.out _ HB.out.2.2).mono ?_
    rintro e w1 ⟨rfl, hb1⟩
    have HB1 := Lib.hid (HB.out.keep hb1)
    clear hb1
    go_wp2
    go_ret
    exact EqS.no (fun e => by cases e.1) HB1.out.2.2
  | true =>
  cases g' with
  | false =>
    go_enter Tryz.func64, Tryz.ntmps64
    go_wp2_with fail
    refine (H1.out _ HB.out.2.2).mono ?_
    rintro e w1 ⟨rfl, hb1⟩
    have HB1 := Lib.hid (HB.out.keep hb1)
    clear hb1
    obtain ⟨c1, f1, l1⟩ := HB1.out.1.rules
    obtain ⟨c2, f2, l2⟩ := HB1.out.2.1.rules
    go_wp2_with fail
    refine (H2.out _ HB1.out.2.2).mono ?_
    rintro e w2 ⟨rfl, hb2⟩
    have HB2 := Lib.hid (HB1.out.keep hb2)
    clear hb2
    go_wp2
    go_ret
    exact EqS.no (fun e => by cases e.2.1) HB2.out.2.2
  | true =>
    go_enter Tryz.func64, Tryz.ntmps64
    go_wp2_with fail
    refine (H1.out _ HB.out.2.2).mono ?_
    rintro e w1 ⟨rfl, hb1⟩
    have HB1 := Lib.hid (HB.out.keep hb1)
    clear hb1
    obtain ⟨c1, f1, l1⟩ := HB1.out.1.rules
    obtain ⟨c2, f2, l2⟩ := HB1.out.2.1.rules
    go_wp2_with fail
    refine (H2.out _ HB1.out.2.2).mono ?_
    rintro e w2 ⟨rfl, hb2⟩
    have HB2 := Lib.hid (HB1.out.keep hb2)
    clear hb2 c1 f1 l1 c2 f2 l2
    obtain ⟨c1, f1, l1⟩ := HB2.out.1.rules
    obtain ⟨c2, f2, l2⟩ := HB2.out.2.1.rules
    go_wp2_with fail
    refine (H3.out _ HB2.out.2.2).mono ?_
    rintro e w3 ⟨tt, rfl, htt, hb3⟩
    have HB3 := Lib.hid (HB2.out.keep hb3)
    have HTT := Lib.hid htt
    clear hb3 htt
    go_wp2
    go_ret
    exact ⟨tt, rfl, by rw [HTT.out]; simp, HB3.out.2.2⟩
end Go.Proofs.YtgolomgmnanbpaaGreatDoor
namespace Go.Proofs.YtgolomgmnanbpaaGreatDoor
set_option linter.unusedVariables false
set_option linter.unusedSimpArgs false
open Go.RowKit
attribute [local go_sem] run_index_arr run_part_agg run_part_one run_field_agg
theorem vSameYes {v : JV} (hg : good v = true) (hc : Came v) {cs cs' : List Value} {w : World} (hG : GOK w) (h : VR w TT cs v) (h' : VR w TT cs' v) : Calls Tryz.prog 64 #[.agg cs.toArray, .agg cs'.toArray] w (BoolS true w) := by
  refine (vSameG v v cs cs' TT TT w hG h h' hc hc).mono ?_
  rintro e w' ⟨t, rfl, ht, hb⟩
  exact ⟨by rw [ht.2 ⟨hg, hg, rfl⟩], hb⟩
set_option maxRecDepth 100000 in
set_option maxHeartbeats 16000000 in
theorem lSameE (xs : List (JV × JV)) (A B : Option Addr) (n ca cb : Nat) (css dss : List (List Value)) (w : World) (hG : GOK w) (h1 : EmRs w TT css xs) (r1 : RdF w TT A css.flatten) (h2 : EmRs w TT dss xs) (r2 : RdF w TT B dss.flatten) (hn : xs.length = n) (hn4 : n ≤ 4)
    (hg : ∀ y ∈ xs, good y.1 = true ∧ good y.2 = true) (hc : ∀ y ∈ xs, Came y.1 ∧ Came y.2) :
    Calls Tryz.prog 32 #[.slice A n ca, .slice B n cb] w (BoolS true w) := by
  have HK := Lib.hid (And.intro (And.intro h1 r1) (And.intro h2 r2))
  have HQ := Lib.hid (And.intro hn (And.intro hg hc))
  have HG := Lib.hid hG
  have HW := Lib.hid (Below.refl w.heap.size w)
  clear h1 r1 h2 r2 hn hg hc hG
  go_enter Tryz.func32, Tryz.ntmps32
  go_upto_region 4 with fail
  go_loopg [13] n (fun gk s13 wr => ∃ (i : Nat), i ≤ n ∧ gk = n - i ∧ s13 = .int .i64 (i : Int) ∧ Hid (Below w.heap.size w wr))
  case atStart => exact ⟨0, Nat.zero_le _, by go_num, rfl, HW⟩
  case round =>
    obtain ⟨i, hin, hgk, rfl, HWR⟩ := hrel
    have HGK := Lib.hid hgk
    clear hgk
    by_cases hlt : i < n
    · obtain ⟨x, hx⟩ : ∃ x, xs[i]? = some x := ⟨_, List.getElem?_eq_getElem (by rw [HQ.out.1]; omega)⟩
      have hxm := List.mem_of_getElem? hx
      obtain ⟨b1, o1, k1, n1, s1, A1, na1, ca1, B1, nb1, cb1, k2, n2, s2, A2, na2, ca2, B2, nb2, cb2, rfl, hb1, hv1, hv2, hz1⟩ := kid_cellsM HK.out.1.1 HK.out.1.2 hx
      obtain ⟨b2, o2, k3, n3, s3, A3, na3, ca3, B3, nb3, cb3, k4, n4, s4, A4, na4, ca4, B4, nb4, cb4, rfl, hb2, hv3, hv4, hz2⟩ := kid_cellsM HK.out.2.1 HK.out.2.2 hx
      have HZ1 := Lib.hid hz1
      have HZ2 := Lib.hid hz2
      have HS1 := Lib.hid (fun (W : World) (h : Below wr.heap.size wr W) => have hb := HWR.out.trans (h.mono HWR.out.size); vSameYes (HQ.out.2.1 x hxm).1 (HQ.out.2.2 x hxm).1 (HG.out.keep hb) (hv1.bel hb) (hv3.bel hb))
      have HS2 := Lib.hid (fun (W : World) (h : Below wr.heap.size wr W) => have hb := HWR.out.trans (h.mono HWR.out.size); vSameYes (HQ.out.2.1 x hxm).2 (HQ.out.2.2 x hxm).2 (HG.out.keep hb) (hv2.bel hb) (hv4.bel hb))
      have hp1 : b1 < wr.heap.size := Nat.lt_of_lt_of_le hb1 HWR.out.size
      have hp2 : b2 < wr.heap.size := Nat.lt_of_lt_of_le hb2 HWR.out.size
      clear hx hxm hb1 hv1 hv2 hz1 hb2 hv3 hv4 hz2
      go_upto_region 6 with fail
      refine wp_region_held_drew (S := fun W' => Below wr.heap.size wr W') (by kernel_rfl) (by exact (Below.refl _ _).drew) (fun hHeld => ?_)
      refine wpAnyH_worldM (fun w2 hw2 => ?_)
      have HB2 := Lib.hid (show Below wr.heap.size wr w2 by rw [hw2]; exact (Below.refl _ _).drew)
      clear hw2
      refine wpAnyH_take (i := 0) (oi := ⟨some 16, _, _, _, _, _⟩) (v := .slice (some ⟨b1, o1, none⟩) n ca) rfl (by kernel_rfl) (by kernel_rfl) (by kernel_rfl) (fun _ _ _ h => h) (Or.inl ⟨by kernel_rfl, ?_⟩) (by assumption) ?_
      · intro W hSw; go_simp
      try simp only [Act.put, List.setIfInBounds_toArray, List.set_cons_zero, List.set_cons_succ]
      refine wpAnyH_take (i := 1) (oi := ⟨some 17, _, _, _, _, _⟩) (v := .int .i64 (i : Int)) rfl (by kernel_rfl) (by kernel_rfl) (by kernel_rfl) (fun _ _ _ h => h) (Or.inl ⟨by kernel_rfl, ?_⟩) (by assumption) ?_
      · intro W hSw; go_simp
      try simp only [Act.put, List.setIfInBounds_toArray, List.set_cons_zero, List.set_cons_succ]
      refine wpAnyH_take (i := 2) (oi := ⟨some 18, _, _, _, _, _⟩) (v := .pointer (some ⟨b1, o1 + i * 10, none⟩)) rfl (by kernel_rfl) (by kernel_rfl) (by kernel_rfl) (fun _ _ _ h => h) (Or.inl ⟨by kernel_rfl, ?_⟩) (by assumption) ?_
      · intro W hSw; go_simp
      try simp only [Act.put, List.setIfInBounds_toArray, List.set_cons_zero, List.set_cons_succ]
      refine wpAnyH_take (i := 3) (oi := ⟨some 19, _, _, _, _, _⟩) (v := .pointer (some ⟨b1, o1 + i * 10, none⟩)) rfl (by kernel_rfl) (by kernel_rfl) (by kernel_rfl) (fun _ _ _ h => h) (Or.inl ⟨by kernel_rfl, ?_⟩) (by assumption) ?_
      · intro W hSw; go_simp
      try simp only [Act.put, List.setIfInBounds_toArray, List.set_cons_zero, List.set_cons_succ]
      refine wpAnyH_take (i := 4) (oi := ⟨some 20, _, _, _, _, _⟩) (v := .agg #[.int .i64 k1, .int .i64 n1, .string s1, .slice A1 na1 ca1, .slice B1 nb1 cb1]) rfl (by kernel_rfl) (by kernel_rfl) (by kernel_rfl) (fun _ _ _ h => h) (Or.inl ⟨by kernel_rfl, ?_⟩) (by assumption) ?_
      · intro W hSw; obtain ⟨⟨z0, z1, z2, z3, z4⟩, z5, z6, z7, z8, z9⟩ := HZ1.out W (Below.trans HWR.out (hSw.mono HWR.out.size)); go_simp
      try simp only [Act.put, List.setIfInBounds_toArray, List.set_cons_zero, List.set_cons_succ]
      refine wpAnyH_take (i := 5) (oi := ⟨some 21, _, _, _, _, _⟩) (v := .slice (some ⟨b2, o2, none⟩) n cb) rfl (by kernel_rfl) (by kernel_rfl) (by kernel_rfl) (fun _ _ _ h => h) (Or.inl ⟨by kernel_rfl, ?_⟩) (by assumption) ?_
      · intro W hSw; go_simp
      try simp only [Act.put, List.setIfInBounds_toArray, List.set_cons_zero, List.set_cons_succ]
      refine wpAnyH_take (i := 6) (oi := ⟨some 22, _, _, _, _, _⟩) (v := .int .i64 (i : Int)) rfl (by kernel_rfl) (by kernel_rfl) (by kernel_rfl) (fun _ _ _ h => h) (Or.inl ⟨by kernel_rfl, ?_⟩) (by assumption) ?_
      · intro W hSw; go_simp
      try simp only [Act.put, List.setIfInBounds_toArray, List.set_cons_zero, List.set_cons_succ]
      refine wpAnyH_take (i := 7) (oi := ⟨some 23, _, _, _, _, _⟩) (v := .pointer (some ⟨b2, o2 + i * 10, none⟩)) rfl (by kernel_rfl) (by kernel_rfl) (by kernel_rfl) (fun _ _ _ h => h) (Or.inl ⟨by kernel_rfl, ?_⟩) (by assumption) ?_
      · intro W hSw; go_simp
      try simp only [Act.put, List.setIfInBounds_toArray, List.set_cons_zero, List.set_cons_succ]
      refine wpAnyH_take (i := 8) (oi := ⟨some 24, _, _, _, _, _⟩) (v := .pointer (some ⟨b2, o2 + i * 10, none⟩)) rfl (by kernel_rfl) (by kernel_rfl) (by kernel_rfl) (fun _ _ _ h => h) (Or.inl ⟨by kernel_rfl, ?_⟩) (by assumption) ?_
      · intro W hSw; go_simp
      try simp only [Act.put, List.setIfInBounds_toArray, List.set_cons_zero, List.set_cons_succ]
      refine wpAnyH_take (i := 9) (oi := ⟨some 25, _, _, _, _, _⟩) (v := .agg #[.int .i64 k3, .int .i64 n3, .string s3, .slice A3 na3 ca3, .slice B3 nb3 cb3]) rfl (by kernel_rfl) (by kernel_rfl) (by kernel_rfl) (fun _ _ _ h => h) (Or.inl ⟨by kernel_rfl, ?_⟩) (by assumption) ?_
      · intro W hSw; obtain ⟨⟨z0, z1, z2, z3, z4⟩, z5, z6, z7, z8, z9⟩ := HZ2.out W (Below.trans HWR.out (hSw.mono HWR.out.size)); go_simp
      try simp only [Act.put, List.setIfInBounds_toArray, List.set_cons_zero, List.set_cons_succ]
      refine wpAnyH_ready (rs := [10]) (by kernel_rfl) (by simp) ?_
      refine AllReadyH.cons (o := ⟨some 26, _, _, _, _, _⟩) rfl (fun K hK => ?_) AllReadyH.nil
      go_simp
      refine (HS1.out _ HB2.out).mono ?_
      rintro e w3 ⟨rfl, hb3⟩
      have HB3 := Lib.hid (HB2.out.trans (hb3.mono HB2.out.size))
      clear hb3
      refine hK.out _ _ (by exact HB3.out) (fun hHeld2 => ?_)
      clear hK K hHeld
      have hHeld := hHeld2
      clear hHeld2
      try simp only [Act.put, List.setIfInBounds_toArray, List.set_cons_zero, List.set_cons_succ]
      refine wpAnyH_take (i := 11) (oi := ⟨some 27, _, _, _, _, _⟩) (v := .bool false) rfl (by kernel_rfl) (by kernel_rfl) (by kernel_rfl) (fun _ _ _ h => h) (Or.inl ⟨by kernel_rfl, ?_⟩) (by assumption) ?_
      · intro W hSw; go_simp
      try simp only [Act.put, List.setIfInBounds_toArray, List.set_cons_zero, List.set_cons_succ]
      refine wpAnyH_take (i := 12) (oi := ⟨some 28, _, _, _, _, _⟩) (v := .bool false) rfl (by kernel_rfl) (by kernel_rfl) (by kernel_rfl) (fun _ _ _ h => h) (Or.inl ⟨by kernel_rfl, ?_⟩) (by assumption) ?_
      · intro W hSw; go_simp
      try simp only [Act.put, List.setIfInBounds_toArray, List.set_cons_zero, List.set_cons_succ]
      refine wpAnyH_take (i := 13) (oi := ⟨some 29, _, _, _, _, _⟩) (v := .slice (some ⟨b1, o1, none⟩) n ca) rfl (by kernel_rfl) (by kernel_rfl) (by kernel_rfl) (fun _ _ _ h => h) (Or.inl ⟨by kernel_rfl, ?_⟩) (by assumption) ?_
      · intro W hSw; go_simp
      try simp only [Act.put, List.setIfInBounds_toArray, List.set_cons_zero, List.set_cons_succ]
      refine wpAnyH_take (i := 14) (oi := ⟨some 30, _, _, _, _, _⟩) (v := .int .i64 (i : Int)) rfl (by kernel_rfl) (by kernel_rfl) (by kernel_rfl) (fun _ _ _ h => h) (Or.inl ⟨by kernel_rfl, ?_⟩) (by assumption) ?_
      · intro W hSw; go_simp
      try simp only [Act.put, List.setIfInBounds_toArray, List.set_cons_zero, List.set_cons_succ]
      refine wpAnyH_take (i := 15) (oi := ⟨some 31, _, _, _, _, _⟩) (v := .pointer (some ⟨b1, o1 + i * 10, none⟩)) rfl (by kernel_rfl) (by kernel_rfl) (by kernel_rfl) (fun _ _ _ h => h) (Or.inl ⟨by kernel_rfl, ?_⟩) (by assumption) ?_
      · intro W hSw; go_simp
      try simp only [Act.put, List.setIfInBounds_toArray, List.set_cons_zero, List.set_cons_succ]
      refine wpAnyH_take (i := 16) (oi := ⟨some 32, _, _, _, _, _⟩) (v := .pointer (some ⟨b1, o1 + i * 10 + 5, none⟩)) rfl (by kernel_rfl) (by kernel_rfl) (by kernel_rfl) (fun _ _ _ h => h) (Or.inl ⟨by kernel_rfl, ?_⟩) (by assumption) ?_
      · intro W hSw; go_simp
      try simp only [Act.put, List.setIfInBounds_toArray, List.set_cons_zero, List.set_cons_succ]
      refine wpAnyH_take (i := 17) (oi := ⟨some 33, _, _, _, _, _⟩) (v := .agg #[.int .i64 k2, .int .i64 n2, .string s2, .slice A2 na2 ca2, .slice B2 nb2 cb2]) rfl (by kernel_rfl) (by kernel_rfl) (by kernel_rfl) (fun _ _ _ h => h) (Or.inl ⟨by kernel_rfl, ?_⟩) (by assumption) ?_
      · intro W hSw; obtain ⟨⟨z0, z1, z2, z3, z4⟩, z5, z6, z7, z8, z9⟩ := HZ1.out W (Below.trans HWR.out (hSw.mono HWR.out.size)); go_simp
      try simp only [Act.put, List.setIfInBounds_toArray, List.set_cons_zero, List.set_cons_succ]
      refine wpAnyH_take (i := 18) (oi := ⟨some 34, _, _, _, _, _⟩) (v := .slice (some ⟨b2, o2, none⟩) n cb) rfl (by kernel_rfl) (by kernel_rfl) (by kernel_rfl) (fun _ _ _ h => h) (Or.inl ⟨by kernel_rfl, ?_⟩) (by assumption) ?_
      · intro W hSw; go_simp
      try simp only [Act.put, List.setIfInBounds_toArray, List.set_cons_zero, List.set_cons_succ]
      refine wpAnyH_take (i := 19) (oi := ⟨some 35, _, _, _, _, _⟩) (v := .int .i64 (i : Int)) rfl (by kernel_rfl) (by kernel_rfl) (by kernel_rfl) (fun _ _ _ h => h) (Or.inl ⟨by kernel_rfl, ?_⟩) (by assumption) ?_
      · intro W hSw; go_simp
      try simp only [Act.put, List.setIfInBounds_toArray, List.set_cons_zero, List.set_cons_succ]
      refine wpAnyH_take (i := 20) (oi := ⟨some 36, _, _, _, _, _⟩) (v := .pointer (some ⟨b2, o2 + i * 10, none⟩)) rfl (by kernel_rfl) (by kernel_rfl) (by kernel_rfl) (fun _ _ _ h => h) (Or.inl ⟨by kernel_rfl, ?_⟩) (by assumption) ?_
      · intro W hSw; go_simp
      try simp only [Act.put, List.setIfInBounds_toArray, List.set_cons_zero, List.set_cons_succ]
      refine wpAnyH_take (i := 21) (oi := ⟨some 37, _, _, _, _, _⟩) (v := .pointer (some ⟨b2, o2 + i * 10 + 5, none⟩)) rfl (by kernel_rfl) (by kernel_rfl) (by kernel_rfl) (fun _ _ _ h => h) (Or.inl ⟨by kernel_rfl, ?_⟩) (by assumption) ?_
      · intro W hSw; go_simp
      try simp only [Act.put, List.setIfInBounds_toArray, List.set_cons_zero, List.set_cons_succ]
      refine wpAnyH_take (i := 22) (oi := ⟨some 38, _, _, _, _, _⟩) (v := .agg #[.int .i64 k4, .int .i64 n4, .string s4, .slice A4 na4 ca4, .slice B4 nb4 cb4]) rfl (by kernel_rfl) (by kernel_rfl) (by kernel_rfl) (fun _ _ _ h => h) (Or.inl ⟨by kernel_rfl, ?_⟩) (by assumption) ?_
      · intro W hSw; obtain ⟨⟨z0, z1, z2, z3, z4⟩, z5, z6, z7, z8, z9⟩ := HZ2.out W (Below.trans HWR.out (hSw.mono HWR.out.size)); go_simp
      try simp only [Act.put, List.setIfInBounds_toArray, List.set_cons_zero, List.set_cons_succ]
      refine wpAnyH_ready (rs := [23]) (by kernel_rfl) (by simp) ?_
      refine AllReadyH.cons (o := ⟨some 39, _, _, _, _, _⟩) rfl (fun K hK => ?_) AllReadyH.nil
      go_simp
      refine (HS2.out _ HB3.out).mono ?_
      rintro e w4 ⟨rfl, hb4⟩
      have HB4 := Lib.hid (HB3.out.trans (hb4.mono HB3.out.size))
      clear hb4
      refine hK.out _ _ (by exact HB4.out) (fun hHeld2 => ?_)
      clear hK K hHeld
      have hHeld := hHeld2
      clear hHeld2
      try simp only [Act.put, List.setIfInBounds_toArray, List.set_cons_zero, List.set_cons_succ]
      refine wpAnyH_take (i := 24) (oi := ⟨some 40, _, _, _, _, _⟩) (v := .bool false) rfl (by kernel_rfl) (by kernel_rfl) (by kernel_rfl) (fun _ _ _ h => h) (Or.inl ⟨by kernel_rfl, ?_⟩) (by assumption) ?_
      · intro W hSw; go_simp
      try simp only [Act.put, List.setIfInBounds_toArray, List.set_cons_zero, List.set_cons_succ]
      refine wpAnyH_take (i := 25) (oi := ⟨some 41, _, _, _, _, _⟩) (v := .bool false) rfl (by kernel_rfl) (by kernel_rfl) (by kernel_rfl) (fun _ _ _ h => h) (Or.inl ⟨by kernel_rfl, ?_⟩) (by assumption) ?_
      · intro W hSw; go_simp
      try simp only [Act.put, List.setIfInBounds_toArray, List.set_cons_zero, List.set_cons_succ]
      refine wpAnyH_done (by kernel_rfl) ?_ _
      go_wp2
      go_roundg (n - (i + 1))
      case measure => have := HGK.out; omega
      case rel => exact ⟨i + 1, by omega, rfl, by go_num, Lib.hid (HWR.out.trans (HB4.out.mono HWR.out.size))⟩
    · obtain rfl : i = n := by omega
      go_wp2
      go_ret
      exact ⟨rfl, HWR.out⟩
end Go.Proofs.YtgolomgmnanbpaaGreatDoor
