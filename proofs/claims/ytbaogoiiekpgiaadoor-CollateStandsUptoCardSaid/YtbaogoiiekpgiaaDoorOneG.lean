/- The walks of the reference davenportref04: one, Same, Zero, of any two values. -/
import Derived.Test.YtbaogoiiekpgiaaDoorText4
import Derived.Test.YtbaogoiiekpgiaaDoorParse1
import Derived.Test.YtbaogoiiekpgiaaDoorOrdP
import Derived.Test.YtbaogoiiekpgiaaDoorWithG
namespace Go.Proofs.YtbaogoiiekpgiaaDoor
set_option linter.unusedVariables false
set_option linter.unusedSimpArgs false
open Go.RowKit
attribute [local go_sem] run_index_arr run_part_agg run_part_one run_field_agg

def TwoB (w : World) (t : TypeId) (cs cs' : Array Value) (wr : World) : Prop := Blk wr w.heap.size t cs ∧ Blk wr (w.heap.size + 1) t cs' ∧ Below w.heap.size w wr
theorem TwoB.new (w : World) (t : TypeId) (cs cs' : Array Value) : TwoB w t cs cs' ((w.alloc (.cells cs t)).alloc (.cells cs' t)) := by
  refine ⟨(Blk.new w t cs).alloc _, ?_, ((Below.refl _ w).alloc (Nat.le_refl _) _).alloc (by simp) _⟩
  have := Blk.new (w.alloc (.cells cs t)) t cs'
  rw [World.size_alloc] at this; exact this
theorem TwoB.keep {w wr wx : World} {t : TypeId} {cs cs' : Array Value} (h : TwoB w t cs cs' wr) (hb : Below wr.heap.size wr wx) : TwoB w t cs cs' wx := ⟨h.1.keep hb, h.2.1.keep hb, h.2.2.trans (hb.mono h.2.2.size)⟩
theorem TwoB.drewN {w wr : World} {t : TypeId} {cs cs' : Array Value} (h : TwoB w t cs cs' wr) (k : Nat) : TwoB w t cs cs' (wr.drewN k) := ⟨h.1.drewN k, h.2.1.drewN k, bel_drewN h.2.2 k⟩
theorem TwoB.drew {w wr : World} {t : TypeId} {cs cs' : Array Value} (h : TwoB w t cs cs' wr) : TwoB w t cs cs' wr.drew := ⟨h.1.drew, h.2.1.drew, h.2.2.drew⟩
/-- whether something is so -/
def EqS (p : Prop) (w : World) (e : Ending) (w' : World) : Prop := ∃ t : Bool, e = .returned (.bool t) ∧ (t = true ↔ p) ∧ Below w.heap.size w w'
theorem EqS.no {p : Prop} {w w' : World} (h : ¬ p) (hb : Below w.heap.size w w') : EqS p w (.returned (.bool false)) w' := ⟨false, rfl, by simp [h], hb⟩
theorem EqS.yes {p : Prop} {w w' : World} (h : p) (hb : Below w.heap.size w w') : EqS p w (.returned (.bool true)) w' := ⟨true, rfl, by simp [h], hb⟩
set_option maxRecDepth 100000 in
set_option maxHeartbeats 4000000 in
theorem rOneG : ∀ (N : Nat) (v v' : JV), nodesJ v ≤ N → ∀ (d d' : Nat) (cs cs' : List Value) (F F' : Nat → Prop) (w : World), VR w F cs v → VR w F' cs' v' → goodJ d v = true → goodJ d' v' = true → Came v → Came v' →
    Calls Tryd.prog 60 #[.agg cs.toArray, .agg cs'.toArray] w (EqS (v = v') w)
  | 0, v, _, h, _, _, _, _, _, _, _, _, _, _, _, _, _ => by have := nodesJ_pos v; omega
  | N + 1, .mk k n s kids keys, .mk kq nq sq kidsq keysq, hN, d, d', cs, cs', F, F', w, hv, hv', hR, hR', hC, hC' => by
    have ih := rOneG N
    obtain ⟨hal, hdd, hrk⟩ := goodJ_out hR
    obtain ⟨hal', hdd', hrk'⟩ := goodJ_out hR'
    unfold nodesJ at hN
    obtain ⟨_, _, hsl, hkl, hyl, _, hck⟩ := hC.out
    obtain ⟨_, _, hsl', hkl', hyl', _, hck'⟩ := hC'.out
    obtain ⟨A, B, ca, cb, css, rfl, h1, h2, h3, h4, h5, h6, h7⟩ := hv.out
    obtain ⟨A', B', ca', cb', css', rfl, h1', h2', h3', h4', h5', h6', h7'⟩ := hv'.out
    have HIH := Lib.hid (fun (i : Nat) (x : JV) (hx : kids[i]? = some x) => kid_cellsG h1 h6 hx)
    have HIH' := Lib.hid (fun (i : Nat) (x : JV) (hx : kidsq[i]? = some x) => kid_cellsG h1' h6' hx)
    have HKY := Lib.hid (show RdF w (fun _ => True) B (strV keys) from h7.mono fun _ _ _ => trivial)
    have HKY' := Lib.hid (show RdF w (fun _ => True) B' (strV keysq) from h7'.mono fun _ _ _ => trivial)
    obtain ⟨q1, q2⟩ := keyed hal
    obtain ⟨q1', q2'⟩ := keyed hal'
    have HQ2 := Lib.hid q2
    have HQ2' := Lib.hid q2'
    have HRK := Lib.hid (goodL_iff.1 hrk)
    have HRK' := Lib.hid (goodL_iff.1 hrk')
    have HCK := Lib.hid hck
    have HCK' := Lib.hid hck'
    have HI := Lib.hid ih
    obtain ⟨nk, hnk⟩ : ∃ nk, kids.length = nk := ⟨_, rfl⟩
    obtain ⟨ny, hny⟩ : ∃ ny, keys.length = ny := ⟨_, rfl⟩
    obtain ⟨nkq, hnkq⟩ : ∃ nkq, kidsq.length = nkq := ⟨_, rfl⟩
    obtain ⟨nyq, hnyq⟩ : ∃ nyq, keysq.length = nyq := ⟨_, rfl⟩
    rw [hnk] at h2 hkl q1
    rw [hny] at h3 hyl q1
    rw [hnkq] at h2' hkl' q1'
    rw [hnyq] at h3' hyl' q1'
    have HNK := Lib.hid hnk
    have HNY := Lib.hid hny
    have HNKQ := Lib.hid hnkq
    have HNYQ := Lib.hid hnyq
    rw [hnk, hny, hnkq, hnyq]
    obtain ⟨T, hT⟩ : ∃ T, nodesL kids = T := ⟨_, rfl⟩
    have HT := Lib.hid hT
    rw [hT] at hN
    have HTB := Lib.hid (TwoB.new w 28 #[.int .i64 k, .int .i64 n, .string ⟨s.toArray⟩, .slice A nk ca, .slice B ny cb] #[.int .i64 kq, .int .i64 nq, .string ⟨sq.toArray⟩, .slice A' nkq ca', .slice B' nyq cb'])
    clear hv hv' hal hrk hal' hrk' h1 h1' h4 h4' h5 h5' h6 h6' h7 h7' hnk hny hnkq hnyq hT ih hdd hdd' hR hR' hC hC' hck hck' q2 q2'
    have y1 : w.heap.size ≠ w.heap.size + 1 := by omega
    have y2 : w.heap.size + 1 ≠ w.heap.size := by omega
    by_cases ek : k = kq
    case neg =>
      have HNO := Lib.hid (show ¬ (JV.mk k n s kids keys = JV.mk kq nq sq kidsq keysq) from fun e => by injection e with e _ _ _ _; exact ek e)
      have hb1 : (k == kq) = false := by simp [ek]
      have hb2 : (k != kq) = true := by simp [ek]
      go_enter Tryd.func60, Tryd.ntmps60
      go_wp2
      go_ret
      exact EqS.no HNO.out HTB.out.2.2
    by_cases en : n = nq
    case neg =>
      have HNO := Lib.hid (show ¬ (JV.mk k n s kids keys = JV.mk kq nq sq kidsq keysq) from fun e => by injection e with _ e _ _ _; exact en e)
      have hb1 : (n == nq) = false := by simp [en]
      have hb2 : (n != nq) = true := by simp [en]
      subst ek
      go_enter Tryd.func60, Tryd.ntmps60
      go_wp2
      go_ret
      exact EqS.no HNO.out HTB.out.2.2
    by_cases es : s = sq
    case neg =>
      have HNO := Lib.hid (show ¬ (JV.mk k n s kids keys = JV.mk kq nq sq kidsq keysq) from fun e => by injection e with _ _ e _ _; exact es e)
      have hb1 : (s == sq) = false := by simp [es]
      have hb2 : (s != sq) = true := by simp [es]
      subst ek en
      go_enter Tryd.func60, Tryd.ntmps60
      go_wp2
      go_ret
      exact EqS.no HNO.out HTB.out.2.2
    by_cases el : nk = nkq
    case neg =>
      have HNO := Lib.hid (show ¬ (JV.mk k n s kids keys = JV.mk kq nq sq kidsq keysq) from fun e => by injection e with _ _ _ e _; exact el (by rw [← HNK.out, ← HNKQ.out, e]))
      have hb1 : ((nk : Int) == nkq) = false := by simp; omega
      have hb2 : ((nk : Int) != nkq) = true := by simp; omega
      subst ek en es
      go_enter Tryd.func60, Tryd.ntmps60
      go_wp2
      go_ret
      exact EqS.no HNO.out HTB.out.2.2
    subst ek en es el
    obtain ⟨PP, hPP⟩ : ∃ PP : Prop, (JV.mk k n s kids keys = JV.mk k n s kidsq keysq) = PP := ⟨_, rfl⟩
    rw [hPP]
    have HPN := Lib.hid (show (kids ≠ kidsq ∨ keys ≠ keysq) → ¬ PP by rw [← hPP]; intro h e; injection e with _ _ _ e1 e2; rcases h with h | h; exact h e1; exact h e2)
    have HPY := Lib.hid (show kids = kidsq → keys = keysq → PP by rw [← hPP]; intro h e; rw [h, e])
    clear hPP
    have hcs : (k == 6) = true ∧ nk = ny ∧ nk = nyq ∨ (k == 6) = false ∧ Hid (keys = keysq) := by
      by_cases h : k = 6
      · exact .inl ⟨by simpa using h, (q1 h).symm, (q1' h).symm⟩
      · exact .inr ⟨by simpa using h, Lib.hid (by rw [HQ2.out h, HQ2'.out h])⟩
    clear q1 q1'
    go_enter Tryd.func60, Tryd.ntmps60
    go_wp2
    go_loopg [5] nk (fun gk s5 wr => ∃ i : Nat, i ≤ nk ∧ gk = nk - i ∧ s5 = .int .i64 i ∧ Hid (kids.take i = kidsq.take i ∧ ((k == 6) = true → keys.take i = keysq.take i)) ∧ Hid (TwoB w 28 #[.int .i64 k, .int .i64 n, .string ⟨s.toArray⟩, .slice A nk ca, .slice B ny cb] #[.int .i64 k, .int .i64 n, .string ⟨s.toArray⟩, .slice A' nk ca', .slice B' nyq cb'] wr))
    case atStart => exact ⟨0, Nat.zero_le _, rfl, by go_num, Lib.hid ⟨rfl, fun _ => rfl⟩, HTB⟩
    case round =>
      obtain ⟨i, hi, hgk, rfl, HSM, HB⟩ := hrel
      have HG := Lib.hid hgk
      clear hgk HTB
      obtain ⟨c1, f1, l1⟩ := HB.out.1.rules
      obtain ⟨c2, f2, l2⟩ := HB.out.2.1.rules
      have z0 := c1 0
      have z3 := c1 3
      have z4 := c1 4
      have u3 := c2 3
      have u4 := c2 4
      simp at z0 z3 z4 u3 u4
      by_cases hlt : i < nk
      · obtain ⟨x, hx⟩ : ∃ x, kids[i]? = some x := ⟨_, List.getElem?_eq_getElem (by rw [HNK.out]; exact hlt)⟩
        obtain ⟨y, hy⟩ : ∃ y, kidsq[i]? = some y := ⟨_, List.getElem?_eq_getElem (by rw [HNKQ.out]; exact hlt)⟩
        obtain ⟨b, o, k1, n1, s1, A1, na1, ca1, B1, nb1, cb1, rfl, hb, hvx, hz⟩ := HIH.out i x hx
        obtain ⟨b', o', k2, n2, s2, A2, na2, ca2, B2, nb2, cb2, rfl, hb', hvx', hz'⟩ := HIH'.out i y hy
        obtain ⟨q0, q1, q2, q3, q4⟩ := hz _ HB.out.2.2
        obtain ⟨p0, p1, p2, p3, p4⟩ := hz' _ HB.out.2.2
        obtain ⟨hn1, hn2⟩ := nodesL_at hx
        have hn4 := HT.out
        have hcl := HI.out x y (by omega) (d - 1) (d' - 1) _ _ F F' _ (hvx.bel HB.out.drew.2.2) (hvx'.bel HB.out.drew.2.2) (HRK.out x (List.mem_of_getElem? hx)) (HRK'.out y (List.mem_of_getElem? hy)) (HCK.out x (List.mem_of_getElem? hx)) (HCK'.out y (List.mem_of_getElem? hy))
        have HCL := Lib.hid hcl
        have HZ := Lib.hid hz
        have HZ' := Lib.hid hz'
        have HXY := Lib.hid (show x = y → kids.take (i + 1) = kidsq.take (i + 1) from fun e => by rw [List.take_add_one, List.take_add_one, HSM.out.1, hx, hy, e])
        have HXN := Lib.hid (show x ≠ y → ¬ PP from fun e => HPN.out (.inl fun h => e (by rw [h, hy] at hx; exact (Option.some.inj hx).symm)))
        clear hcl hz hz' hvx hvx' hx hy hn1 hn2 hn4 c1 c2
        rcases hcs with ⟨hk6, rfl, rfl⟩ | ⟨hk6, HKK⟩
        · obtain ⟨t, ht⟩ : ∃ t, keys[i]? = some t := ⟨_, List.getElem?_eq_getElem (by rw [HNY.out]; exact hlt)⟩
          obtain ⟨u, hu⟩ : ∃ u, keysq[i]? = some u := ⟨_, List.getElem?_eq_getElem (by rw [HNYQ.out]; exact hlt)⟩
          obtain ⟨d1, o1, rfl, hd1⟩ := strV_some HKY.out (by rw [HNY.out]; omega)
          obtain ⟨d2, o2, rfl, hd2⟩ := strV_some HKY'.out (by rw [HNYQ.out]; omega)
          have HC1 := Lib.hid (fun W (h : Below w.heap.size w W) => strV_cell (n := 0) (HKY.out.keep (KeepF.of_below h)) ht)
          have HC2 := Lib.hid (fun W (h : Below w.heap.size w W) => strV_cell (n := 0) (HKY'.out.keep (KeepF.of_below h)) hu)
          have x1 := HC1.out _ HB.out.2.2
          have x2 := HC2.out _ HB.out.2.2
          have HTU := Lib.hid (show t = u → keys.take (i + 1) = keysq.take (i + 1) from fun e => by rw [List.take_add_one, List.take_add_one, HSM.out.2 hk6, ht, hu, e])
          have HTN := Lib.hid (show t ≠ u → ¬ PP from fun e => HPN.out (.inr fun h => e (by rw [h, hu] at ht; exact (Option.some.inj ht).symm)))
          clear ht hu
          by_cases htu : t = u
          · subst htu
            have HKN := Lib.hid (HTU.out rfl)
            clear HTU HTN
            go_wp2
            go_region_held3 (fun w' => w'.cell? ⟨w.heap.size, 0, none⟩ = some (.int .i64 k) ∧ w'.cell? ⟨w.heap.size, 3, none⟩ = some (.slice (some ⟨b, o, none⟩) nk ca) ∧ w'.cell? ⟨w.heap.size, 4, none⟩ = some (.slice (some ⟨d1, o1, none⟩) nk cb) ∧ w'.cell? ⟨w.heap.size + 1, 3, none⟩ = some (.slice (some ⟨b', o', none⟩) nk ca') ∧ w'.cell? ⟨w.heap.size + 1, 4, none⟩ = some (.slice (some ⟨d2, o2, none⟩) nk cb') ∧
            w'.cell? ⟨d1, o1 + i, none⟩ = some (.string ⟨t.toArray⟩) ∧ w'.cell? ⟨d2, o2 + i, none⟩ = some (.string ⟨t.toArray⟩) ∧
            w'.cell? ⟨b, o + i * 5, none⟩ = some (.int .i64 k1) ∧ w'.cell? ⟨b, o + i * 5 + 1, none⟩ = some (.int .i64 n1) ∧ w'.cell? ⟨b, o + i * 5 + 2, none⟩ = some (.string s1) ∧ w'.cell? ⟨b, o + i * 5 + 3, none⟩ = some (.slice A1 na1 ca1) ∧ w'.cell? ⟨b, o + i * 5 + 4, none⟩ = some (.slice B1 nb1 cb1) ∧
            w'.cell? ⟨b', o' + i * 5, none⟩ = some (.int .i64 k2) ∧ w'.cell? ⟨b', o' + i * 5 + 1, none⟩ = some (.int .i64 n2) ∧ w'.cell? ⟨b', o' + i * 5 + 2, none⟩ = some (.string s2) ∧ w'.cell? ⟨b', o' + i * 5 + 3, none⟩ = some (.slice A2 na2 ca2) ∧ w'.cell? ⟨b', o' + i * 5 + 4, none⟩ = some (.slice B2 nb2 cb2)) (go_keep)
              ((go_at_call 60; refine HCL.out.mono ?_; rintro e w2 ⟨tt, rfl, htt, hb2⟩; have hB2 := HB.out.drew.keep hb2; have e0 := hB2.1.cell 0; have e3 := hB2.1.cell 3; have e4 := hB2.1.cell 4; have r3 := hB2.2.1.cell 3; have r4 := hB2.2.1.cell 4; simp at e0 e3 e4 r3 r4; have x3 := HC1.out _ hB2.2.2; have x4 := HC2.out _ hB2.2.2; obtain ⟨v0, v1, v2, v3, v4⟩ := HZ.out _ hB2.2.2; obtain ⟨t0, t1, t2, t3, t4⟩ := HZ'.out _ hB2.2.2))
            have HB2 := Lib.hid hB2
            have HTT := Lib.hid htt
            clear hB2 hb2 htt
            cases tt with
            | true =>
              go_wp2
              go_roundg (nk - (i + 1))
              case measure => rw [HG.out]; omega
              case rel => exact ⟨i + 1, hlt, rfl, by go_num, Lib.hid ⟨HXY.out (HTT.out.1 (by trivial)), fun _ => HKN.out⟩, HB2⟩
            | false =>
              have HF := Lib.hid (HXN.out (fun e => by have := HTT.out.2 e; cases this))
              go_wp2
              go_ret
              exact EqS.no HF.out HB2.out.2.2
          · have HF := Lib.hid (HTN.out htu)
            have hb1 : (t == u) = false := by simp [htu]
            have hb2 : (t != u) = true := by simp [htu]
            clear HTU HTN HKY HKY' HIH HIH' HCL HI
            go_wp2
            go_quiet (fail)
            go_wp2
            go_ret
            exact EqS.no HF.out (HB.out.drewN nq).2.2
        · go_wp2
          refine wp_region_held_drew (S := fun w' => w'.cell? ⟨w.heap.size, 0, none⟩ = some (.int .i64 k) ∧ w'.cell? ⟨w.heap.size, 3, none⟩ = some (.slice (some ⟨b, o, none⟩) nk ca) ∧ w'.cell? ⟨w.heap.size + 1, 3, none⟩ = some (.slice (some ⟨b', o', none⟩) nk ca') ∧
                      w'.cell? ⟨b, o + i * 5, none⟩ = some (.int .i64 k1) ∧ w'.cell? ⟨b, o + i * 5 + 1, none⟩ = some (.int .i64 n1) ∧ w'.cell? ⟨b, o + i * 5 + 2, none⟩ = some (.string s1) ∧ w'.cell? ⟨b, o + i * 5 + 3, none⟩ = some (.slice A1 na1 ca1) ∧ w'.cell? ⟨b, o + i * 5 + 4, none⟩ = some (.slice B1 nb1 cb1) ∧
                      w'.cell? ⟨b', o' + i * 5, none⟩ = some (.int .i64 k2) ∧ w'.cell? ⟨b', o' + i * 5 + 1, none⟩ = some (.int .i64 n2) ∧ w'.cell? ⟨b', o' + i * 5 + 2, none⟩ = some (.string s2) ∧ w'.cell? ⟨b', o' + i * 5 + 3, none⟩ = some (.slice A2 na2 ca2) ∧ w'.cell? ⟨b', o' + i * 5 + 4, none⟩ = some (.slice B2 nb2 cb2)) (by kernel_rfl) (by exact ⟨z0, z3, u3, q0, q1, q2, q3, q4, p0, p1, p2, p3, p4⟩) (fun hHeld => ?_)
          refine wpAnyH_take (i := 0) (oi := ⟨some 41, _, _, _, _, _⟩) (v := .pointer (some ⟨w.heap.size, 0, none⟩)) rfl (by kernel_rfl) (by kernel_rfl) (by kernel_rfl) (fun _ _ _ h => h) (Or.inl ⟨by kernel_rfl, ?_⟩) (by assumption) ?_
          · intro w hSw; (try dsimp only at hSw); go_simp
          try simp only [Act.put, List.setIfInBounds_toArray, List.set_cons_zero, List.set_cons_succ]
          refine wpAnyH_take (i := 1) (oi := ⟨some 42, _, _, _, _, _⟩) (v := .int .i64 k) rfl (by kernel_rfl) (by kernel_rfl) (by kernel_rfl) (fun _ _ _ h => h) (Or.inl ⟨by kernel_rfl, ?_⟩) (by assumption) ?_
          · intro w hSw; (try dsimp only at hSw); go_simp
          try simp only [Act.put, List.setIfInBounds_toArray, List.set_cons_zero, List.set_cons_succ]
          refine wpAnyH_take (i := 2) (oi := ⟨some 43, _, _, _, _, _⟩) (v := .bool false) rfl (by kernel_rfl) (by kernel_rfl) (by kernel_rfl) (fun _ _ _ h => h) (Or.inl ⟨by kernel_rfl, ?_⟩) (by assumption) ?_
          · intro w hSw; (try dsimp only at hSw); go_simp
          try simp only [Act.put, List.setIfInBounds_toArray, List.set_cons_zero, List.set_cons_succ]
          refine wpAnyH_take (i := 3) (oi := ⟨some 44, _, _, _, _, _⟩) (v := .bool false) rfl (by kernel_rfl) (by kernel_rfl) (by kernel_rfl) (fun _ _ _ h => h) (Or.inl ⟨by kernel_rfl, ?_⟩) (by assumption) ?_
          · intro w hSw; (try dsimp only at hSw); go_simp
          try simp only [Act.put, List.setIfInBounds_toArray, List.set_cons_zero, List.set_cons_succ]
          refine wpAnyH_take (i := 4) (oi := ⟨some 45, _, _, _, _, _⟩) (v := undef) rfl (by kernel_rfl) (by kernel_rfl) (by kernel_rfl) (fun _ _ _ h => h) (Or.inr ⟨by kernel_rfl, rfl⟩) (by assumption) ?_
          try simp only [Act.put, List.setIfInBounds_toArray, List.set_cons_zero, List.set_cons_succ]
          refine wpAnyH_take (i := 5) (oi := ⟨some 46, _, _, _, _, _⟩) (v := undef) rfl (by kernel_rfl) (by kernel_rfl) (by kernel_rfl) (fun _ _ _ h => h) (Or.inr ⟨by kernel_rfl, rfl⟩) (by assumption) ?_
          try simp only [Act.put, List.setIfInBounds_toArray, List.set_cons_zero, List.set_cons_succ]
          refine wpAnyH_take (i := 6) (oi := ⟨some 47, _, _, _, _, _⟩) (v := undef) rfl (by kernel_rfl) (by kernel_rfl) (by kernel_rfl) (fun _ _ _ h => h) (Or.inr ⟨by kernel_rfl, rfl⟩) (by assumption) ?_
          try simp only [Act.put, List.setIfInBounds_toArray, List.set_cons_zero, List.set_cons_succ]
          refine wpAnyH_take (i := 7) (oi := ⟨some 48, _, _, _, _, _⟩) (v := undef) rfl (by kernel_rfl) (by kernel_rfl) (by kernel_rfl) (fun _ _ _ h => h) (Or.inr ⟨by kernel_rfl, rfl⟩) (by assumption) ?_
          try simp only [Act.put, List.setIfInBounds_toArray, List.set_cons_zero, List.set_cons_succ]
          refine wpAnyH_take (i := 8) (oi := ⟨some 49, _, _, _, _, _⟩) (v := undef) rfl (by kernel_rfl) (by kernel_rfl) (by kernel_rfl) (fun _ _ _ h => h) (Or.inr ⟨by kernel_rfl, rfl⟩) (by assumption) ?_
          try simp only [Act.put, List.setIfInBounds_toArray, List.set_cons_zero, List.set_cons_succ]
          refine wpAnyH_take (i := 9) (oi := ⟨some 50, _, _, _, _, _⟩) (v := undef) rfl (by kernel_rfl) (by kernel_rfl) (by kernel_rfl) (fun _ _ _ h => h) (Or.inr ⟨by kernel_rfl, rfl⟩) (by assumption) ?_
          try simp only [Act.put, List.setIfInBounds_toArray, List.set_cons_zero, List.set_cons_succ]
          refine wpAnyH_take (i := 10) (oi := ⟨some 51, _, _, _, _, _⟩) (v := undef) rfl (by kernel_rfl) (by kernel_rfl) (by kernel_rfl) (fun _ _ _ h => h) (Or.inr ⟨by kernel_rfl, rfl⟩) (by assumption) ?_
          try simp only [Act.put, List.setIfInBounds_toArray, List.set_cons_zero, List.set_cons_succ]
          refine wpAnyH_take (i := 11) (oi := ⟨some 52, _, _, _, _, _⟩) (v := undef) rfl (by kernel_rfl) (by kernel_rfl) (by kernel_rfl) (fun _ _ _ h => h) (Or.inr ⟨by kernel_rfl, rfl⟩) (by assumption) ?_
          try simp only [Act.put, List.setIfInBounds_toArray, List.set_cons_zero, List.set_cons_succ]
          refine wpAnyH_take (i := 12) (oi := ⟨some 53, _, _, _, _, _⟩) (v := undef) rfl (by kernel_rfl) (by kernel_rfl) (by kernel_rfl) (fun _ _ _ h => h) (Or.inr ⟨by kernel_rfl, rfl⟩) (by assumption) ?_
          try simp only [Act.put, List.setIfInBounds_toArray, List.set_cons_zero, List.set_cons_succ]
          refine wpAnyH_take (i := 13) (oi := ⟨some 54, _, _, _, _, _⟩) (v := undef) rfl (by kernel_rfl) (by kernel_rfl) (by kernel_rfl) (fun _ _ _ h => h) (Or.inr ⟨by kernel_rfl, rfl⟩) (by assumption) ?_
          try simp only [Act.put, List.setIfInBounds_toArray, List.set_cons_zero, List.set_cons_succ]
          refine wpAnyH_take (i := 14) (oi := ⟨some 55, _, _, _, _, _⟩) (v := undef) rfl (by kernel_rfl) (by kernel_rfl) (by kernel_rfl) (fun _ _ _ h => h) (Or.inr ⟨by kernel_rfl, rfl⟩) (by assumption) ?_
          try simp only [Act.put, List.setIfInBounds_toArray, List.set_cons_zero, List.set_cons_succ]
          refine wpAnyH_take (i := 15) (oi := ⟨some 56, _, _, _, _, _⟩) (v := .bool false) rfl (by kernel_rfl) (by kernel_rfl) (by kernel_rfl) (fun _ _ _ h => h) (Or.inl ⟨by kernel_rfl, ?_⟩) (by assumption) ?_
          · intro w hSw; (try dsimp only at hSw); go_simp
          try simp only [Act.put, List.setIfInBounds_toArray, List.set_cons_zero, List.set_cons_succ]
          refine wpAnyH_take (i := 16) (oi := ⟨some 57, _, _, _, _, _⟩) (v := .bool false) rfl (by kernel_rfl) (by kernel_rfl) (by kernel_rfl) (fun _ _ _ h => h) (Or.inl ⟨by kernel_rfl, ?_⟩) (by assumption) ?_
          · intro w hSw; (try dsimp only at hSw); go_simp
          try simp only [Act.put, List.setIfInBounds_toArray, List.set_cons_zero, List.set_cons_succ]
          refine wpAnyH_take (i := 17) (oi := ⟨some 58, _, _, _, _, _⟩) (v := .pointer (some ⟨w.heap.size, 3, none⟩)) rfl (by kernel_rfl) (by kernel_rfl) (by kernel_rfl) (fun _ _ _ h => h) (Or.inl ⟨by kernel_rfl, ?_⟩) (by assumption) ?_
          · intro w hSw; (try dsimp only at hSw); go_simp
          try simp only [Act.put, List.setIfInBounds_toArray, List.set_cons_zero, List.set_cons_succ]
          refine wpAnyH_take (i := 18) (oi := ⟨some 59, _, _, _, _, _⟩) (v := .slice (some ⟨b, o, none⟩) nk ca) rfl (by kernel_rfl) (by kernel_rfl) (by kernel_rfl) (fun _ _ _ h => h) (Or.inl ⟨by kernel_rfl, ?_⟩) (by assumption) ?_
          · intro w hSw; (try dsimp only at hSw); go_simp
          try simp only [Act.put, List.setIfInBounds_toArray, List.set_cons_zero, List.set_cons_succ]
          refine wpAnyH_take (i := 19) (oi := ⟨some 60, _, _, _, _, _⟩) (v := .int .i64 i) rfl (by kernel_rfl) (by kernel_rfl) (by kernel_rfl) (fun _ _ _ h => h) (Or.inl ⟨by kernel_rfl, ?_⟩) (by assumption) ?_
          · intro w hSw; (try dsimp only at hSw); go_simp
          try simp only [Act.put, List.setIfInBounds_toArray, List.set_cons_zero, List.set_cons_succ]
          refine wpAnyH_take (i := 20) (oi := ⟨some 61, _, _, _, _, _⟩) (v := .pointer (some ⟨b, o + i * 5, none⟩)) rfl (by kernel_rfl) (by kernel_rfl) (by kernel_rfl) (fun _ _ _ h => h) (Or.inl ⟨by kernel_rfl, ?_⟩) (by assumption) ?_
          · intro w hSw; (try dsimp only at hSw); go_simp
          try simp only [Act.put, List.setIfInBounds_toArray, List.set_cons_zero, List.set_cons_succ]
          refine wpAnyH_take (i := 21) (oi := ⟨some 62, _, _, _, _, _⟩) (v := .agg #[.int .i64 k1, .int .i64 n1, .string s1, .slice A1 na1 ca1, .slice B1 nb1 cb1]) rfl (by kernel_rfl) (by kernel_rfl) (by kernel_rfl) (fun _ _ _ h => h) (Or.inl ⟨by kernel_rfl, ?_⟩) (by assumption) ?_
          · intro w hSw; (try dsimp only at hSw); go_simp
          try simp only [Act.put, List.setIfInBounds_toArray, List.set_cons_zero, List.set_cons_succ]
          refine wpAnyH_take (i := 22) (oi := ⟨some 63, _, _, _, _, _⟩) (v := .pointer (some ⟨w.heap.size + 1, 3, none⟩)) rfl (by kernel_rfl) (by kernel_rfl) (by kernel_rfl) (fun _ _ _ h => h) (Or.inl ⟨by kernel_rfl, ?_⟩) (by assumption) ?_
          · intro w hSw; (try dsimp only at hSw); go_simp
          try simp only [Act.put, List.setIfInBounds_toArray, List.set_cons_zero, List.set_cons_succ]
          refine wpAnyH_take (i := 23) (oi := ⟨some 64, _, _, _, _, _⟩) (v := .slice (some ⟨b', o', none⟩) nk ca') rfl (by kernel_rfl) (by kernel_rfl) (by kernel_rfl) (fun _ _ _ h => h) (Or.inl ⟨by kernel_rfl, ?_⟩) (by assumption) ?_
          · intro w hSw; (try dsimp only at hSw); go_simp
          try simp only [Act.put, List.setIfInBounds_toArray, List.set_cons_zero, List.set_cons_succ]
          refine wpAnyH_take (i := 24) (oi := ⟨some 65, _, _, _, _, _⟩) (v := .int .i64 i) rfl (by kernel_rfl) (by kernel_rfl) (by kernel_rfl) (fun _ _ _ h => h) (Or.inl ⟨by kernel_rfl, ?_⟩) (by assumption) ?_
          · intro w hSw; (try dsimp only at hSw); go_simp
          try simp only [Act.put, List.setIfInBounds_toArray, List.set_cons_zero, List.set_cons_succ]
          refine wpAnyH_take (i := 25) (oi := ⟨some 66, _, _, _, _, _⟩) (v := .pointer (some ⟨b', o' + i * 5, none⟩)) rfl (by kernel_rfl) (by kernel_rfl) (by kernel_rfl) (fun _ _ _ h => h) (Or.inl ⟨by kernel_rfl, ?_⟩) (by assumption) ?_
          · intro w hSw; (try dsimp only at hSw); go_simp
          try simp only [Act.put, List.setIfInBounds_toArray, List.set_cons_zero, List.set_cons_succ]
          refine wpAnyH_take (i := 26) (oi := ⟨some 67, _, _, _, _, _⟩) (v := .agg #[.int .i64 k2, .int .i64 n2, .string s2, .slice A2 na2 ca2, .slice B2 nb2 cb2]) rfl (by kernel_rfl) (by kernel_rfl) (by kernel_rfl) (fun _ _ _ h => h) (Or.inl ⟨by kernel_rfl, ?_⟩) (by assumption) ?_
          · intro w hSw; (try dsimp only at hSw); go_simp
          try simp only [Act.put, List.setIfInBounds_toArray, List.set_cons_zero, List.set_cons_succ]
          refine wpAnyH_ready (rs := [27]) (by kernel_rfl) (by simp) ?_
          refine AllReadyH.cons (o := ⟨some 68, _, _, _, _, _⟩) rfl (fun K hK => ?_) AllReadyH.nil
          go_simp
          refine HCL.out.mono ?_
          rintro e w2 ⟨tt, rfl, htt, hb2⟩
          have hB2 := HB.out.drew.keep hb2
          have e0 := hB2.1.cell 0
          have e3 := hB2.1.cell 3
          have r3 := hB2.2.1.cell 3
          simp at e0 e3 r3
          obtain ⟨v0, v1, v2, v3, v4⟩ := HZ.out _ hB2.2.2
          obtain ⟨t0, t1, t2, t3, t4⟩ := HZ'.out _ hB2.2.2
          refine hK.out _ _ (⟨e0, e3, r3, v0, v1, v2, v3, v4, t0, t1, t2, t3, t4⟩) (fun hHeld2 => ?_)
          clear hK K hHeld
          try simp only [Act.put, List.setIfInBounds_toArray, List.set_cons_zero, List.set_cons_succ]
          refine wpAnyH_take (i := 28) (oi := ⟨some 69, _, _, _, _, _⟩) (v := .bool (!tt)) rfl (by kernel_rfl) (by kernel_rfl) (by kernel_rfl) (fun _ _ _ h => h) (Or.inl ⟨by kernel_rfl, ?_⟩) (by assumption) ?_
          · intro w hSw; (try dsimp only at hSw); go_simp
          try simp only [Act.put, List.setIfInBounds_toArray, List.set_cons_zero, List.set_cons_succ]
          refine wpAnyH_take (i := 29) (oi := ⟨some 70, _, _, _, _, _⟩) (v := .bool (!tt)) rfl (by kernel_rfl) (by kernel_rfl) (by kernel_rfl) (fun _ _ _ h => h) (Or.inl ⟨by kernel_rfl, ?_⟩) (by assumption) ?_
          · intro w hSw; (try dsimp only at hSw); go_simp
          try simp only [Act.put, List.setIfInBounds_toArray, List.set_cons_zero, List.set_cons_succ]
          refine wpAnyH_done (by kernel_rfl) ?_ _
          have HB2 := Lib.hid hB2
          have HTT := Lib.hid htt
          clear hB2 hb2 htt
          cases tt with
          | true =>
            go_wp2
            go_roundg (nk - (i + 1))
            case measure => rw [HG.out]; omega
            case rel => exact ⟨i + 1, hlt, rfl, by go_num, Lib.hid ⟨HXY.out (HTT.out.1 (by trivial)), fun e => absurd (hk6.symm.trans e) (by decide)⟩, HB2⟩
          | false =>
            have HF := Lib.hid (HXN.out (fun e => by have := HTT.out.2 e; cases this))
            go_wp2
            go_ret
            exact EqS.no HF.out HB2.out.2.2
      · obtain rfl : i = nk := by omega
        have HF := Lib.hid (show PP by
          have e1 := HSM.out.1
          rw [List.take_of_length_le (Nat.le_of_eq HNK.out), List.take_of_length_le (Nat.le_of_eq HNKQ.out)] at e1
          refine HPY.out e1 ?_
          rcases hcs with ⟨h6, h7, h8⟩ | ⟨_, h⟩
          · have e2 := HSM.out.2 h6
            rwa [List.take_of_length_le (Nat.le_of_eq (HNY.out.trans h7.symm)), List.take_of_length_le (Nat.le_of_eq (HNYQ.out.trans h8.symm))] at e2
          · exact h.out)
        clear hcs
        go_wp2
        go_ret
        exact EqS.yes HF.out HB.out.2.2
set_option maxRecDepth 100000 in
set_option maxHeartbeats 4000000 in
theorem rSameG (v v' : JV) (cs cs' : List Value) (F F' : Nat → Prop) (w : World) (hv : VR w F cs v) (hv' : VR w F' cs' v') (hC : Came v) (hC' : Came v') :
    Calls Tryd.prog 30 #[.agg cs.toArray, .agg cs'.toArray] w (EqS (good v = true ∧ good v' = true ∧ v = v') w) := by
  have H1 := Lib.hid (fun W (h : Below w.heap.size w W) => rRightG v cs F W (hv.bel h) hC)
  have H2 := Lib.hid (fun W (h : Below w.heap.size w W) => rRightG v' cs' F' W (hv'.bel h) hC')
  have H3 := Lib.hid (fun W (h : Below w.heap.size w W) (g : good v = true) (g' : good v' = true) => rOneG _ v v' (Nat.le_refl _) 8 8 cs cs' F F' W (hv.bel h) (hv'.bel h) (by unfold good at g; rw [Bool.and_eq_true] at g; exact g.1) (by unfold good at g'; rw [Bool.and_eq_true] at g'; exact g'.1) hC hC')
  obtain ⟨k0, n0, s0, A0, na0, ca0, B0, nb0, cb0, rfl⟩ := hv.form
  obtain ⟨k1, n1, s1, A1, na1, ca1, B1, nb1, cb1, rfl⟩ := hv'.form
  have HB := Lib.hid (TwoB.new w 28 #[.int .i64 k0, .int .i64 n0, .string s0, .slice A0 na0 ca0, .slice B0 nb0 cb0] #[.int .i64 k1, .int .i64 n1, .string s1, .slice A1 na1 ca1, .slice B1 nb1 cb1])
  clear hv hv' hC hC'
  obtain ⟨g, hg⟩ : ∃ g, good v = g := ⟨_, rfl⟩
  obtain ⟨g', hg'⟩ : ∃ g', good v' = g' := ⟨_, rfl⟩
  rw [hg] at H1 H3 ⊢
  rw [hg'] at H2 H3 ⊢
  clear hg hg'
  cases g with
  | false =>
    go_enter Tryd.func30, Tryd.ntmps30
    go_wp2_with fail
    refine (H1.out _ HB.out.2.2).mono ?_
    rintro e w1 ⟨rfl, hb1⟩
    have HB1 := Lib.hid (HB.out.keep hb1)
    clear hb1
    go_wp2
    go_ret
    exact EqS.no (fun e => by cases e.1) HB1.out.2.2
  | true =>
  cases g' with
  | false =>
    go_enter Tryd.func30, Tryd.ntmps30
    go_wp2_with fail
    refine (H1.out _ HB.out.2.2).mono ?_
    rintro e w1 ⟨rfl, hb1⟩
    have HB1 := Lib.hid (HB.out.keep hb1)
    clear hb1
    obtain ⟨c1, f1, l1⟩ := HB1.out.1.rules
    obtain ⟨c2, f2, l2⟩ := HB1.out.2.1.rules
    go_wp2_with fail
    refine (H2.out _ HB1.out.2.2).mono ?_
    rintro e w2 ⟨rfl, hb2⟩
    have HB2 := Lib.hid (HB1.out.keep hb2)
    clear hb2
    go_wp2
    go_ret
    exact EqS.no (fun e => by cases e.2.1) HB2.out.2.2
  | true =>
    go_enter Tryd.func30, Tryd.ntmps30
    go_wp2_with fail
    refine (H1.out _ HB.out.2.2).mono ?_
    rintro e w1 ⟨rfl, hb1⟩
    have HB1 := Lib.hid (HB.out.keep hb1)
    clear hb1
    obtain ⟨c1, f1, l1⟩ := HB1.out.1.rules
    obtain ⟨c2, f2, l2⟩ := HB1.out.2.1.rules
    go_wp2_with fail
    refine (H2.out _ HB1.out.2.2).mono ?_
    rintro e w2 ⟨rfl, hb2⟩
    have HB2 := Lib.hid (HB1.out.keep hb2)
    clear hb2 c1 f1 l1 c2 f2 l2
    obtain ⟨c1, f1, l1⟩ := HB2.out.1.rules
    obtain ⟨c2, f2, l2⟩ := HB2.out.2.1.rules
    go_wp2_with fail
    refine (H3.out _ HB2.out.2.2 (by trivial) (by trivial)).mono ?_
    rintro e w3 ⟨tt, rfl, htt, hb3⟩
    have HB3 := Lib.hid (HB2.out.keep hb3)
    have HTT := Lib.hid htt
    clear hb3 htt
    go_wp2
    go_ret
    exact ⟨tt, rfl, by rw [HTT.out]; simp, HB3.out.2.2⟩
end Go.Proofs.YtbaogoiiekpgiaaDoor
