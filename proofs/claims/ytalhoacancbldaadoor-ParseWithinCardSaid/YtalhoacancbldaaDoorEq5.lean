/- The walks of package value: right, Check, Depth, Nodes, equal, Same, of values that may be. -/
import Derived.Test.YtalhoacancbldaaDoorMeas5
namespace Go.Proofs.YtalhoacancbldaaDoor
set_option linter.unusedVariables false
set_option linter.unusedSimpArgs false
open Go.RowKit
attribute [local go_sem] run_index_arr run_part_agg run_part_one run_field_agg

set_option maxRecDepth 100000 in
set_option maxHeartbeats 4000000 in
theorem vRight_any (v0 : JV) (cs : List Value) (F : Nat → Prop) (w : World) (hG : GOK w) (hv : VR w F cs v0) (hR : rightJ 8 v0) (hn : nodesJ v0 ≤ 256) : Calls Tryd.prog 63 #[.agg cs.toArray] w (TrueS w) := by
  have HM := Lib.hid (fun W (h : Below w.heap.size w W) => measure_any v0 cs F W (hG.keep h) (hv.bel h) hR hn)
  obtain ⟨k0, n0, s0, A0, na0, ca0, B0, nb0, cb0, rfl⟩ := hv.form
  have HB := Lib.hid ((Below.refl w.heap.size w).alloc (Nat.le_refl _) (.cells #[.int .i64 k0, .int .i64 n0, .string s0, .slice A0 na0 ca0, .slice B0 nb0 cb0] 40))
  clear hG hv hR hn
  go_enter Tryd.func63, Tryd.ntmps63
  go_wp2_with fail
  refine (HM.out _ HB.out).mono ?_
  rintro e w1 ⟨rfl, hb1⟩
  have HB1 := Lib.hid (HB.out.trans (hb1.mono HB.out.size))
  clear hb1
  go_wp2
  go_ret
  exact ⟨rfl, HB1.out⟩
set_option maxRecDepth 100000 in
set_option maxHeartbeats 4000000 in
theorem vCheck_any (v0 : JV) (cs : List Value) (F : Nat → Prop) (w : World) (hG : GOK w) (hv : VR w F cs v0) (hR : rightJ 8 v0) (hn : nodesJ v0 ≤ 256) : Calls Tryd.prog 35 #[.agg cs.toArray] w fun e w' => e = .returned (.int .i64 0) ∧ Below w.heap.size w w' := by
  have HM := Lib.hid (fun W (h : Below w.heap.size w W) => vRight_any v0 cs F W (hG.keep h) (hv.bel h) hR hn)
  obtain ⟨k0, n0, s0, A0, na0, ca0, B0, nb0, cb0, rfl⟩ := hv.form
  have HB := Lib.hid ((Below.refl w.heap.size w).alloc (Nat.le_refl _) (.cells #[.int .i64 k0, .int .i64 n0, .string s0, .slice A0 na0 ca0, .slice B0 nb0 cb0] 40))
  clear hG hv hR hn
  go_enter Tryd.func35, Tryd.ntmps35
  go_wp2_with fail
  refine (HM.out _ HB.out).mono ?_
  rintro e w1 ⟨rfl, hb1⟩
  have HB1 := Lib.hid (HB.out.trans (hb1.mono HB.out.size))
  clear hb1
  go_wp2
  go_ret
  exact ⟨rfl, HB1.out⟩
set_option maxRecDepth 100000 in
set_option maxHeartbeats 4000000 in
theorem vDepth_any (v0 : JV) (cs : List Value) (F : Nat → Prop) (w : World) (hG : GOK w) (hv : VR w F cs v0) (hR : rightJ 8 v0) (hn : nodesJ v0 ≤ 256) : Calls Tryd.prog 38 #[.agg cs.toArray] w fun e w' => e = .returned (.int .i64 (dpt (flatJ 0 v0))) ∧ Below w.heap.size w w' := by
  have HM := Lib.hid (fun W (h : Below w.heap.size w W) => measure_any v0 cs F W (hG.keep h) (hv.bel h) hR hn)
  obtain ⟨k0, n0, s0, A0, na0, ca0, B0, nb0, cb0, rfl⟩ := hv.form
  have HB := Lib.hid ((Below.refl w.heap.size w).alloc (Nat.le_refl _) (.cells #[.int .i64 k0, .int .i64 n0, .string s0, .slice A0 na0 ca0, .slice B0 nb0 cb0] 40))
  clear hG hv hR hn
  go_enter Tryd.func38, Tryd.ntmps38
  go_wp2_with fail
  refine (HM.out _ HB.out).mono ?_
  rintro e w1 ⟨rfl, hb1⟩
  have HB1 := Lib.hid (HB.out.trans (hb1.mono HB.out.size))
  clear hb1
  go_wp2
  go_ret
  exact ⟨rfl, HB1.out⟩
set_option maxRecDepth 100000 in
set_option maxHeartbeats 4000000 in
theorem vNodes_any (v0 : JV) (cs : List Value) (F : Nat → Prop) (w : World) (hG : GOK w) (hv : VR w F cs v0) (hR : rightJ 8 v0) (hn : nodesJ v0 ≤ 256) : Calls Tryd.prog 39 #[.agg cs.toArray] w fun e w' => e = .returned (.int .i64 (nodesJ v0)) ∧ Below w.heap.size w w' := by
  have HM := Lib.hid (fun W (h : Below w.heap.size w W) => measure_any v0 cs F W (hG.keep h) (hv.bel h) hR hn)
  obtain ⟨k0, n0, s0, A0, na0, ca0, B0, nb0, cb0, rfl⟩ := hv.form
  have HB := Lib.hid ((Below.refl w.heap.size w).alloc (Nat.le_refl _) (.cells #[.int .i64 k0, .int .i64 n0, .string s0, .slice A0 na0 ca0, .slice B0 nb0 cb0] 40))
  clear hG hv hR hn
  go_enter Tryd.func39, Tryd.ntmps39
  go_wp2_with fail
  refine (HM.out _ HB.out).mono ?_
  rintro e w1 ⟨rfl, hb1⟩
  have HB1 := Lib.hid (HB.out.trans (hb1.mono HB.out.size))
  clear hb1
  go_wp2
  go_ret
  exact ⟨rfl, HB1.out⟩
def TwoS (w : World) (t : TypeId) (cs cs' : Array Value) (wr : World) : Prop := Blk wr w.heap.size t cs ∧ Blk wr (w.heap.size + 1) t cs' ∧ Below w.heap.size w wr
theorem TwoS.new (w : World) (t : TypeId) (cs cs' : Array Value) : TwoS w t cs cs' ((w.alloc (.cells cs t)).alloc (.cells cs' t)) := by
  refine ⟨(Blk.new w t cs).alloc _, ?_, ((Below.refl _ w).alloc (Nat.le_refl _) _).alloc (by simp) _⟩
  have := Blk.new (w.alloc (.cells cs t)) t cs'
  rw [World.size_alloc] at this; exact this
theorem TwoS.keep {w wr wx : World} {t : TypeId} {cs cs' : Array Value} (h : TwoS w t cs cs' wr) (hb : Below wr.heap.size wr wx) : TwoS w t cs cs' wx := ⟨h.1.keep hb, h.2.1.keep hb, h.2.2.trans (hb.mono h.2.2.size)⟩
theorem TwoS.drewN {w wr : World} {t : TypeId} {cs cs' : Array Value} (h : TwoS w t cs cs' wr) (k : Nat) : TwoS w t cs cs' (wr.drewN k) := ⟨h.1.drewN k, h.2.1.drewN k, bel_drewN h.2.2 k⟩
/-- the five cells of a kid, as a walk reads them in later worlds -/
theorem kid_cellsB {W : World} {F : Nat → Prop} {css : List (List Value)} {xs : List JV} {A : Option Addr} (h : VRs W F css xs) (hr : RdF W F A css.flatten) {i : Nat} {x : JV} (hx : xs[i]? = some x) :
    ∃ (b o : Nat) (k n : Int) (s : ByteArray) (A' : Option Addr) (na ca : Nat) (B' : Option Addr) (nb cb : Nat), A = some ⟨b, o, none⟩ ∧ b < W.heap.size ∧ VR W F [.int .i64 k, .int .i64 n, .string s, .slice A' na ca, .slice B' nb cb] x ∧
      ∀ W', Below W.heap.size W W' → W'.cell? ⟨b, o + i * 5, none⟩ = some (.int .i64 k) ∧ W'.cell? ⟨b, o + i * 5 + 1, none⟩ = some (.int .i64 n) ∧ W'.cell? ⟨b, o + i * 5 + 2, none⟩ = some (.string s) ∧ W'.cell? ⟨b, o + i * 5 + 3, none⟩ = some (.slice A' na ca) ∧ W'.cell? ⟨b, o + i * 5 + 4, none⟩ = some (.slice B' nb cb) := by
  obtain ⟨b, o, c, rfl, hb, _, hv, hc⟩ := h.cell hr hx
  obtain ⟨k, n, s, A', na, ca, B', nb, cb, rfl⟩ := hv.form
  refine ⟨b, o, k, n, s, A', na, ca, B', nb, cb, rfl, hb, hv, fun W' hW => ?_⟩
  have z := fun (j : Nat) u (hj : j < 5) hu => (hW.cell (p := ⟨b, o + (i * 5 + j), none⟩) hb).trans (hc j u hj hu)
  exact ⟨z 0 _ (by decide) rfl, z 1 _ (by decide) rfl, z 2 _ (by decide) rfl, z 3 _ (by decide) rfl, z 4 _ (by decide) rfl⟩
set_option maxRecDepth 100000 in
set_option maxHeartbeats 4000000 in
theorem vEqF_any (kids : List JV) (css css' : List (List Value)) (A A' : Option Addr) (nk ca ca' : Nat) (F F' : Nat → Prop) (w : World) (hnk : kids.length = nk) (hk9 : nk ≤ 1048576) (h1 : VRs w F css kids) (h6 : RdF w F A css.flatten) (h1' : VRs w F' css' kids) (h6' : RdF w F' A' css'.flatten) (h2 : nk ≤ ca) (h2' : nk ≤ ca')
    (heq : ∀ (x : JV) (c c' : List Value) (W : World), x ∈ kids → Below w.heap.size w W → VR W F c x → VR W F' c' x → Calls Tryd.prog 64 #[.agg c.toArray, .agg c'.toArray] W (TrueS W)) :
    Calls Tryd.prog 84 #[.slice A nk ca, .slice A' nk ca', .func (.func 64) #[] #[]] w (TrueS w) := by
  have HIH := Lib.hid (fun (i : Nat) (x : JV) (hx : kids[i]? = some x) => kid_cellsB h1 h6 hx)
  have HIH' := Lib.hid (fun (i : Nat) (x : JV) (hx : kids[i]? = some x) => kid_cellsB h1' h6' hx)
  have HEQ := Lib.hid heq
  have HNK := Lib.hid hnk
  clear h1 h6 h1' h6' heq hnk
  go_enter Tryd.func84, Tryd.ntmps84
  go_wp2
  go_loopg [17] nk (fun gk s17 wr => ∃ i : Nat, i ≤ nk ∧ gk = nk - i ∧ s17 = .int .i64 i ∧ Hid (Below w.heap.size w wr))
  case atStart => exact ⟨0, Nat.zero_le _, rfl, by go_num, Lib.hid (Below.refl _ _)⟩
  case round =>
    obtain ⟨i, hi, hgk, rfl, HB⟩ := hrel
    have HG := Lib.hid hgk
    clear hgk
    by_cases hlt : i < nk
    · obtain ⟨x, hx⟩ : ∃ x, kids[i]? = some x := ⟨_, List.getElem?_eq_getElem (by rw [HNK.out]; exact hlt)⟩
      obtain ⟨b, o, k1, n1, s1, A1, na1, ca1, B1, nb1, cb1, rfl, hb, hvx, hz⟩ := HIH.out i x hx
      obtain ⟨b', o', k2, n2, s2, A2, na2, ca2, B2, nb2, cb2, rfl, hb', hvx', hz'⟩ := HIH'.out i x hx
      have hbA := (Below.refl wr.heap.size wr).alloc (Nat.le_refl _) (.cells #[.int .i64 k1, .int .i64 n1, .string s1, .slice A1 na1 ca1, .slice B1 nb1 cb1] 40)
      obtain ⟨q0, q1, q2, q3, q4⟩ := hz _ HB.out
      obtain ⟨p0, p1, p2, p3, p4⟩ := hz' _ (HB.out.trans (hbA.mono HB.out.size))
      have hTS := TwoS.new wr 40 #[.int .i64 k1, .int .i64 n1, .string s1, .slice A1 na1 ca1, .slice B1 nb1 cb1] #[.int .i64 k2, .int .i64 n2, .string s2, .slice A2 na2 ca2, .slice B2 nb2 cb2]
      have HB2 := Lib.hid (HB.out.trans (hTS.2.2.mono HB.out.size))
      have HCL := Lib.hid (HEQ.out x _ _ _ (List.mem_of_getElem? hx) HB2.out (hvx.bel HB2.out) (hvx'.bel HB2.out))
      obtain ⟨c1, f1, l1⟩ := hTS.1.rules
      obtain ⟨c2, f2, l2⟩ := hTS.2.1.rules
      have hb1 : b < wr.heap.size := Nat.lt_of_lt_of_le hb HB.out.size
      have hb1' : b' < wr.heap.size := Nat.lt_of_lt_of_le hb' HB.out.size
      clear hz hz' hvx hvx' hx hbA hTS
      go_wp2_with fail
      refine HCL.out.mono ?_
      rintro e w2 ⟨rfl, hb2⟩
      have HB3 := Lib.hid (HB2.out.trans (hb2.mono HB2.out.size))
      clear hb2
      go_wp2
      go_roundg (nk - (i + 1))
      case measure => rw [HG.out]; omega
      case rel => exact ⟨i + 1, hlt, rfl, by go_num, HB3⟩
    · obtain rfl : i = nk := by omega
      go_wp2
      go_ret
      exact ⟨rfl, HB.out⟩
set_option maxRecDepth 100000 in
set_option maxHeartbeats 4000000 in
theorem vEqual_all : ∀ (N : Nat) (v : JV), nodesJ v ≤ N → ∀ (cs cs' : List Value) (F F' : Nat → Prop) (w : World), VR w F cs v → VR w F' cs' v → (∃ d, rightJ d v) → nodesJ v ≤ 256 → Calls Tryd.prog 64 #[.agg cs.toArray, .agg cs'.toArray] w (TrueS w)
  | 0, v, h, _, _, _, _, _, _, _, _, _ => by have := nodesJ_pos v; omega
  | N + 1, .mk k n s kids keys, hN, cs, cs', F, F', w, hv, hv', ⟨d, hR⟩, hmost => by
    have ih := vEqual_all N
    unfold rightJ at hR
    obtain ⟨hal, hdd, hrk⟩ := hR
    unfold nodesJ at hN hmost
    have hkl : kids.length ≤ 256 := by have := nodesL_len kids; omega
    obtain ⟨A, B, ca, cb, css, rfl, h1, h2, h3, h4, h5, h6, h7⟩ := hv.out
    obtain ⟨A', B', ca', cb', css', rfl, h1', h2', h3', h4', h5', h6', h7'⟩ := hv'.out
    have hyl : keys.length ≤ 256 := by
      have h := hal.keyed
      split at h
      · omega
      · rw [h]; simp
    have HEF := Lib.hid (fun W (h : Below w.heap.size w W) => vEqF_any kids css css' A A' kids.length ca ca' F F' W rfl (by omega) (h1.below h) (h6.keep (KeepF.of_below h)) (h1'.below h) (h6'.keep (KeepF.of_below h)) h2 h2'
      (fun x c c' W2 hx hW2 hc hc' => by
        obtain ⟨i, hi⟩ := List.mem_iff_getElem?.1 hx
        obtain ⟨hn1, hn2⟩ := nodesL_at hi
        exact ih x (by omega) c c' F F' W2 hc hc' ⟨_, rightL_iff.1 hrk x hx⟩ (by omega)))
    have HSE := Lib.hid (fun W (h : Below w.heap.size w W) => strEqual_any B B' keys.length keys.length cb cb' keys keys W rfl rfl (h7.keep (KeepF.of_below h)).rd (h7'.keep (KeepF.of_below h)).rd h3 h3' (by omega) (by omega))
    have HTB := Lib.hid (TwoS.new w 40 #[.int .i64 k, .int .i64 n, .string ⟨s.toArray⟩, .slice A kids.length ca, .slice B keys.length cb] #[.int .i64 k, .int .i64 n, .string ⟨s.toArray⟩, .slice A' kids.length ca', .slice B' keys.length cb'])
    obtain ⟨nk, hnk⟩ : ∃ nk, kids.length = nk := ⟨_, rfl⟩
    obtain ⟨ny, hny⟩ : ∃ ny, keys.length = ny := ⟨_, rfl⟩
    rw [hnk, hny] at HTB ⊢
    rw [hnk] at HEF
    rw [hny] at HSE
    have y1 : w.heap.size ≠ w.heap.size + 1 := by omega
    have y2 : w.heap.size + 1 ≠ w.heap.size := by omega
    clear hv hv' hal hdd hrk h1 h1' h2 h2' h3 h3' h4 h4' h5 h5' h6 h6' h7 h7' hnk hny ih
    go_enter Tryd.func64, Tryd.ntmps64
    go_wp2_with fail
    refine (HSE.out _ HTB.out.2.2).mono ?_
    rintro e w1 ⟨rfl, q, rfl⟩
    have HTQ := Lib.hid (HTB.out.drewN q)
    obtain ⟨W1, hW1⟩ : ∃ W1, World.drewN ((w.alloc (.cells #[.int .i64 k, .int .i64 n, .string ⟨s.toArray⟩, .slice A nk ca, .slice B ny cb] 40)).alloc (.cells #[.int .i64 k, .int .i64 n, .string ⟨s.toArray⟩, .slice A' nk ca', .slice B' ny cb'] 40)) q = W1 := ⟨_, rfl⟩
    rw [hW1] at HTQ ⊢
    clear hW1
    obtain ⟨c1, f1, l1⟩ := HTQ.out.1.rules
    obtain ⟨c2, f2, l2⟩ := HTQ.out.2.1.rules
    go_wp2_with fail
    refine (HEF.out _ HTQ.out.2.2).mono ?_
    rintro e w2 ⟨rfl, hb2⟩
    have HB2 := Lib.hid (HTQ.out.2.2.trans (hb2.mono HTQ.out.2.2.size))
    clear hb2
    go_wp2
    go_ret
    exact ⟨rfl, HB2.out⟩
set_option maxRecDepth 100000 in
set_option maxHeartbeats 4000000 in
theorem vSame_any (v : JV) (cs cs' : List Value) (F F' : Nat → Prop) (w : World) (hG : GOK w) (hv : VR w F cs v) (hv' : VR w F' cs' v) (hR : rightJ 8 v) (hn : nodesJ v ≤ 256) : Calls Tryd.prog 36 #[.agg cs.toArray, .agg cs'.toArray] w (TrueS w) := by
  have H1 := Lib.hid (fun W (h : Below w.heap.size w W) => vRight_any v cs F W (hG.keep h) (hv.bel h) hR hn)
  have H2 := Lib.hid (fun W (h : Below w.heap.size w W) => vRight_any v cs' F' W (hG.keep h) (hv'.bel h) hR hn)
  have H3 := Lib.hid (fun W (h : Below w.heap.size w W) => vEqual_all _ v (Nat.le_refl _) cs cs' F F' W (hv.bel h) (hv'.bel h) ⟨8, hR⟩ hn)
  obtain ⟨k0, n0, s0, A0, na0, ca0, B0, nb0, cb0, rfl⟩ := hv.form
  obtain ⟨k1, n1, s1, A1, na1, ca1, B1, nb1, cb1, rfl⟩ := hv'.form
  have HB := Lib.hid (TwoS.new w 40 #[.int .i64 k0, .int .i64 n0, .string s0, .slice A0 na0 ca0, .slice B0 nb0 cb0] #[.int .i64 k1, .int .i64 n1, .string s1, .slice A1 na1 ca1, .slice B1 nb1 cb1])
  clear hv hv' hR hn hG
  go_enter Tryd.func36, Tryd.ntmps36
  go_wp2_with fail
  refine (H1.out _ HB.out.2.2).mono ?_
  rintro e w1 ⟨rfl, hb1⟩
  have HB1 := Lib.hid (HB.out.keep hb1)
  clear hb1
  obtain ⟨c1, f1, l1⟩ := HB1.out.1.rules
  obtain ⟨c2, f2, l2⟩ := HB1.out.2.1.rules
  go_wp2_with fail
  refine (H2.out _ HB1.out.2.2).mono ?_
  rintro e w2 ⟨rfl, hb2⟩
  have HB2 := Lib.hid (HB1.out.keep hb2)
  clear hb2 c1 f1 l1 c2 f2 l2
  obtain ⟨c1, f1, l1⟩ := HB2.out.1.rules
  obtain ⟨c2, f2, l2⟩ := HB2.out.2.1.rules
  go_wp2_with fail
  refine (H3.out _ HB2.out.2.2).mono ?_
  rintro e w3 ⟨rfl, hb3⟩
  have HB3 := Lib.hid (HB2.out.keep hb3)
  clear hb3
  go_wp2
  go_ret
  exact ⟨rfl, HB3.out.2.2⟩
end Go.Proofs.YtalhoacancbldaaDoor
