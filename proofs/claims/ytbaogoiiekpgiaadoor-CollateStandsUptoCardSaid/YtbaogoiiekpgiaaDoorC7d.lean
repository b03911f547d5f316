/- The walk of CollateCuts. -/
import Derived.Test.YtbaogoiiekpgiaaDoorC7b
import Derived.Test.YtbaogoiiekpgiaaDoorHeldV
namespace Go.Proofs.YtbaogoiiekpgiaaDoor
set_option linter.unusedVariables false
set_option linter.unusedSimpArgs false
open Go.RowKit
attribute [local go_sem] run_index_arr run_part_agg run_part_one run_field_agg

theorem vSame_yes {v : JV} (g : gd v) (c : Came v) (cs cs' : List Value) (w : World) (hG : GOK w) (h : VR w TT cs v) (h' : VR w TT cs' v) : Calls Tryd.prog 36 #[.agg cs.toArray, .agg cs'.toArray] w (BoolS true w) :=
  (vSameG v v cs cs' TT TT w hG h h' c c).mono fun e w' ⟨t, h1, h2, h3⟩ => ⟨by rw [h1, h2.2 ⟨g, g, rfl⟩], h3⟩
theorem modU7 (q : Int) {e : Nat} (he : 1 ≤ e) (h2 : e ≤ 2048) : ∃ n : Nat, n < e ∧ wrap64 ((IntKind.u64.wrap q).tmod (e : Int)) = (n : Int) := by
  have h0 := wrap_u64_nonneg q
  generalize IntKind.u64.wrap q = u at h0
  rw [Int.tmod_eq_emod_of_nonneg h0]
  have h3 := Int.emod_nonneg u (show (e : Int) ≠ 0 by omega)
  have h4 := Int.emod_lt_of_pos u (show (0 : Int) < e by omega)
  generalize u % (e : Int) = r at h3 h4
  refine ⟨r.toNat, by omega, ?_⟩
  unfold wrap64
  omega
theorem frontJ_mk (k m : Int) (s : List UInt8) (kids : List JV) (keys : List (List UInt8)) (n : Nat) : frontJ (.mk k m s kids keys) n = .mk k m s (if k = 5 then kids.take n else kids) keys := by
  unfold frontJ
  by_cases hk : k = 5
  · by_cases hn : n < kids.length
    · simp [hk, hn]
    · simp [hk, hn, List.take_of_length_le (Nat.le_of_not_lt hn)]
  · simp [hk]
theorem front_front (v : JV) (n m : Nat) : frontJ (frontJ v n) m = frontJ v (min n m) := by
  obtain ⟨k, a, s, kids, keys⟩ := v
  rw [frontJ_mk, frontJ_mk, frontJ_mk]
  by_cases hk : k = 5
  · simp [hk, List.take_take, Nat.min_comm]
  · simp [hk]
theorem cmpL_pre : ∀ (xs : List JV) (n : Nat) (ks ls : List (List UInt8)), cmpL false (xs.take n) ks xs ls ≤ 0
  | [], n, ks, ls => by rw [List.take_nil, cmpL_nn]; decide
  | x :: r, 0, ks, ls => by rw [List.take_zero, cmpL_nc]; decide
  | x :: r, n + 1, ks, ls => by
    rw [List.take_succ_cons, cmpL_cons, cmpJ_self, show keyC false ks ls = 0 from rfl, lexI_0, lexI_0]
    exact cmpL_pre r n _ _
theorem cmpL_mono : ∀ (xs ys : List JV) (n : Nat) (ks ls : List (List UInt8)), cmpL false xs ks ys ls ≤ 0 → cmpL false (xs.take n) ks (ys.take n) ls ≤ 0
  | xs, ys, 0, ks, ls, h => by rw [List.take_zero, List.take_zero, cmpL_nn]; decide
  | [], [], n + 1, ks, ls, h => by rw [List.take_nil, cmpL_nn]; decide
  | [], y :: r', n + 1, ks, ls, h => by rw [List.take_nil, List.take_succ_cons, cmpL_nc]; decide
  | x :: r, [], n + 1, ks, ls, h => by rw [cmpL_cn] at h; omega
  | x :: r, y :: r', n + 1, ks, ls, h => by
    rw [List.take_succ_cons, List.take_succ_cons, cmpL_cons, show keyC false ks ls = 0 from rfl, lexI_0]
    rw [cmpL_cons, show keyC false ks ls = 0 from rfl, lexI_0] at h
    rcases cmpJ_3 x y with e | e | e
    · rw [e, lexI_ne (by decide)]; decide
    · rw [e, lexI_0] at h ⊢; exact cmpL_mono r r' n _ _ h
    · rw [e, lexI_ne (by decide)] at h; omega
theorem rank_front (v : JV) (n : Nat) : rankJ (frontJ v n) = rankJ v := by
  obtain ⟨k, m, s, kids, keys⟩ := v; rw [frontJ_mk]; simp only [rankJ]
theorem front_le {v : JV} (h : gd v) (n : Nat) : cmpJ (frontJ v n) v ≤ 0 := by
  have hr := rank_front v n
  obtain ⟨k, m, s, kids, keys⟩ := v
  rw [frontJ_mk] at hr ⊢
  by_cases hk : k = 5
  · subst hk
    rw [if_pos rfl] at hr ⊢
    rw [cmpJ, if_neg (fun q => q hr), if_neg (by decide), if_neg (by decide)]
    exact cmpL_pre kids n _ _
  · rw [if_neg hk, cmpJ_self]; decide
theorem kind_rank {k n k' n' : Int} {s s' : List UInt8} {kids kids' : List JV} {keys keys' : List (List UInt8)} (h : 1 ≤ k ∧ k ≤ 6) (h' : 1 ≤ k' ∧ k' ≤ 6) (hr : rankJ (.mk k n s kids keys) = rankJ (.mk k' n' s' kids' keys')) : k = k' := by
  have r1 := rank_of (n := n) (s := s) (kids := kids) (keys := keys) h
  have r2 := rank_of (n := n') (s := s') (kids := kids') (keys := keys') h'
  omega
theorem front_mono {a b : JV} (ha : gd a) (hb : gd b) (n : Nat) (h : cmpJ a b ≤ 0) : cmpJ (frontJ a n) (frontJ b n) ≤ 0 := by
  have hra := rank_front a n
  have hrb := rank_front b n
  obtain ⟨k, m, s, kids, keys⟩ := a
  obtain ⟨k', m', s', kids', keys'⟩ := b
  rw [frontJ_mk] at hra hrb ⊢
  rw [frontJ_mk]
  have h1 := goodA_kind (goodJ_out ha.j).1
  have h2 := goodA_kind (goodJ_out hb.j).1
  by_cases hr : rankJ (.mk k m s kids keys) = rankJ (.mk k' m' s' kids' keys')
  · have hk := kind_rank h1 h2 hr
    subst hk
    by_cases hk : k = 5
    · subst hk
      rw [if_pos rfl] at hra hrb ⊢
      rw [if_pos rfl]
      have hr2 : rankJ (.mk 5 m s (kids.take n) keys) = rankJ (.mk 5 m' s' (kids'.take n) keys') := by rw [hra, hrb, hr]
      rw [cmpJ, if_neg (fun q => q hr), if_neg (by decide), if_neg (by decide)] at h
      rw [cmpJ, if_neg (fun q => q hr2), if_neg (by decide), if_neg (by decide)]
      exact cmpL_mono kids kids' n _ _ h
    · rw [if_neg hk, if_neg hk]; exact h
  · have hr2 : rankJ (.mk k m s (if k = 5 then kids.take n else kids) keys) ≠ rankJ (.mk k' m' s' (if k' = 5 then kids'.take n else kids') keys') := by rw [hra, hrb]; exact hr
    rw [cmpJ, if_pos hr] at h
    rw [cmpJ, if_pos hr2, hra, hrb]; exact h
set_option maxRecDepth 100000 in
set_option maxHeartbeats 8000000 in
theorem collateCuts_any (cs0 : Array Value) (x0 : JV) (cs1 : Array Value) (x1 : JV) (i j : Int) (w : World) (hG : GOK w) (h0 : VR w TT cs0.toList x0) (c0 : Came x0) (h1 : VR w TT cs1.toList x1) (c1 : Came x1) (hi : (Lit.int .i64 i).wf = true) (hj : (Lit.int .i64 j).wf = true) :
    Calls Tryd.prog 10 #[.agg cs0, .agg cs1, .int .i64 i, .int .i64 j] w (BoolS true w) := by
  obtain ⟨l0, rfl⟩ : ∃ l : List Value, cs0 = l.toArray := ⟨cs0.toList, by simp⟩
  replace h0 : VR w TT l0 x0 := by simpa using h0
  have HV0 := Lib.hid (fun (W : World) (h : Below w.heap.size w W) => h0.bel h)
  obtain ⟨k0, n0, s0, A0, na0, ca0, B0, nb0, cb0, rfl⟩ := h0.form
  obtain ⟨l1, rfl⟩ : ∃ l : List Value, cs1 = l.toArray := ⟨cs1.toList, by simp⟩
  replace h1 : VR w TT l1 x1 := by simpa using h1
  have HV1 := Lib.hid (fun (W : World) (h : Below w.heap.size w W) => h1.bel h)
  obtain ⟨k1, n1, s1, A1, na1, ca1, B1, nb1, cb1, rfl⟩ := h1.form
  have HG := Lib.hid hG
  have C0 := Lib.hid c0
  have C1 := Lib.hid c1
  have HH0 := Lib.hid (((Hld.nil w).val h0).val h1)
  obtain ⟨N, hN, hmn⟩ := modU7 i (e := 20) (by decide) (by decide)
  obtain ⟨M, hM, hmm⟩ := modU7 j (e := 20) (by decide) (by decide)
  have HIN := Lib.hid (show iw (N : Int) by unfold iw; omega)
  have HIM := Lib.hid (show iw (M : Int) by unfold iw; omega)
  have HMN := Lib.hid hmn
  have HMM := Lib.hid hmm
  clear h0 h1 c0 c1 hG hi hj hmn hmm HV0 HV1
  by_cases g0 : gd x0
  case neg =>
    have FC0 := Lib.hid (front_came C0.out N)
    have FC1 := Lib.hid (front_came C1.out N)
    have E0 := Lib.hid (frontO_no (n := (N : Int)) g0)
    obtain ⟨r1, q1, e1⟩ : ∃ r q, frontO x1 (N : Int) = (r, q) ∧ (q = 0 ∨ q = 140) := by
      by_cases g1 : gd x1
      · exact ⟨_, _, frontO_yes g1, .inl rfl⟩
      · exact ⟨_, _, frontO_no g1, .inr rfl⟩
    obtain ⟨e1, hq1⟩ := e1
    have E1 := Lib.hid e1
    have HQ1 := Lib.hid hq1
    clear e1 hq1 g0
    go_enter Tryd.func10, Tryd.ntmps10
    go_wp2_with fail
    have HA1 := Lib.hid (Hld.push ((Hld.push (HH0.out) 28 #[.int .i64 k0, .int .i64 n0, .string s0, .slice A0 na0 ca0, .slice B0 nb0 cb0] (g := w.heap.size) (by first | rfl | simp))) 28 #[.int .i64 k1, .int .i64 n1, .string s1, .slice A1 na1 ca1, .slice B1 nb1 cb1] (g := w.heap.size + 1) (by first | rfl | simp))
    refine (wakes7_any _ (HG.out.keep ((Hld.push ((Hld.push (HH0.out) 28 #[.int .i64 k0, .int .i64 n0, .string s0, .slice A0 na0 ca0, .slice B0 nb0 cb0] (g := w.heap.size) (by first | rfl | simp))) 28 #[.int .i64 k1, .int .i64 n1, .string s1, .slice A1 na1 ca1, .slice B1 nb1 cb1] (g := w.heap.size + 1) (by first | rfl | simp))).bel)).mono ?_
    rintro e w1 ⟨rfl, hb1⟩
    have HH1 := Lib.hid (HA1.out.keep hb1)
    clear hb1 HH0 HA1
    obtain ⟨hc1, hf1, hl1⟩ := HH1.out.b1.rules
    have hmn := HMN.out
    have hmm := HMM.out
    rw [show ((20 : Nat) : Int) = 20 from rfl] at hmn hmm
    go_wp2_with fail
    simp only [hmn, hmm]
    clear hmn hmm
    refine (cFront_is x0 _ _ _ (HG.out.keep (HH1.out).bel) (HH1.out).v1 C0.out HIN.out E0.out).mono ?_
    rintro e w2 ⟨⟨cs', rfl, hfv⟩, hb2⟩
    have HH2 := Lib.hid ((HH1.out.keep hb2).val (hfv.bel hb2))
    obtain ⟨k5, n5, s5, A5, na5, ca5, B5, nb5, cb5, rfl⟩ := hfv.form
    clear hfv
    clear hc1 hf1 hl1
    clear hb2 HH1
    have HH3 := Lib.hid (Hld.push (HH2.out) 28 #[.int .i64 k5, .int .i64 n5, .string s5, .slice A5 na5 ca5, .slice B5 nb5 cb5] (g := w2.heap.size) (by first | rfl | simp))
    clear HH2
    obtain ⟨hc1, hf1, hl1⟩ := HH3.out.b1.rules
    go_wp2_with fail
    refine (cFront_is x1 _ _ _ (HG.out.keep (HH3.out).bel) (HH3.out).v1 C1.out HIN.out E1.out).mono ?_
    rintro e w4 ⟨⟨cs', rfl, hfv⟩, hb4⟩
    have HH4 := Lib.hid ((HH3.out.keep hb4).val (hfv.bel hb4))
    obtain ⟨k6, n6, s6, A6, na6, ca6, B6, nb6, cb6, rfl⟩ := hfv.form
    clear hfv
    clear hc1 hf1 hl1
    clear hb4 HH3
    have HH5 := Lib.hid (Hld.push (HH4.out) 28 #[.int .i64 k6, .int .i64 n6, .string s6, .slice A6 na6 ca6, .slice B6 nb6 cb6] (g := w4.heap.size) (by first | rfl | simp))
    clear HH4
    rcases HQ1.out with rfl | rfl
    · go_wp2
      go_ret
      exact ⟨rfl, HH5.out.bel⟩
    · go_wp2
      go_ret
      exact ⟨rfl, HH5.out.bel⟩
  by_cases g1 : gd x1
  case neg =>
    have FC0 := Lib.hid (front_came C0.out N)
    have FC1 := Lib.hid (front_came C1.out N)
    have E0 := Lib.hid (frontO_yes (m := N) g0)
    have E1 := Lib.hid (frontO_no (n := (N : Int)) g1)
    clear g0 g1
    go_enter Tryd.func10, Tryd.ntmps10
    go_wp2_with fail
    have HA1 := Lib.hid (Hld.push ((Hld.push (HH0.out) 28 #[.int .i64 k0, .int .i64 n0, .string s0, .slice A0 na0 ca0, .slice B0 nb0 cb0] (g := w.heap.size) (by first | rfl | simp))) 28 #[.int .i64 k1, .int .i64 n1, .string s1, .slice A1 na1 ca1, .slice B1 nb1 cb1] (g := w.heap.size + 1) (by first | rfl | simp))
    refine (wakes7_any _ (HG.out.keep ((Hld.push ((Hld.push (HH0.out) 28 #[.int .i64 k0, .int .i64 n0, .string s0, .slice A0 na0 ca0, .slice B0 nb0 cb0] (g := w.heap.size) (by first | rfl | simp))) 28 #[.int .i64 k1, .int .i64 n1, .string s1, .slice A1 na1 ca1, .slice B1 nb1 cb1] (g := w.heap.size + 1) (by first | rfl | simp))).bel)).mono ?_
    rintro e w1 ⟨rfl, hb1⟩
    have HH1 := Lib.hid (HA1.out.keep hb1)
    clear hb1 HH0 HA1
    obtain ⟨hc1, hf1, hl1⟩ := HH1.out.b1.rules
    have hmn := HMN.out
    have hmm := HMM.out
    rw [show ((20 : Nat) : Int) = 20 from rfl] at hmn hmm
    go_wp2_with fail
    simp only [hmn, hmm]
    clear hmn hmm
    refine (cFront_is x0 _ _ _ (HG.out.keep (HH1.out).bel) (HH1.out).v1 C0.out HIN.out E0.out).mono ?_
    rintro e w2 ⟨⟨cs', rfl, hfv⟩, hb2⟩
    have HH2 := Lib.hid ((HH1.out.keep hb2).val (hfv.bel hb2))
    obtain ⟨k5, n5, s5, A5, na5, ca5, B5, nb5, cb5, rfl⟩ := hfv.form
    clear hfv
    clear hc1 hf1 hl1
    clear hb2 HH1
    have HH3 := Lib.hid (Hld.push (HH2.out) 28 #[.int .i64 k5, .int .i64 n5, .string s5, .slice A5 na5 ca5, .slice B5 nb5 cb5] (g := w2.heap.size) (by first | rfl | simp))
    clear HH2
    obtain ⟨hc1, hf1, hl1⟩ := HH3.out.b1.rules
    go_wp2_with fail
    refine (cFront_is x1 _ _ _ (HG.out.keep (HH3.out).bel) (HH3.out).v1 C1.out HIN.out E1.out).mono ?_
    rintro e w4 ⟨⟨cs', rfl, hfv⟩, hb4⟩
    have HH4 := Lib.hid ((HH3.out.keep hb4).val (hfv.bel hb4))
    obtain ⟨k6, n6, s6, A6, na6, ca6, B6, nb6, cb6, rfl⟩ := hfv.form
    clear hfv
    clear hc1 hf1 hl1
    clear hb4 HH3
    have HH5 := Lib.hid (Hld.push (HH4.out) 28 #[.int .i64 k6, .int .i64 n6, .string s6, .slice A6 na6 ca6, .slice B6 nb6 cb6] (g := w4.heap.size) (by first | rfl | simp))
    clear HH4
    go_wp2
    go_ret
    exact ⟨rfl, HH5.out.bel⟩
  · have FC0 := Lib.hid (front_came C0.out N)
    have FC1 := Lib.hid (front_came C1.out N)
    have E0 := Lib.hid (frontO_yes (m := N) g0)
    have E1 := Lib.hid (frontO_yes (m := N) g1)
    have hown := front_le g0 N
    have hmono := front_mono g0 g1 N
    have gf := front_gd g0 N
    have gg := front_gd g1 N
    have gm := front_gd g0 (min N M)
    have E2 := Lib.hid (cmpO_yes gf g0)
    have E3 := Lib.hid (cmpO_yes g0 g1)
    have E4 := Lib.hid (cmpO_yes gf gg)
    have E5 := Lib.hid (show frontO (frontJ x0 N) (M : Int) = (frontJ x0 (min N M), 0) by rw [frontO_yes (m := M) gf, front_front])
    have E6 := Lib.hid (frontO_yes (m := min N M) g0)
    have HGM := Lib.hid (And.intro gm (front_came C0.out (min N M)))
    clear g0 g1 gf gg gm
    obtain ⟨fa, hfa⟩ : ∃ fa, frontJ x0 N = fa := ⟨_, rfl⟩
    obtain ⟨fb, hfb⟩ : ∃ fb, frontJ x1 N = fb := ⟨_, rfl⟩
    obtain ⟨fm, hfm⟩ : ∃ fm, frontJ x0 (min N M) = fm := ⟨_, rfl⟩
    rw [hfa] at FC0 E0 E2 E4 E5 hown hmono
    rw [hfb] at FC1 E1 E4 hmono
    rw [hfm] at E5 E6 HGM
    obtain ⟨p2, hp2⟩ : ∃ p, cmpJ fa x0 = p := ⟨_, rfl⟩
    obtain ⟨p3, hp3⟩ : ∃ p, cmpJ x0 x1 = p := ⟨_, rfl⟩
    obtain ⟨p4, hp4⟩ : ∃ p, cmpJ fa fb = p := ⟨_, rfl⟩
    rw [hp2] at E2 hown
    rw [hp3] at E3 hmono
    rw [hp4] at E4 hmono
    have hmin : min (N : Int) (M : Int) = ((min N M : Nat) : Int) := by omega
    obtain ⟨K, hK⟩ : ∃ K, min N M = K := ⟨_, rfl⟩
    rw [hK] at hmin E6
    have HKI := Lib.hid (show iw (K : Int) by unfold iw; omega)
    have HOWN := Lib.hid hown
    have HMONO := Lib.hid hmono
    have HMIN := Lib.hid hmin
    clear hfa hfb hfm hp2 hp3 hp4 hown hmono hmin hK
    go_enter Tryd.func10, Tryd.ntmps10
    go_wp2_with fail
    have HA1 := Lib.hid (Hld.push ((Hld.push (HH0.out) 28 #[.int .i64 k0, .int .i64 n0, .string s0, .slice A0 na0 ca0, .slice B0 nb0 cb0] (g := w.heap.size) (by first | rfl | simp))) 28 #[.int .i64 k1, .int .i64 n1, .string s1, .slice A1 na1 ca1, .slice B1 nb1 cb1] (g := w.heap.size + 1) (by first | rfl | simp))
    refine (wakes7_any _ (HG.out.keep ((Hld.push ((Hld.push (HH0.out) 28 #[.int .i64 k0, .int .i64 n0, .string s0, .slice A0 na0 ca0, .slice B0 nb0 cb0] (g := w.heap.size) (by first | rfl | simp))) 28 #[.int .i64 k1, .int .i64 n1, .string s1, .slice A1 na1 ca1, .slice B1 nb1 cb1] (g := w.heap.size + 1) (by first | rfl | simp))).bel)).mono ?_
    rintro e w1 ⟨rfl, hb1⟩
    have HH1 := Lib.hid (HA1.out.keep hb1)
    clear hb1 HH0 HA1
    obtain ⟨hc1, hf1, hl1⟩ := HH1.out.b1.rules
    have hmn := HMN.out
    have hmm := HMM.out
    rw [show ((20 : Nat) : Int) = 20 from rfl] at hmn hmm
    go_wp2_with fail
    simp only [hmn, hmm]
    clear hmn hmm
    refine (cFront_is x0 _ _ _ (HG.out.keep (HH1.out).bel) (HH1.out).v1 C0.out HIN.out E0.out).mono ?_
    rintro e w2 ⟨⟨cs', rfl, hfv⟩, hb2⟩
    have HH2 := Lib.hid ((HH1.out.keep hb2).val (hfv.bel hb2))
    obtain ⟨k5, n5, s5, A5, na5, ca5, B5, nb5, cb5, rfl⟩ := hfv.form
    clear hfv
    clear hc1 hf1 hl1
    clear hb2 HH1
    have HH3 := Lib.hid (Hld.push (HH2.out) 28 #[.int .i64 k5, .int .i64 n5, .string s5, .slice A5 na5 ca5, .slice B5 nb5 cb5] (g := w2.heap.size) (by first | rfl | simp))
    clear HH2
    obtain ⟨hc1, hf1, hl1⟩ := HH3.out.b1.rules
    go_wp2_with fail
    refine (cFront_is x1 _ _ _ (HG.out.keep (HH3.out).bel) (HH3.out).v1 C1.out HIN.out E1.out).mono ?_
    rintro e w4 ⟨⟨cs', rfl, hfv⟩, hb4⟩
    have HH4 := Lib.hid ((HH3.out.keep hb4).val (hfv.bel hb4))
    obtain ⟨k6, n6, s6, A6, na6, ca6, B6, nb6, cb6, rfl⟩ := hfv.form
    clear hfv
    clear hc1 hf1 hl1
    clear hb4 HH3
    have HH5 := Lib.hid (Hld.push (HH4.out) 28 #[.int .i64 k6, .int .i64 n6, .string s6, .slice A6 na6 ca6, .slice B6 nb6 cb6] (g := w4.heap.size) (by first | rfl | simp))
    clear HH4
    obtain ⟨hc1, hf1, hl1⟩ := HH5.out.b1.rules
    obtain ⟨hc3, hf3, hl3⟩ := HH5.out.b3.rules
    go_wp2_with fail
    refine (cComp_is fa x0 _ _ _ (HG.out.keep (HH5.out).bel) (HH5.out).v1 (HH5.out).v3 FC0.out C0.out E2.out).mono ?_
    rintro e w6 ⟨rfl, hb6⟩
    have HH6 := Lib.hid (HH5.out.keep hb6)
    clear hc1 hf1 hl1 hc3 hf3 hl3
    clear hb6 HH5
    obtain ⟨hc3, hf3, hl3⟩ := HH6.out.b3.rules
    obtain ⟨hc2, hf2, hl2⟩ := HH6.out.b2.rules
    go_wp2_with fail
    refine (cComp_is x0 x1 _ _ _ (HG.out.keep (HH6.out).bel) (HH6.out).v3 (HH6.out).v2 C0.out C1.out E3.out).mono ?_
    rintro e w7 ⟨rfl, hb7⟩
    have HH7 := Lib.hid (HH6.out.keep hb7)
    clear hc3 hf3 hl3 hc2 hf2 hl2
    clear hb7 HH6
    obtain ⟨hc1, hf1, hl1⟩ := HH7.out.b1.rules
    obtain ⟨hc0, hf0, hl0⟩ := HH7.out.b0.rules
    go_wp2_with fail
    refine (cComp_is fa fb _ _ _ (HG.out.keep (HH7.out).bel) (HH7.out).v1 (HH7.out).v0 FC0.out FC1.out E4.out).mono ?_
    rintro e w8 ⟨rfl, hb8⟩
    have HH8 := Lib.hid (HH7.out.keep hb8)
    clear hc1 hf1 hl1 hc0 hf0 hl0
    clear hb8 HH7
    have hown := HOWN.out
    have hn2 : ¬ 0 < p2 := by omega
    have hmono := HMONO.out
    obtain ⟨hc1, hf1, hl1⟩ := HH8.out.b1.rules
    have hcond : (p3 ≤ 0 ∧ ¬ 0 < p4) ∨ ¬ p3 ≤ 0 := by by_cases h : p3 ≤ 0; exact .inl ⟨h, by have := hmono h; omega⟩; exact .inr h
    clear hmono HMONO
    have HCD := Lib.hid hcond
    clear hcond
    rcases HCD.out with ⟨hd1, hd2⟩ | hd1
    · go_wp2_with fail
      refine (cFront_is fa _ _ _ (HG.out.keep (HH8.out).bel) (HH8.out).v1 FC0.out HIM.out E5.out).mono ?_
      rintro e w9 ⟨⟨cs', rfl, hfv⟩, hb9⟩
      have HH9 := Lib.hid ((HH8.out.keep hb9).val (hfv.bel hb9))
      obtain ⟨k7, n7, s7, A7, na7, ca7, B7, nb7, cb7, rfl⟩ := hfv.form
      clear hfv
      clear hc1 hf1 hl1
      clear hb9 HH8
      have HH10 := Lib.hid (Hld.push (HH9.out) 28 #[.int .i64 k7, .int .i64 n7, .string s7, .slice A7 na7 ca7, .slice B7 nb7 cb7] (g := w9.heap.size) (by first | rfl | simp))
      clear HH9
      obtain ⟨hc4, hf4, hl4⟩ := HH10.out.b4.rules
      have hmin := HMIN.out
      go_wp2_with fail
      refine (cFront_is x0 _ _ _ (HG.out.keep (HH10.out).bel) (HH10.out).v4 C0.out HKI.out E6.out).mono ?_
      rintro e w11 ⟨⟨cs', rfl, hfv⟩, hb11⟩
      have HH11 := Lib.hid ((HH10.out.keep hb11).val (hfv.bel hb11))
      obtain ⟨k8, n8, s8, A8, na8, ca8, B8, nb8, cb8, rfl⟩ := hfv.form
      clear hfv
      clear hc4 hf4 hl4
      clear hb11 HH10
      have HH12 := Lib.hid (Hld.push (HH11.out) 28 #[.int .i64 k8, .int .i64 n8, .string s8, .slice A8 na8 ca8, .slice B8 nb8 cb8] (g := w11.heap.size) (by first | rfl | simp))
      clear HH11
      obtain ⟨hc0, hf0, hl0⟩ := HH12.out.b0.rules
      obtain ⟨hc1, hf1, hl1⟩ := HH12.out.b1.rules
      go_wp2_with fail
      refine (vSame_yes HGM.out.1 HGM.out.2 _ _ _ (HG.out.keep (HH12.out).bel) (HH12.out).v1 (HH12.out).v0).mono ?_
      rintro e w13 ⟨rfl, hb13⟩
      have HH13 := Lib.hid (HH12.out.keep hb13)
      clear hc0 hf0 hl0 hc1 hf1 hl1
      clear hb13 HH12
      go_wp2
      go_ret
      exact ⟨rfl, HH13.out.bel⟩
    · go_wp2_with fail
      refine (cFront_is fa _ _ _ (HG.out.keep (HH8.out).bel) (HH8.out).v1 FC0.out HIM.out E5.out).mono ?_
      rintro e w9 ⟨⟨cs', rfl, hfv⟩, hb9⟩
      have HH9 := Lib.hid ((HH8.out.keep hb9).val (hfv.bel hb9))
      obtain ⟨k7, n7, s7, A7, na7, ca7, B7, nb7, cb7, rfl⟩ := hfv.form
      clear hfv
      clear hc1 hf1 hl1
      clear hb9 HH8
      have HH10 := Lib.hid (Hld.push (HH9.out) 28 #[.int .i64 k7, .int .i64 n7, .string s7, .slice A7 na7 ca7, .slice B7 nb7 cb7] (g := w9.heap.size) (by first | rfl | simp))
      clear HH9
      obtain ⟨hc4, hf4, hl4⟩ := HH10.out.b4.rules
      have hmin := HMIN.out
      go_wp2_with fail
      refine (cFront_is x0 _ _ _ (HG.out.keep (HH10.out).bel) (HH10.out).v4 C0.out HKI.out E6.out).mono ?_
      rintro e w11 ⟨⟨cs', rfl, hfv⟩, hb11⟩
      have HH11 := Lib.hid ((HH10.out.keep hb11).val (hfv.bel hb11))
      obtain ⟨k8, n8, s8, A8, na8, ca8, B8, nb8, cb8, rfl⟩ := hfv.form
      clear hfv
      clear hc4 hf4 hl4
      clear hb11 HH10
      have HH12 := Lib.hid (Hld.push (HH11.out) 28 #[.int .i64 k8, .int .i64 n8, .string s8, .slice A8 na8 ca8, .slice B8 nb8 cb8] (g := w11.heap.size) (by first | rfl | simp))
      clear HH11
      obtain ⟨hc0, hf0, hl0⟩ := HH12.out.b0.rules
      obtain ⟨hc1, hf1, hl1⟩ := HH12.out.b1.rules
      go_wp2_with fail
      refine (vSame_yes HGM.out.1 HGM.out.2 _ _ _ (HG.out.keep (HH12.out).bel) (HH12.out).v1 (HH12.out).v0).mono ?_
      rintro e w13 ⟨rfl, hb13⟩
      have HH13 := Lib.hid (HH12.out.keep hb13)
      clear hc0 hf0 hl0 hc1 hf1 hl1
      clear hb13 HH12
      go_wp2
      go_ret
      exact ⟨rfl, HH13.out.bel⟩
end Go.Proofs.YtbaogoiiekpgiaaDoor
