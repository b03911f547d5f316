/- CollateWithin: the walk of the row's closure. -/
import Derived.Test.YtoejdhabpajhlaaDoorC7h
namespace Go.Proofs.YtoejdhabpajhlaaDoor
set_option linter.unusedVariables false
set_option linter.unusedSimpArgs false
open Go.RowKit
attribute [local go_sem] run_index_arr run_part_agg run_part_one run_field_agg

set_option maxRecDepth 100000 in
set_option maxHeartbeats 8000000 in
theorem clRow (l : List JV) (v h : JV) (cs ch : List Value) (A : Option Addr) (nk ca gl gh : Nat) (w : World) (hr : RowV w A ca l) (hnk : l.length = nk) (hlen : nk ≤ 20) (hv : VR w TT cs v) (hh : VR w TT ch h) (hBl : Blk w gl 25 #[.slice A nk ca]) (hBh : Blk w gh 28 ch.toArray) :
    Calls Tryd.prog 14 #[.agg cs.toArray, .pointer (some ⟨gl, 0, none⟩), .pointer (some ⟨gh, 0, none⟩)] w (RetJ (jRow l v h) w) := by
  obtain ⟨css, hr1, hr2, hr3, hr4⟩ := hr
  obtain ⟨i0, hi, hz0, hz1, hz2⟩ := info_parts infoValue7
  have HI := Lib.hid hi
  obtain ⟨kv, nv, sv, Av, nav, cav, Bv, nbv, cbv, rfl⟩ := hv.form
  obtain ⟨kh, nh, sh, Ah, nah, cah, Bh, nbh, cbh, rfl⟩ := hh.form
  have hk0 := Held.nil w
  have hk2 := (hk0.push 28 #[.int .i64 kv, .int .i64 nv, .string sv, .slice Av nav cav, .slice Bv nbv cbv] (g := w.heap.size) rfl).push 28 #[.int .i64 0, .int .i64 0, .string ⟨#[]⟩, .slice none 0 0, .slice none 0 0] (g := w.heap.size + 1) (by simp)
  obtain ⟨W0, hW0⟩ : ∃ W0, ((w.alloc (.cells #[.int .i64 kv, .int .i64 nv, .string sv, .slice Av nav cav, .slice Bv nbv cbv] 28)).alloc (.cells #[.int .i64 0, .int .i64 0, .string ⟨#[]⟩, .slice none 0 0, .slice none 0 0] 28)) = W0 := ⟨_, rfl⟩
  have hsz : W0.heap.size = w.heap.size + 2 := by rw [← hW0]; simp
  rw [hW0] at hk2
  have HW0 := Lib.hid hW0
  have HB0 := Lib.hid hk2.1
  have HKV := Lib.hid hk2.b1
  have HK4 := Lib.hid hk2.b0
  have HBL := Lib.hid hBl
  have HBH := Lib.hid hBh
  have HSZ := Lib.hid hsz
  have HF := Lib.hid (show css.flatten.length = nk * 5 by rw [hr1.flat, hnk])
  have HA := Lib.hid (show A = none → nk = 0 from fun e => by have := hr3 e; omega)
  have H1S := Lib.hid hr1.one
  have H1V : Hid (∀ u ∈ ([.int .i64 kv, .int .i64 nv, .string sv, .slice Av nav cav, .slice Bv nbv cbv] : List Value), u.oneCell' = true) := Lib.hid hv.one
  have H1H : Hid (∀ u ∈ ([.int .i64 kh, .int .i64 nh, .string sh, .slice Ah nah cah, .slice Bh nbh cbh] : List Value), u.oneCell' = true) := Lib.hid hh.one
  have HRD := Lib.hid (fun (W : World) (hb : Below w.heap.size w W) => (hr4.keep (KeepF.of_below hb)).rd)
  have HFIN := Lib.hid (fun (W W' : World) (x : Value) (hb : Below w.heap.size w W') (hx : Below W.heap.size W W') (hown : W.ownsRow W0.heap.size 28 5 x (nk + 1 + 1) (css.flatten ++ ([.int .i64 kv, .int .i64 nv, .string sv, .slice Av nav cav, .slice Bv nbv cbv] : List Value) ++ ([.int .i64 kh, .int .i64 nh, .string sh, .slice Ah nah cah, .slice Bh nbh cbh] : List Value))) =>
    show ∃ A' cap', x = .slice A' (nk + 1 + 1) cap' ∧ ∀ (a b c d e : Value), Below w.heap.size w (((((W'.setCell ⟨w.heap.size + 1, 0, none⟩ a).setCell ⟨w.heap.size + 1, 1, none⟩ b).setCell ⟨w.heap.size + 1, 2, none⟩ c).setCell ⟨w.heap.size + 1, 3, none⟩ d).setCell ⟨w.heap.size + 1, 4, none⟩ e) ∧
      VR (((((W'.setCell ⟨w.heap.size + 1, 0, none⟩ a).setCell ⟨w.heap.size + 1, 1, none⟩ b).setCell ⟨w.heap.size + 1, 2, none⟩ c).setCell ⟨w.heap.size + 1, 3, none⟩ d).setCell ⟨w.heap.size + 1, 4, none⟩ e) TT [.int .i64 5, .int .i64 0, .string ⟨#[]⟩, .slice A' (nk + 1 + 1) cap', .slice none 0 0] (jRow l v h) by
      obtain ⟨A', cap', e1, e2, e3, e4⟩ := RdF.of_own hown (F := fun b => b ≠ w.heap.size + 1) (fun b hb9 => by omega)
      refine ⟨A', cap', e1, fun a b c d e => ?_⟩
      have hbe := v5_bel hb (g := w.heap.size + 1) (by omega) a b c d e
      refine ⟨hbe, ?_⟩
      have hvs : VRs _ TT ((css ++ [[.int .i64 kv, .int .i64 nv, .string sv, .slice Av nav cav, .slice Bv nbv cbv]]) ++ [[.int .i64 kh, .int .i64 nh, .string sh, .slice Ah nah cah, .slice Bh nbh cbh]]) ((l ++ [v]) ++ [h]) := ((hr1.below hbe).snoc (hv.bel hbe)).snoc (hh.bel hbe)
      have hfe : ((css ++ [([.int .i64 kv, .int .i64 nv, .string sv, .slice Av nav cav, .slice Bv nbv cbv] : List Value)]) ++ [([.int .i64 kh, .int .i64 nh, .string sh, .slice Ah nah cah, .slice Bh nbh cbh] : List Value)]).flatten = css.flatten ++ ([.int .i64 kv, .int .i64 nv, .string sv, .slice Av nav cav, .slice Bv nbv cbv] : List Value) ++ ([.int .i64 kh, .int .i64 nh, .string sh, .slice Ah nah cah, .slice Bh nbh cbh] : List Value) := by simp
      exact VR.into 5 0 [] hvs (by simp [hnk]; omega) (Nat.le_refl 0) e3 (fun _ => rfl) (by rw [hfe]; exact ((e4.keep (KeepF.of_below hx)).keep (keep5 (fun b hb9 => hb9) a b c d e)).mono fun _ _ _ => trivial) RdF.nil (by simp [hnk]) rfl)
  clear hi hr1 hr3 hr4 hv hh hk0 hk2 hW0 hBl hBh hnk hsz
  have hn0 : (0 : Int) ≤ (nk : Int) := by omega
  go_enter Tryd.func14, Tryd.ntmps14
  go_upto_region 1 with (fail)
  rw [HW0.out]
  have HSP := Lib.hid (fun (W : World) (hb : Below W0.heap.size W0 W) => And.intro (HB0.out.trans (hb.mono HB0.out.size)) (HKV.out.keep hb))
  refine wp_region_held_drew (S := fun w' => Below w.heap.size w w' ∧ Blk w' w.heap.size 28 #[.int .i64 kv, .int .i64 nv, .string sv, .slice Av nav cav, .slice Bv nbv cbv]) (by kernel_rfl) (by exact ⟨HB0.out.drew, HKV.out.drew⟩) (fun hHeld => ?_)
  refine wpAnyH_world (fun W1 hW => ?_)
  clear hHeld
  have HB1 := Lib.hid (show Below W0.heap.size W0 W1 by rw [hW]; exact (Below.refl _ _).drew)
  have HS1 := Lib.hid (HSP.out _ HB1.out)
  have hHeld := HS1.out
  clear hW
  refine wpAnyH_take (i := 1) (oi := ⟨some 6, _, _, _, _, _⟩) (v := .slice A nk ca) rfl (by kernel_rfl) (by kernel_rfl) (by kernel_rfl) (fun _ _ _ h => h) (Or.inl ⟨by kernel_rfl, ?_⟩) (by assumption) ?_
  · intro W hSw; obtain ⟨c1, f1, l1⟩ := (HBL.out.keep hSw.1).rules; obtain ⟨c2, f2, l2⟩ := (HBH.out.keep hSw.1).rules; obtain ⟨c3, f3, l3⟩ := hSw.2.rules; go_simp
  try simp only [Act.put, List.setIfInBounds_toArray, List.set_cons_zero, List.set_cons_succ]
  refine wpAnyH_take (i := 3) (oi := ⟨some 8, _, _, _, _, _⟩) (v := .agg #[.int .i64 kv, .int .i64 nv, .string sv, .slice Av nav cav, .slice Bv nbv cbv]) rfl (by kernel_rfl) (by kernel_rfl) (by kernel_rfl) (fun _ _ _ h => h) (Or.inl ⟨by kernel_rfl, ?_⟩) (by assumption) ?_
  · intro W hSw; obtain ⟨c1, f1, l1⟩ := (HBL.out.keep hSw.1).rules; obtain ⟨c2, f2, l2⟩ := (HBH.out.keep hSw.1).rules; obtain ⟨c3, f3, l3⟩ := hSw.2.rules; go_simp
  try simp only [Act.put, List.setIfInBounds_toArray, List.set_cons_zero, List.set_cons_succ]
  refine wpAnyH_take (i := 6) (oi := ⟨some 11, _, _, _, _, _⟩) (v := .agg #[.int .i64 kh, .int .i64 nh, .string sh, .slice Ah nah cah, .slice Bh nbh cbh]) rfl (by kernel_rfl) (by kernel_rfl) (by kernel_rfl) (fun _ _ _ h => h) (Or.inl ⟨by kernel_rfl, ?_⟩) (by assumption) ?_
  · intro W hSw; obtain ⟨c1, f1, l1⟩ := (HBL.out.keep hSw.1).rules; obtain ⟨c2, f2, l2⟩ := (HBH.out.keep hSw.1).rules; obtain ⟨c3, f3, l3⟩ := hSw.2.rules; go_simp
  try simp only [Act.put, List.setIfInBounds_toArray, List.set_cons_zero, List.set_cons_succ]
  refine wpAnyH_ready (rs := [0, 4, 7]) (by kernel_rfl) (by simp) ?_
  refine AllReadyH.cons (o := ⟨some 5, _, _, _, _, _⟩) rfl (fun K hK => ?_) ?_
  · go_simp
    refine hK.out _ _ (by exact ⟨(Below.alloc (HS1.out).1 (HS1.out).1.size _), Blk.alloc (HS1.out).2 _⟩) (fun hHeld2 => ?_)
    clear hK K hHeld
    try simp only [Act.put, List.setIfInBounds_toArray, List.set_cons_zero, List.set_cons_succ]
    refine wpAnyH_world (fun W2 hW => ?_)
    clear hHeld2
    have hb := bel_al hW
    have HB2 := Lib.hid (HB1.out.trans (hb.mono HB1.out.size))
    have HO2 := Lib.hid (own_nil hW HB1.out.size)
    have HS2 := Lib.hid (HSP.out _ HB2.out)
    have hHeld := HS2.out
    clear hb hW
    refine wpAnyH_ready (rs := [2, 4, 7]) (by kernel_rfl) (by simp) ?_
    refine AllReadyH.cons (o := ⟨some 7, _, _, _, _, _⟩) rfl (fun K hK => ?_) ?_
    · rw [if_pos (by rfl)]
      refine wp_append_rd _ (.tmp 5) (.tmp 6) 25 rfl W0.heap.size 28 i0 _ 5 80 Tryd.underlying25 HI.out hz0 hz1 hz2 rfl (by decide) _ _ _ (by rfl) HO2.out _ nk ca HA.out _ (by rfl) HF.out (HRD.out _ (HS2.out).1) H1S.out (by unfold maxLen; omega) (by omega) HB2.out.size ?_
      intro v3 W3 hown hgr hob
      rw [Nat.zero_add, List.nil_append] at hown
      have HB3 := Lib.hid (HB2.out.grown hgr HB2.out.size (fun k e => (HO2.out.lt k e).1))
      have HO3 := Lib.hid hown
      have HS3 := Lib.hid (HSP.out _ HB3.out)
      clear hown hgr hob
      refine hK.out _ _ (by exact HS3.out) (fun hHeld2 => ?_)
      clear hK K hHeld
      have hHeld := hHeld2
      clear hHeld2
      try simp only [Act.put, List.setIfInBounds_toArray, List.set_cons_zero, List.set_cons_succ]
      refine wpAnyH_ready (rs := [4, 7]) (by kernel_rfl) (by simp) ?_
      refine AllReadyH.cons (o := ⟨some 9, _, _, _, _, _⟩) rfl (fun K hK => ?_) ?_
      · go_simp
        refine hK.out _ _ (by exact ⟨(Below.alloc (HS3.out).1 (HS3.out).1.size _), Blk.alloc (HS3.out).2 _⟩) (fun hHeld2 => ?_)
        clear hK K hHeld
        try simp only [Act.put, List.setIfInBounds_toArray, List.set_cons_zero, List.set_cons_succ]
        refine wpAnyH_world (fun W4 hW => ?_)
        clear hHeld2
        have hb := bel_al hW
        have HB4 := Lib.hid (HB3.out.trans (hb.mono HB3.out.size))
        have HO4 := Lib.hid (own_al hW HO3.out)
        have HKB4 := Lib.hid (blk_al hW)
        have HNB4 := Lib.hid (own_ne HO3.out (Nat.le_refl _))
        have HS4 := Lib.hid (HSP.out _ HB4.out)
        have hHeld := HS4.out
        clear hb hW
        refine wpAnyH_ready (rs := [5, 7]) (by kernel_rfl) (by simp) ?_
        refine AllReadyH.cons (o := ⟨some 10, _, _, _, _, _⟩) rfl (fun K hK => ?_) ?_
        · rw [if_pos (by rfl)]
          refine wp_append_rd _ (.tmp 7) (.tmp 9) 25 rfl W0.heap.size 28 i0 _ 5 80 Tryd.underlying25 HI.out hz0 hz1 hz2 rfl (by decide) _ _ _ (by rfl) HO4.out _ 1 1 (by intro h; cases h) _ (by rfl) rfl (Rd.of_blk HKB4.out) H1V.out (by unfold maxLen; omega) (by omega) HB4.out.size ?_
          intro v5 W5 hown hgr hob
          have HB5 := Lib.hid (HB4.out.grown hgr HB4.out.size (fun k e => (HO4.out.lt k e).1))
          have HO5 := Lib.hid hown
          have HS5 := Lib.hid (HSP.out _ HB5.out)
          obtain ⟨hk9, hn9⟩ := app_keep HKB4.out HNB4.out hgr hob
          have HKB5 := Lib.hid hk9
          have HNB5 := Lib.hid hn9
          clear hk9 hn9
          clear hown hgr hob
          refine hK.out _ _ (by exact HS5.out) (fun hHeld2 => ?_)
          clear hK K hHeld
          have hHeld := hHeld2
          clear hHeld2
          try simp only [Act.put, List.setIfInBounds_toArray, List.set_cons_zero, List.set_cons_succ]
          refine wpAnyH_ready (rs := [7]) (by kernel_rfl) (by simp) ?_
          refine AllReadyH.cons (o := ⟨some 12, _, _, _, _, _⟩) rfl (fun K hK => ?_) AllReadyH.nil
          go_simp
          refine hK.out _ _ (by exact ⟨(Below.alloc (HS5.out).1 (HS5.out).1.size _), Blk.alloc (HS5.out).2 _⟩) (fun hHeld2 => ?_)
          clear hK K hHeld
          try simp only [Act.put, List.setIfInBounds_toArray, List.set_cons_zero, List.set_cons_succ]
          refine wpAnyH_world (fun W6 hW => ?_)
          clear hHeld2
          have hb := bel_al hW
          have HB6 := Lib.hid (HB5.out.trans (hb.mono HB5.out.size))
          have HO6 := Lib.hid (own_al hW HO5.out)
          have HKB6 := Lib.hid (HKB5.out.keep hb)
          have HKC6 := Lib.hid (blk_al hW)
          have HNC6 := Lib.hid (own_ne HO5.out (Nat.le_refl _))
          have HS6 := Lib.hid (HSP.out _ HB6.out)
          have hHeld := HS6.out
          clear hb hW
          refine wpAnyH_ready (rs := [8]) (by kernel_rfl) (by simp) ?_
          refine AllReadyH.cons (o := ⟨some 13, _, _, _, _, _⟩) rfl (fun K hK => ?_) AllReadyH.nil
          rw [if_pos (by rfl)]
          refine wp_append_rd _ (.tmp 10) (.tmp 12) 25 rfl W0.heap.size 28 i0 _ 5 80 Tryd.underlying25 HI.out hz0 hz1 hz2 rfl (by decide) _ _ _ (by rfl) HO6.out _ 1 1 (by intro h; cases h) _ (by rfl) rfl (Rd.of_blk HKC6.out) H1H.out (by unfold maxLen; omega) (by omega) HB6.out.size ?_
          intro v7 W7 hown hgr hob
          have HB7 := Lib.hid (HB6.out.grown hgr HB6.out.size (fun k e => (HO6.out.lt k e).1))
          have HO7 := Lib.hid hown
          have HS7 := Lib.hid (HSP.out _ HB7.out)
          obtain ⟨hk9, hn9⟩ := app_keep HKB6.out HNB5.out hgr hob
          have HKB7 := Lib.hid hk9
          have HNB7 := Lib.hid hn9
          clear hk9 hn9
          obtain ⟨hk9, hn9⟩ := app_keep HKC6.out HNC6.out hgr hob
          have HKC7 := Lib.hid hk9
          have HNC7 := Lib.hid hn9
          clear hk9 hn9
          clear hown hgr hob
          refine hK.out _ _ (by exact HS7.out) (fun hHeld2 => ?_)
          clear hK K hHeld
          have hHeld := hHeld2
          clear hHeld2
          try simp only [Act.put, List.setIfInBounds_toArray, List.set_cons_zero, List.set_cons_succ]
          refine wpAnyH_ready (rs := [9]) (by kernel_rfl) (by simp) ?_
          refine AllReadyH.cons (o := ⟨some 14, _, _, _, _, _⟩) rfl (fun K hK => ?_) AllReadyH.nil
          obtain ⟨A9, c9, hv9, -⟩ := HFIN.out W7 W7 v7 (HS7.out).1 (Below.refl _ _) HO7.out
          subst hv9
          go_simp
          refine (lList A9 (nk + 1 + 1) c9 _).mono ?_
          rintro e W8 ⟨rfl, hb⟩
          have HB8 := Lib.hid (HB7.out.trans (hb.mono HB7.out.size))
          have HS8 := Lib.hid (HSP.out _ HB8.out)
          obtain ⟨A8, c8, hv8, hfin⟩ := HFIN.out W7 W8 _ (HS8.out).1 hb HO7.out
          injection hv8 with e1 e2 e3
          subst e1 e3
          have HFN := Lib.hid hfin
          clear hb hfin e2
          refine hK.out _ _ (by exact HS8.out) (fun hHeld2 => ?_)
          clear hK K hHeld
          have hHeld := hHeld2
          clear hHeld2
          try simp only [Act.put, List.setIfInBounds_toArray, List.set_cons_zero, List.set_cons_succ]
          refine wpAnyH_ready (rs := [10]) (by kernel_rfl) (by simp) ?_
          refine AllReadyH.cons (o := ⟨none, _, _, _, _, _⟩) rfl (fun K hK => ?_) AllReadyH.nil
          have hk4 := HK4.out.keep HB8.out
          obtain ⟨c4, f4, l4⟩ := hk4.rules
          have HP4 := Lib.hid (v5_put hk4 (.int .i64 5) (.int .i64 0) (.string ⟨#[]⟩) (.slice A9 (nk + 1 + 1) c9) (.slice none 0 0))
          have HE4 := Lib.hid (HFN.out (.int .i64 5) (.int .i64 0) (.string ⟨#[]⟩) (.slice A9 (nk + 1 + 1) c9) (.slice none 0 0))
          clear hk4
          go_simp
          refine hK.out _ _ (by exact ⟨HE4.out.1, (((((HS8.out.2).far (by show w.heap.size ≠ w.heap.size + 1; omega) _).far (by show w.heap.size ≠ w.heap.size + 1; omega) _).far (by show w.heap.size ≠ w.heap.size + 1; omega) _).far (by show w.heap.size ≠ w.heap.size + 1; omega) _).far (by show w.heap.size ≠ w.heap.size + 1; omega) _⟩) (fun hHeld2 => ?_)
          clear hK K hHeld hHeld2 c4 f4 l4
          try simp only [Act.put, List.setIfInBounds_toArray, List.set_cons_zero, List.set_cons_succ]
          refine wpAnyH_done (by kernel_rfl) ?_ _
          go_wp2
          obtain ⟨c4, f4, l4⟩ := HP4.out.rules
          refine bodyPost_ret (v := .agg #[.int .i64 5, .int .i64 0, .string ⟨#[]⟩, .slice A9 (nk + 1 + 1) c9, .slice none 0 0]) (by simp only [results, Tryd.results14]; go_simp) rfl ?_
          exact ⟨_, rfl, HE4.out.2, HE4.out.1⟩
        refine AllReadyH.cons (o := ⟨some 12, _, _, _, _, _⟩) rfl (fun K hK => ?_) AllReadyH.nil
        go_simp
        refine hK.out _ _ (by exact ⟨(Below.alloc (HS4.out).1 (HS4.out).1.size _), Blk.alloc (HS4.out).2 _⟩) (fun hHeld2 => ?_)
        clear hK K hHeld
        try simp only [Act.put, List.setIfInBounds_toArray, List.set_cons_zero, List.set_cons_succ]
        refine wpAnyH_world (fun W5 hW => ?_)
        clear hHeld2
        have hb := bel_al hW
        have HB5 := Lib.hid (HB4.out.trans (hb.mono HB4.out.size))
        have HO5 := Lib.hid (own_al hW HO4.out)
        have HKB5 := Lib.hid (HKB4.out.keep hb)
        have HKC5 := Lib.hid (blk_al hW)
        have HNC5 := Lib.hid (own_ne HO4.out (Nat.le_refl _))
        have HS5 := Lib.hid (HSP.out _ HB5.out)
        have hHeld := HS5.out
        clear hb hW
        refine wpAnyH_ready (rs := [5]) (by kernel_rfl) (by simp) ?_
        refine AllReadyH.cons (o := ⟨some 10, _, _, _, _, _⟩) rfl (fun K hK => ?_) AllReadyH.nil
        rw [if_pos (by rfl)]
        refine wp_append_rd _ (.tmp 7) (.tmp 9) 25 rfl W0.heap.size 28 i0 _ 5 80 Tryd.underlying25 HI.out hz0 hz1 hz2 rfl (by decide) _ _ _ (by rfl) HO5.out _ 1 1 (by intro h; cases h) _ (by rfl) rfl (Rd.of_blk HKB5.out) H1V.out (by unfold maxLen; omega) (by omega) HB5.out.size ?_
        intro v6 W6 hown hgr hob
        have HB6 := Lib.hid (HB5.out.grown hgr HB5.out.size (fun k e => (HO5.out.lt k e).1))
        have HO6 := Lib.hid hown
        have HS6 := Lib.hid (HSP.out _ HB6.out)
        obtain ⟨hk9, hn9⟩ := app_keep HKB5.out HNB4.out hgr hob
        have HKB6 := Lib.hid hk9
        have HNB6 := Lib.hid hn9
        clear hk9 hn9
        obtain ⟨hk9, hn9⟩ := app_keep HKC5.out HNC5.out hgr hob
        have HKC6 := Lib.hid hk9
        have HNC6 := Lib.hid hn9
        clear hk9 hn9
        clear hown hgr hob
        refine hK.out _ _ (by exact HS6.out) (fun hHeld2 => ?_)
        clear hK K hHeld
        have hHeld := hHeld2
        clear hHeld2
        try simp only [Act.put, List.setIfInBounds_toArray, List.set_cons_zero, List.set_cons_succ]
        refine wpAnyH_ready (rs := [8]) (by kernel_rfl) (by simp) ?_
        refine AllReadyH.cons (o := ⟨some 13, _, _, _, _, _⟩) rfl (fun K hK => ?_) AllReadyH.nil
        rw [if_pos (by rfl)]
        refine wp_append_rd _ (.tmp 10) (.tmp 12) 25 rfl W0.heap.size 28 i0 _ 5 80 Tryd.underlying25 HI.out hz0 hz1 hz2 rfl (by decide) _ _ _ (by rfl) HO6.out _ 1 1 (by intro h; cases h) _ (by rfl) rfl (Rd.of_blk HKC6.out) H1H.out (by unfold maxLen; omega) (by omega) HB6.out.size ?_
        intro v7 W7 hown hgr hob
        have HB7 := Lib.hid (HB6.out.grown hgr HB6.out.size (fun k e => (HO6.out.lt k e).1))
        have HO7 := Lib.hid hown
        have HS7 := Lib.hid (HSP.out _ HB7.out)
        obtain ⟨hk9, hn9⟩ := app_keep HKB6.out HNB6.out hgr hob
        have HKB7 := Lib.hid hk9
        have HNB7 := Lib.hid hn9
        clear hk9 hn9
        obtain ⟨hk9, hn9⟩ := app_keep HKC6.out HNC6.out hgr hob
        have HKC7 := Lib.hid hk9
        have HNC7 := Lib.hid hn9
        clear hk9 hn9
        clear hown hgr hob
        refine hK.out _ _ (by exact HS7.out) (fun hHeld2 => ?_)
        clear hK K hHeld
        have hHeld := hHeld2
        clear hHeld2
        try simp only [Act.put, List.setIfInBounds_toArray, List.set_cons_zero, List.set_cons_succ]
        refine wpAnyH_ready (rs := [9]) (by kernel_rfl) (by simp) ?_
        refine AllReadyH.cons (o := ⟨some 14, _, _, _, _, _⟩) rfl (fun K hK => ?_) AllReadyH.nil
        obtain ⟨A9, c9, hv9, -⟩ := HFIN.out W7 W7 v7 (HS7.out).1 (Below.refl _ _) HO7.out
        subst hv9
        go_simp
        refine (lList A9 (nk + 1 + 1) c9 _).mono ?_
        rintro e W8 ⟨rfl, hb⟩
        have HB8 := Lib.hid (HB7.out.trans (hb.mono HB7.out.size))
        have HS8 := Lib.hid (HSP.out _ HB8.out)
        obtain ⟨A8, c8, hv8, hfin⟩ := HFIN.out W7 W8 _ (HS8.out).1 hb HO7.out
        injection hv8 with e1 e2 e3
        subst e1 e3
        have HFN := Lib.hid hfin
        clear hb hfin e2
        refine hK.out _ _ (by exact HS8.out) (fun hHeld2 => ?_)
        clear hK K hHeld
        have hHeld := hHeld2
        clear hHeld2
        try simp only [Act.put, List.setIfInBounds_toArray, List.set_cons_zero, List.set_cons_succ]
        refine wpAnyH_ready (rs := [10]) (by kernel_rfl) (by simp) ?_
        refine AllReadyH.cons (o := ⟨none, _, _, _, _, _⟩) rfl (fun K hK => ?_) AllReadyH.nil
        have hk4 := HK4.out.keep HB8.out
        obtain ⟨c4, f4, l4⟩ := hk4.rules
        have HP4 := Lib.hid (v5_put hk4 (.int .i64 5) (.int .i64 0) (.string ⟨#[]⟩) (.slice A9 (nk + 1 + 1) c9) (.slice none 0 0))
        have HE4 := Lib.hid (HFN.out (.int .i64 5) (.int .i64 0) (.string ⟨#[]⟩) (.slice A9 (nk + 1 + 1) c9) (.slice none 0 0))
        clear hk4
        go_simp
        refine hK.out _ _ (by exact ⟨HE4.out.1, (((((HS8.out.2).far (by show w.heap.size ≠ w.heap.size + 1; omega) _).far (by show w.heap.size ≠ w.heap.size + 1; omega) _).far (by show w.heap.size ≠ w.heap.size + 1; omega) _).far (by show w.heap.size ≠ w.heap.size + 1; omega) _).far (by show w.heap.size ≠ w.heap.size + 1; omega) _⟩) (fun hHeld2 => ?_)
        clear hK K hHeld hHeld2 c4 f4 l4
        try simp only [Act.put, List.setIfInBounds_toArray, List.set_cons_zero, List.set_cons_succ]
        refine wpAnyH_done (by kernel_rfl) ?_ _
        go_wp2
        obtain ⟨c4, f4, l4⟩ := HP4.out.rules
        refine bodyPost_ret (v := .agg #[.int .i64 5, .int .i64 0, .string ⟨#[]⟩, .slice A9 (nk + 1 + 1) c9, .slice none 0 0]) (by simp only [results, Tryd.results14]; go_simp) rfl ?_
        exact ⟨_, rfl, HE4.out.2, HE4.out.1⟩
      refine AllReadyH.cons (o := ⟨some 12, _, _, _, _, _⟩) rfl (fun K hK => ?_) AllReadyH.nil
      go_simp
      refine hK.out _ _ (by exact ⟨(Below.alloc (HS3.out).1 (HS3.out).1.size _), Blk.alloc (HS3.out).2 _⟩) (fun hHeld2 => ?_)
      clear hK K hHeld
      try simp only [Act.put, List.setIfInBounds_toArray, List.set_cons_zero, List.set_cons_succ]
      refine wpAnyH_world (fun W4 hW => ?_)
      clear hHeld2
      have hb := bel_al hW
      have HB4 := Lib.hid (HB3.out.trans (hb.mono HB3.out.size))
      have HO4 := Lib.hid (own_al hW HO3.out)
      have HKC4 := Lib.hid (blk_al hW)
      have HNC4 := Lib.hid (own_ne HO3.out (Nat.le_refl _))
      have HS4 := Lib.hid (HSP.out _ HB4.out)
      have hHeld := HS4.out
      clear hb hW
      refine wpAnyH_ready (rs := [4]) (by kernel_rfl) (by simp) ?_
      refine AllReadyH.cons (o := ⟨some 9, _, _, _, _, _⟩) rfl (fun K hK => ?_) AllReadyH.nil
      go_simp
      refine hK.out _ _ (by exact ⟨(Below.alloc (HS4.out).1 (HS4.out).1.size _), Blk.alloc (HS4.out).2 _⟩) (fun hHeld2 => ?_)
      clear hK K hHeld
      try simp only [Act.put, List.setIfInBounds_toArray, List.set_cons_zero, List.set_cons_succ]
      refine wpAnyH_world (fun W5 hW => ?_)
      clear hHeld2
      have hb := bel_al hW
      have HB5 := Lib.hid (HB4.out.trans (hb.mono HB4.out.size))
      have HO5 := Lib.hid (own_al hW HO4.out)
      have HKC5 := Lib.hid (HKC4.out.keep hb)
      have HKB5 := Lib.hid (blk_al hW)
      have HNB5 := Lib.hid (own_ne HO4.out (Nat.le_refl _))
      have HS5 := Lib.hid (HSP.out _ HB5.out)
      have hHeld := HS5.out
      clear hb hW
      refine wpAnyH_ready (rs := [5]) (by kernel_rfl) (by simp) ?_
      refine AllReadyH.cons (o := ⟨some 10, _, _, _, _, _⟩) rfl (fun K hK => ?_) AllReadyH.nil
      rw [if_pos (by rfl)]
      refine wp_append_rd _ (.tmp 7) (.tmp 9) 25 rfl W0.heap.size 28 i0 _ 5 80 Tryd.underlying25 HI.out hz0 hz1 hz2 rfl (by decide) _ _ _ (by rfl) HO5.out _ 1 1 (by intro h; cases h) _ (by rfl) rfl (Rd.of_blk HKB5.out) H1V.out (by unfold maxLen; omega) (by omega) HB5.out.size ?_
      intro v6 W6 hown hgr hob
      have HB6 := Lib.hid (HB5.out.grown hgr HB5.out.size (fun k e => (HO5.out.lt k e).1))
      have HO6 := Lib.hid hown
      have HS6 := Lib.hid (HSP.out _ HB6.out)
      obtain ⟨hk9, hn9⟩ := app_keep HKC5.out HNC4.out hgr hob
      have HKC6 := Lib.hid hk9
      have HNC6 := Lib.hid hn9
      clear hk9 hn9
      obtain ⟨hk9, hn9⟩ := app_keep HKB5.out HNB5.out hgr hob
      have HKB6 := Lib.hid hk9
      have HNB6 := Lib.hid hn9
      clear hk9 hn9
      clear hown hgr hob
      refine hK.out _ _ (by exact HS6.out) (fun hHeld2 => ?_)
      clear hK K hHeld
      have hHeld := hHeld2
      clear hHeld2
      try simp only [Act.put, List.setIfInBounds_toArray, List.set_cons_zero, List.set_cons_succ]
      refine wpAnyH_ready (rs := [8]) (by kernel_rfl) (by simp) ?_
      refine AllReadyH.cons (o := ⟨some 13, _, _, _, _, _⟩) rfl (fun K hK => ?_) AllReadyH.nil
      rw [if_pos (by rfl)]
      refine wp_append_rd _ (.tmp 10) (.tmp 12) 25 rfl W0.heap.size 28 i0 _ 5 80 Tryd.underlying25 HI.out hz0 hz1 hz2 rfl (by decide) _ _ _ (by rfl) HO6.out _ 1 1 (by intro h; cases h) _ (by rfl) rfl (Rd.of_blk HKC6.out) H1H.out (by unfold maxLen; omega) (by omega) HB6.out.size ?_
      intro v7 W7 hown hgr hob
      have HB7 := Lib.hid (HB6.out.grown hgr HB6.out.size (fun k e => (HO6.out.lt k e).1))
      have HO7 := Lib.hid hown
      have HS7 := Lib.hid (HSP.out _ HB7.out)
      obtain ⟨hk9, hn9⟩ := app_keep HKC6.out HNC6.out hgr hob
      have HKC7 := Lib.hid hk9
      have HNC7 := Lib.hid hn9
      clear hk9 hn9
      obtain ⟨hk9, hn9⟩ := app_keep HKB6.out HNB6.out hgr hob
      have HKB7 := Lib.hid hk9
      have HNB7 := Lib.hid hn9
      clear hk9 hn9
      clear hown hgr hob
      refine hK.out _ _ (by exact HS7.out) (fun hHeld2 => ?_)
      clear hK K hHeld
      have hHeld := hHeld2
      clear hHeld2
      try simp only [Act.put, List.setIfInBounds_toArray, List.set_cons_zero, List.set_cons_succ]
      refine wpAnyH_ready (rs := [9]) (by kernel_rfl) (by simp) ?_
      refine AllReadyH.cons (o := ⟨some 14, _, _, _, _, _⟩) rfl (fun K hK => ?_) AllReadyH.nil
      obtain ⟨A9, c9, hv9, -⟩ := HFIN.out W7 W7 v7 (HS7.out).1 (Below.refl _ _) HO7.out
      subst hv9
      go_simp
      refine (lList A9 (nk + 1 + 1) c9 _).mono ?_
      rintro e W8 ⟨rfl, hb⟩
      have HB8 := Lib.hid (HB7.out.trans (hb.mono HB7.out.size))
      have HS8 := Lib.hid (HSP.out _ HB8.out)
      obtain ⟨A8, c8, hv8, hfin⟩ := HFIN.out W7 W8 _ (HS8.out).1 hb HO7.out
      injection hv8 with e1 e2 e3
      subst e1 e3
      have HFN := Lib.hid hfin
      clear hb hfin e2
      refine hK.out _ _ (by exact HS8.out) (fun hHeld2 => ?_)
      clear hK K hHeld
      have hHeld := hHeld2
      clear hHeld2
      try simp only [Act.put, List.setIfInBounds_toArray, List.set_cons_zero, List.set_cons_succ]
      refine wpAnyH_ready (rs := [10]) (by kernel_rfl) (by simp) ?_
      refine AllReadyH.cons (o := ⟨none, _, _, _, _, _⟩) rfl (fun K hK => ?_) AllReadyH.nil
      have hk4 := HK4.out.keep HB8.out
      obtain ⟨c4, f4, l4⟩ := hk4.rules
      have HP4 := Lib.hid (v5_put hk4 (.int .i64 5) (.int .i64 0) (.string ⟨#[]⟩) (.slice A9 (nk + 1 + 1) c9) (.slice none 0 0))
      have HE4 := Lib.hid (HFN.out (.int .i64 5) (.int .i64 0) (.string ⟨#[]⟩) (.slice A9 (nk + 1 + 1) c9) (.slice none 0 0))
      clear hk4
      go_simp
      refine hK.out _ _ (by exact ⟨HE4.out.1, (((((HS8.out.2).far (by show w.heap.size ≠ w.heap.size + 1; omega) _).far (by show w.heap.size ≠ w.heap.size + 1; omega) _).far (by show w.heap.size ≠ w.heap.size + 1; omega) _).far (by show w.heap.size ≠ w.heap.size + 1; omega) _).far (by show w.heap.size ≠ w.heap.size + 1; omega) _⟩) (fun hHeld2 => ?_)
      clear hK K hHeld hHeld2 c4 f4 l4
      try simp only [Act.put, List.setIfInBounds_toArray, List.set_cons_zero, List.set_cons_succ]
      refine wpAnyH_done (by kernel_rfl) ?_ _
      go_wp2
      obtain ⟨c4, f4, l4⟩ := HP4.out.rules
      refine bodyPost_ret (v := .agg #[.int .i64 5, .int .i64 0, .string ⟨#[]⟩, .slice A9 (nk + 1 + 1) c9, .slice none 0 0]) (by simp only [results, Tryd.results14]; go_simp) rfl ?_
      exact ⟨_, rfl, HE4.out.2, HE4.out.1⟩
    refine AllReadyH.cons (o := ⟨some 9, _, _, _, _, _⟩) rfl (fun K hK => ?_) ?_
    · go_simp
      refine hK.out _ _ (by exact ⟨(Below.alloc (HS2.out).1 (HS2.out).1.size _), Blk.alloc (HS2.out).2 _⟩) (fun hHeld2 => ?_)
      clear hK K hHeld
      try simp only [Act.put, List.setIfInBounds_toArray, List.set_cons_zero, List.set_cons_succ]
      refine wpAnyH_world (fun W3 hW => ?_)
      clear hHeld2
      have hb := bel_al hW
      have HB3 := Lib.hid (HB2.out.trans (hb.mono HB2.out.size))
      have HO3 := Lib.hid (own_al hW HO2.out)
      have HKB3 := Lib.hid (blk_al hW)
      have HNB3 := Lib.hid (own_ne HO2.out (Nat.le_refl _))
      have HS3 := Lib.hid (HSP.out _ HB3.out)
      have hHeld := HS3.out
      clear hb hW
      refine wpAnyH_ready (rs := [2, 7]) (by kernel_rfl) (by simp) ?_
      refine AllReadyH.cons (o := ⟨some 7, _, _, _, _, _⟩) rfl (fun K hK => ?_) ?_
      · rw [if_pos (by rfl)]
        refine wp_append_rd _ (.tmp 5) (.tmp 6) 25 rfl W0.heap.size 28 i0 _ 5 80 Tryd.underlying25 HI.out hz0 hz1 hz2 rfl (by decide) _ _ _ (by rfl) HO3.out _ nk ca HA.out _ (by rfl) HF.out (HRD.out _ (HS3.out).1) H1S.out (by unfold maxLen; omega) (by omega) HB3.out.size ?_
        intro v4 W4 hown hgr hob
        rw [Nat.zero_add, List.nil_append] at hown
        have HB4 := Lib.hid (HB3.out.grown hgr HB3.out.size (fun k e => (HO3.out.lt k e).1))
        have HO4 := Lib.hid hown
        have HS4 := Lib.hid (HSP.out _ HB4.out)
        obtain ⟨hk9, hn9⟩ := app_keep HKB3.out HNB3.out hgr hob
        have HKB4 := Lib.hid hk9
        have HNB4 := Lib.hid hn9
        clear hk9 hn9
        clear hown hgr hob
        refine hK.out _ _ (by exact HS4.out) (fun hHeld2 => ?_)
        clear hK K hHeld
        have hHeld := hHeld2
        clear hHeld2
        try simp only [Act.put, List.setIfInBounds_toArray, List.set_cons_zero, List.set_cons_succ]
        refine wpAnyH_ready (rs := [5, 7]) (by kernel_rfl) (by simp) ?_
        refine AllReadyH.cons (o := ⟨some 10, _, _, _, _, _⟩) rfl (fun K hK => ?_) ?_
        · rw [if_pos (by rfl)]
          refine wp_append_rd _ (.tmp 7) (.tmp 9) 25 rfl W0.heap.size 28 i0 _ 5 80 Tryd.underlying25 HI.out hz0 hz1 hz2 rfl (by decide) _ _ _ (by rfl) HO4.out _ 1 1 (by intro h; cases h) _ (by rfl) rfl (Rd.of_blk HKB4.out) H1V.out (by unfold maxLen; omega) (by omega) HB4.out.size ?_
          intro v5 W5 hown hgr hob
          have HB5 := Lib.hid (HB4.out.grown hgr HB4.out.size (fun k e => (HO4.out.lt k e).1))
          have HO5 := Lib.hid hown
          have HS5 := Lib.hid (HSP.out _ HB5.out)
          obtain ⟨hk9, hn9⟩ := app_keep HKB4.out HNB4.out hgr hob
          have HKB5 := Lib.hid hk9
          have HNB5 := Lib.hid hn9
          clear hk9 hn9
          clear hown hgr hob
          refine hK.out _ _ (by exact HS5.out) (fun hHeld2 => ?_)
          clear hK K hHeld
          have hHeld := hHeld2
          clear hHeld2
          try simp only [Act.put, List.setIfInBounds_toArray, List.set_cons_zero, List.set_cons_succ]
          refine wpAnyH_ready (rs := [7]) (by kernel_rfl) (by simp) ?_
          refine AllReadyH.cons (o := ⟨some 12, _, _, _, _, _⟩) rfl (fun K hK => ?_) AllReadyH.nil
          go_simp
          refine hK.out _ _ (by exact ⟨(Below.alloc (HS5.out).1 (HS5.out).1.size _), Blk.alloc (HS5.out).2 _⟩) (fun hHeld2 => ?_)
          clear hK K hHeld
          try simp only [Act.put, List.setIfInBounds_toArray, List.set_cons_zero, List.set_cons_succ]
          refine wpAnyH_world (fun W6 hW => ?_)
          clear hHeld2
          have hb := bel_al hW
          have HB6 := Lib.hid (HB5.out.trans (hb.mono HB5.out.size))
          have HO6 := Lib.hid (own_al hW HO5.out)
          have HKB6 := Lib.hid (HKB5.out.keep hb)
          have HKC6 := Lib.hid (blk_al hW)
          have HNC6 := Lib.hid (own_ne HO5.out (Nat.le_refl _))
          have HS6 := Lib.hid (HSP.out _ HB6.out)
          have hHeld := HS6.out
          clear hb hW
          refine wpAnyH_ready (rs := [8]) (by kernel_rfl) (by simp) ?_
          refine AllReadyH.cons (o := ⟨some 13, _, _, _, _, _⟩) rfl (fun K hK => ?_) AllReadyH.nil
          rw [if_pos (by rfl)]
          refine wp_append_rd _ (.tmp 10) (.tmp 12) 25 rfl W0.heap.size 28 i0 _ 5 80 Tryd.underlying25 HI.out hz0 hz1 hz2 rfl (by decide) _ _ _ (by rfl) HO6.out _ 1 1 (by intro h; cases h) _ (by rfl) rfl (Rd.of_blk HKC6.out) H1H.out (by unfold maxLen; omega) (by omega) HB6.out.size ?_
          intro v7 W7 hown hgr hob
          have HB7 := Lib.hid (HB6.out.grown hgr HB6.out.size (fun k e => (HO6.out.lt k e).1))
          have HO7 := Lib.hid hown
          have HS7 := Lib.hid (HSP.out _ HB7.out)
          obtain ⟨hk9, hn9⟩ := app_keep HKB6.out HNB5.out hgr hob
          have HKB7 := Lib.hid hk9
          have HNB7 := Lib.hid hn9
          clear hk9 hn9
          obtain ⟨hk9, hn9⟩ := app_keep HKC6.out HNC6.out hgr hob
          have HKC7 := Lib.hid hk9
          have HNC7 := Lib.hid hn9
          clear hk9 hn9
          clear hown hgr hob
          refine hK.out _ _ (by exact HS7.out) (fun hHeld2 => ?_)
          clear hK K hHeld
          have hHeld := hHeld2
          clear hHeld2
          try simp only [Act.put, List.setIfInBounds_toArray, List.set_cons_zero, List.set_cons_succ]
          refine wpAnyH_ready (rs := [9]) (by kernel_rfl) (by simp) ?_
          refine AllReadyH.cons (o := ⟨some 14, _, _, _, _, _⟩) rfl (fun K hK => ?_) AllReadyH.nil
          obtain ⟨A9, c9, hv9, -⟩ := HFIN.out W7 W7 v7 (HS7.out).1 (Below.refl _ _) HO7.out
          subst hv9
          go_simp
          refine (lList A9 (nk + 1 + 1) c9 _).mono ?_
          rintro e W8 ⟨rfl, hb⟩
          have HB8 := Lib.hid (HB7.out.trans (hb.mono HB7.out.size))
          have HS8 := Lib.hid (HSP.out _ HB8.out)
          obtain ⟨A8, c8, hv8, hfin⟩ := HFIN.out W7 W8 _ (HS8.out).1 hb HO7.out
          injection hv8 with e1 e2 e3
          subst e1 e3
          have HFN := Lib.hid hfin
          clear hb hfin e2
          refine hK.out _ _ (by exact HS8.out) (fun hHeld2 => ?_)
          clear hK K hHeld
          have hHeld := hHeld2
          clear hHeld2
          try simp only [Act.put, List.setIfInBounds_toArray, List.set_cons_zero, List.set_cons_succ]
          refine wpAnyH_ready (rs := [10]) (by kernel_rfl) (by simp) ?_
          refine AllReadyH.cons (o := ⟨none, _, _, _, _, _⟩) rfl (fun K hK => ?_) AllReadyH.nil
          have hk4 := HK4.out.keep HB8.out
          obtain ⟨c4, f4, l4⟩ := hk4.rules
          have HP4 := Lib.hid (v5_put hk4 (.int .i64 5) (.int .i64 0) (.string ⟨#[]⟩) (.slice A9 (nk + 1 + 1) c9) (.slice none 0 0))
          have HE4 := Lib.hid (HFN.out (.int .i64 5) (.int .i64 0) (.string ⟨#[]⟩) (.slice A9 (nk + 1 + 1) c9) (.slice none 0 0))
          clear hk4
          go_simp
          refine hK.out _ _ (by exact ⟨HE4.out.1, (((((HS8.out.2).far (by show w.heap.size ≠ w.heap.size + 1; omega) _).far (by show w.heap.size ≠ w.heap.size + 1; omega) _).far (by show w.heap.size ≠ w.heap.size + 1; omega) _).far (by show w.heap.size ≠ w.heap.size + 1; omega) _).far (by show w.heap.size ≠ w.heap.size + 1; omega) _⟩) (fun hHeld2 => ?_)
          clear hK K hHeld hHeld2 c4 f4 l4
          try simp only [Act.put, List.setIfInBounds_toArray, List.set_cons_zero, List.set_cons_succ]
          refine wpAnyH_done (by kernel_rfl) ?_ _
          go_wp2
          obtain ⟨c4, f4, l4⟩ := HP4.out.rules
          refine bodyPost_ret (v := .agg #[.int .i64 5, .int .i64 0, .string ⟨#[]⟩, .slice A9 (nk + 1 + 1) c9, .slice none 0 0]) (by simp only [results, Tryd.results14]; go_simp) rfl ?_
          exact ⟨_, rfl, HE4.out.2, HE4.out.1⟩
        refine AllReadyH.cons (o := ⟨some 12, _, _, _, _, _⟩) rfl (fun K hK => ?_) AllReadyH.nil
        go_simp
        refine hK.out _ _ (by exact ⟨(Below.alloc (HS4.out).1 (HS4.out).1.size _), Blk.alloc (HS4.out).2 _⟩) (fun hHeld2 => ?_)
        clear hK K hHeld
        try simp only [Act.put, List.setIfInBounds_toArray, List.set_cons_zero, List.set_cons_succ]
        refine wpAnyH_world (fun W5 hW => ?_)
        clear hHeld2
        have hb := bel_al hW
        have HB5 := Lib.hid (HB4.out.trans (hb.mono HB4.out.size))
        have HO5 := Lib.hid (own_al hW HO4.out)
        have HKB5 := Lib.hid (HKB4.out.keep hb)
        have HKC5 := Lib.hid (blk_al hW)
        have HNC5 := Lib.hid (own_ne HO4.out (Nat.le_refl _))
        have HS5 := Lib.hid (HSP.out _ HB5.out)
        have hHeld := HS5.out
        clear hb hW
        refine wpAnyH_ready (rs := [5]) (by kernel_rfl) (by simp) ?_
        refine AllReadyH.cons (o := ⟨some 10, _, _, _, _, _⟩) rfl (fun K hK => ?_) AllReadyH.nil
        rw [if_pos (by rfl)]
        refine wp_append_rd _ (.tmp 7) (.tmp 9) 25 rfl W0.heap.size 28 i0 _ 5 80 Tryd.underlying25 HI.out hz0 hz1 hz2 rfl (by decide) _ _ _ (by rfl) HO5.out _ 1 1 (by intro h; cases h) _ (by rfl) rfl (Rd.of_blk HKB5.out) H1V.out (by unfold maxLen; omega) (by omega) HB5.out.size ?_
        intro v6 W6 hown hgr hob
        have HB6 := Lib.hid (HB5.out.grown hgr HB5.out.size (fun k e => (HO5.out.lt k e).1))
        have HO6 := Lib.hid hown
        have HS6 := Lib.hid (HSP.out _ HB6.out)
        obtain ⟨hk9, hn9⟩ := app_keep HKB5.out HNB4.out hgr hob
        have HKB6 := Lib.hid hk9
        have HNB6 := Lib.hid hn9
        clear hk9 hn9
        obtain ⟨hk9, hn9⟩ := app_keep HKC5.out HNC5.out hgr hob
        have HKC6 := Lib.hid hk9
        have HNC6 := Lib.hid hn9
        clear hk9 hn9
        clear hown hgr hob
        refine hK.out _ _ (by exact HS6.out) (fun hHeld2 => ?_)
        clear hK K hHeld
        have hHeld := hHeld2
        clear hHeld2
        try simp only [Act.put, List.setIfInBounds_toArray, List.set_cons_zero, List.set_cons_succ]
        refine wpAnyH_ready (rs := [8]) (by kernel_rfl) (by simp) ?_
        refine AllReadyH.cons (o := ⟨some 13, _, _, _, _, _⟩) rfl (fun K hK => ?_) AllReadyH.nil
        rw [if_pos (by rfl)]
        refine wp_append_rd _ (.tmp 10) (.tmp 12) 25 rfl W0.heap.size 28 i0 _ 5 80 Tryd.underlying25 HI.out hz0 hz1 hz2 rfl (by decide) _ _ _ (by rfl) HO6.out _ 1 1 (by intro h; cases h) _ (by rfl) rfl (Rd.of_blk HKC6.out) H1H.out (by unfold maxLen; omega) (by omega) HB6.out.size ?_
        intro v7 W7 hown hgr hob
        have HB7 := Lib.hid (HB6.out.grown hgr HB6.out.size (fun k e => (HO6.out.lt k e).1))
        have HO7 := Lib.hid hown
        have HS7 := Lib.hid (HSP.out _ HB7.out)
        obtain ⟨hk9, hn9⟩ := app_keep HKB6.out HNB6.out hgr hob
        have HKB7 := Lib.hid hk9
        have HNB7 := Lib.hid hn9
        clear hk9 hn9
        obtain ⟨hk9, hn9⟩ := app_keep HKC6.out HNC6.out hgr hob
        have HKC7 := Lib.hid hk9
        have HNC7 := Lib.hid hn9
        clear hk9 hn9
        clear hown hgr hob
        refine hK.out _ _ (by exact HS7.out) (fun hHeld2 => ?_)
        clear hK K hHeld
        have hHeld := hHeld2
        clear hHeld2
        try simp only [Act.put, List.setIfInBounds_toArray, List.set_cons_zero, List.set_cons_succ]
        refine wpAnyH_ready (rs := [9]) (by kernel_rfl) (by simp) ?_
        refine AllReadyH.cons (o := ⟨some 14, _, _, _, _, _⟩) rfl (fun K hK => ?_) AllReadyH.nil
        obtain ⟨A9, c9, hv9, -⟩ := HFIN.out W7 W7 v7 (HS7.out).1 (Below.refl _ _) HO7.out
        subst hv9
        go_simp
        refine (lList A9 (nk + 1 + 1) c9 _).mono ?_
        rintro e W8 ⟨rfl, hb⟩
        have HB8 := Lib.hid (HB7.out.trans (hb.mono HB7.out.size))
        have HS8 := Lib.hid (HSP.out _ HB8.out)
        obtain ⟨A8, c8, hv8, hfin⟩ := HFIN.out W7 W8 _ (HS8.out).1 hb HO7.out
        injection hv8 with e1 e2 e3
        subst e1 e3
        have HFN := Lib.hid hfin
        clear hb hfin e2
        refine hK.out _ _ (by exact HS8.out) (fun hHeld2 => ?_)
        clear hK K hHeld
        have hHeld := hHeld2
        clear hHeld2
        try simp only [Act.put, List.setIfInBounds_toArray, List.set_cons_zero, List.set_cons_succ]
        refine wpAnyH_ready (rs := [10]) (by kernel_rfl) (by simp) ?_
        refine AllReadyH.cons (o := ⟨none, _, _, _, _, _⟩) rfl (fun K hK => ?_) AllReadyH.nil
        have hk4 := HK4.out.keep HB8.out
        obtain ⟨c4, f4, l4⟩ := hk4.rules
        have HP4 := Lib.hid (v5_put hk4 (.int .i64 5) (.int .i64 0) (.string ⟨#[]⟩) (.slice A9 (nk + 1 + 1) c9) (.slice none 0 0))
        have HE4 := Lib.hid (HFN.out (.int .i64 5) (.int .i64 0) (.string ⟨#[]⟩) (.slice A9 (nk + 1 + 1) c9) (.slice none 0 0))
        clear hk4
        go_simp
        refine hK.out _ _ (by exact ⟨HE4.out.1, (((((HS8.out.2).far (by show w.heap.size ≠ w.heap.size + 1; omega) _).far (by show w.heap.size ≠ w.heap.size + 1; omega) _).far (by show w.heap.size ≠ w.heap.size + 1; omega) _).far (by show w.heap.size ≠ w.heap.size + 1; omega) _).far (by show w.heap.size ≠ w.heap.size + 1; omega) _⟩) (fun hHeld2 => ?_)
        clear hK K hHeld hHeld2 c4 f4 l4
        try simp only [Act.put, List.setIfInBounds_toArray, List.set_cons_zero, List.set_cons_succ]
        refine wpAnyH_done (by kernel_rfl) ?_ _
        go_wp2
        obtain ⟨c4, f4, l4⟩ := HP4.out.rules
        refine bodyPost_ret (v := .agg #[.int .i64 5, .int .i64 0, .string ⟨#[]⟩, .slice A9 (nk + 1 + 1) c9, .slice none 0 0]) (by simp only [results, Tryd.results14]; go_simp) rfl ?_
        exact ⟨_, rfl, HE4.out.2, HE4.out.1⟩
      refine AllReadyH.cons (o := ⟨some 12, _, _, _, _, _⟩) rfl (fun K hK => ?_) AllReadyH.nil
      go_simp
      refine hK.out _ _ (by exact ⟨(Below.alloc (HS3.out).1 (HS3.out).1.size _), Blk.alloc (HS3.out).2 _⟩) (fun hHeld2 => ?_)
      clear hK K hHeld
      try simp only [Act.put, List.setIfInBounds_toArray, List.set_cons_zero, List.set_cons_succ]
      refine wpAnyH_world (fun W4 hW => ?_)
      clear hHeld2
      have hb := bel_al hW
      have HB4 := Lib.hid (HB3.out.trans (hb.mono HB3.out.size))
      have HO4 := Lib.hid (own_al hW HO3.out)
      have HKB4 := Lib.hid (HKB3.out.keep hb)
      have HKC4 := Lib.hid (blk_al hW)
      have HNC4 := Lib.hid (own_ne HO3.out (Nat.le_refl _))
      have HS4 := Lib.hid (HSP.out _ HB4.out)
      have hHeld := HS4.out
      clear hb hW
      refine wpAnyH_ready (rs := [2]) (by kernel_rfl) (by simp) ?_
      refine AllReadyH.cons (o := ⟨some 7, _, _, _, _, _⟩) rfl (fun K hK => ?_) AllReadyH.nil
      rw [if_pos (by rfl)]
      refine wp_append_rd _ (.tmp 5) (.tmp 6) 25 rfl W0.heap.size 28 i0 _ 5 80 Tryd.underlying25 HI.out hz0 hz1 hz2 rfl (by decide) _ _ _ (by rfl) HO4.out _ nk ca HA.out _ (by rfl) HF.out (HRD.out _ (HS4.out).1) H1S.out (by unfold maxLen; omega) (by omega) HB4.out.size ?_
      intro v5 W5 hown hgr hob
      rw [Nat.zero_add, List.nil_append] at hown
      have HB5 := Lib.hid (HB4.out.grown hgr HB4.out.size (fun k e => (HO4.out.lt k e).1))
      have HO5 := Lib.hid hown
      have HS5 := Lib.hid (HSP.out _ HB5.out)
      obtain ⟨hk9, hn9⟩ := app_keep HKB4.out HNB3.out hgr hob
      have HKB5 := Lib.hid hk9
      have HNB5 := Lib.hid hn9
      clear hk9 hn9
      obtain ⟨hk9, hn9⟩ := app_keep HKC4.out HNC4.out hgr hob
      have HKC5 := Lib.hid hk9
      have HNC5 := Lib.hid hn9
      clear hk9 hn9
      clear hown hgr hob
      refine hK.out _ _ (by exact HS5.out) (fun hHeld2 => ?_)
      clear hK K hHeld
      have hHeld := hHeld2
      clear hHeld2
      try simp only [Act.put, List.setIfInBounds_toArray, List.set_cons_zero, List.set_cons_succ]
      refine wpAnyH_ready (rs := [5]) (by kernel_rfl) (by simp) ?_
      refine AllReadyH.cons (o := ⟨some 10, _, _, _, _, _⟩) rfl (fun K hK => ?_) AllReadyH.nil
      rw [if_pos (by rfl)]
      refine wp_append_rd _ (.tmp 7) (.tmp 9) 25 rfl W0.heap.size 28 i0 _ 5 80 Tryd.underlying25 HI.out hz0 hz1 hz2 rfl (by decide) _ _ _ (by rfl) HO5.out _ 1 1 (by intro h; cases h) _ (by rfl) rfl (Rd.of_blk HKB5.out) H1V.out (by unfold maxLen; omega) (by omega) HB5.out.size ?_
      intro v6 W6 hown hgr hob
      have HB6 := Lib.hid (HB5.out.grown hgr HB5.out.size (fun k e => (HO5.out.lt k e).1))
      have HO6 := Lib.hid hown
      have HS6 := Lib.hid (HSP.out _ HB6.out)
      obtain ⟨hk9, hn9⟩ := app_keep HKB5.out HNB5.out hgr hob
      have HKB6 := Lib.hid hk9
      have HNB6 := Lib.hid hn9
      clear hk9 hn9
      obtain ⟨hk9, hn9⟩ := app_keep HKC5.out HNC5.out hgr hob
      have HKC6 := Lib.hid hk9
      have HNC6 := Lib.hid hn9
      clear hk9 hn9
      clear hown hgr hob
      refine hK.out _ _ (by exact HS6.out) (fun hHeld2 => ?_)
      clear hK K hHeld
      have hHeld := hHeld2
      clear hHeld2
      try simp only [Act.put, List.setIfInBounds_toArray, List.set_cons_zero, List.set_cons_succ]
      refine wpAnyH_ready (rs := [8]) (by kernel_rfl) (by simp) ?_
      refine AllReadyH.cons (o := ⟨some 13, _, _, _, _, _⟩) rfl (fun K hK => ?_) AllReadyH.nil
      rw [if_pos (by rfl)]
      refine wp_append_rd _ (.tmp 10) (.tmp 12) 25 rfl W0.heap.size 28 i0 _ 5 80 Tryd.underlying25 HI.out hz0 hz1 hz2 rfl (by decide) _ _ _ (by rfl) HO6.out _ 1 1 (by intro h; cases h) _ (by rfl) rfl (Rd.of_blk HKC6.out) H1H.out (by unfold maxLen; omega) (by omega) HB6.out.size ?_
      intro v7 W7 hown hgr hob
      have HB7 := Lib.hid (HB6.out.grown hgr HB6.out.size (fun k e => (HO6.out.lt k e).1))
      have HO7 := Lib.hid hown
      have HS7 := Lib.hid (HSP.out _ HB7.out)
      obtain ⟨hk9, hn9⟩ := app_keep HKB6.out HNB6.out hgr hob
      have HKB7 := Lib.hid hk9
      have HNB7 := Lib.hid hn9
      clear hk9 hn9
      obtain ⟨hk9, hn9⟩ := app_keep HKC6.out HNC6.out hgr hob
      have HKC7 := Lib.hid hk9
      have HNC7 := Lib.hid hn9
      clear hk9 hn9
      clear hown hgr hob
      refine hK.out _ _ (by exact HS7.out) (fun hHeld2 => ?_)
      clear hK K hHeld
      have hHeld := hHeld2
      clear hHeld2
      try simp only [Act.put, List.setIfInBounds_toArray, List.set_cons_zero, List.set_cons_succ]
      refine wpAnyH_ready (rs := [9]) (by kernel_rfl) (by simp) ?_
      refine AllReadyH.cons (o := ⟨some 14, _, _, _, _, _⟩) rfl (fun K hK => ?_) AllReadyH.nil
      obtain ⟨A9, c9, hv9, -⟩ := HFIN.out W7 W7 v7 (HS7.out).1 (Below.refl _ _) HO7.out
      subst hv9
      go_simp
      refine (lList A9 (nk + 1 + 1) c9 _).mono ?_
      rintro e W8 ⟨rfl, hb⟩
      have HB8 := Lib.hid (HB7.out.trans (hb.mono HB7.out.size))
      have HS8 := Lib.hid (HSP.out _ HB8.out)
      obtain ⟨A8, c8, hv8, hfin⟩ := HFIN.out W7 W8 _ (HS8.out).1 hb HO7.out
      injection hv8 with e1 e2 e3
      subst e1 e3
      have HFN := Lib.hid hfin
      clear hb hfin e2
      refine hK.out _ _ (by exact HS8.out) (fun hHeld2 => ?_)
      clear hK K hHeld
      have hHeld := hHeld2
      clear hHeld2
      try simp only [Act.put, List.setIfInBounds_toArray, List.set_cons_zero, List.set_cons_succ]
      refine wpAnyH_ready (rs := [10]) (by kernel_rfl) (by simp) ?_
      refine AllReadyH.cons (o := ⟨none, _, _, _, _, _⟩) rfl (fun K hK => ?_) AllReadyH.nil
      have hk4 := HK4.out.keep HB8.out
      obtain ⟨c4, f4, l4⟩ := hk4.rules
      have HP4 := Lib.hid (v5_put hk4 (.int .i64 5) (.int .i64 0) (.string ⟨#[]⟩) (.slice A9 (nk + 1 + 1) c9) (.slice none 0 0))
      have HE4 := Lib.hid (HFN.out (.int .i64 5) (.int .i64 0) (.string ⟨#[]⟩) (.slice A9 (nk + 1 + 1) c9) (.slice none 0 0))
      clear hk4
      go_simp
      refine hK.out _ _ (by exact ⟨HE4.out.1, (((((HS8.out.2).far (by show w.heap.size ≠ w.heap.size + 1; omega) _).far (by show w.heap.size ≠ w.heap.size + 1; omega) _).far (by show w.heap.size ≠ w.heap.size + 1; omega) _).far (by show w.heap.size ≠ w.heap.size + 1; omega) _).far (by show w.heap.size ≠ w.heap.size + 1; omega) _⟩) (fun hHeld2 => ?_)
      clear hK K hHeld hHeld2 c4 f4 l4
      try simp only [Act.put, List.setIfInBounds_toArray, List.set_cons_zero, List.set_cons_succ]
      refine wpAnyH_done (by kernel_rfl) ?_ _
      go_wp2
      obtain ⟨c4, f4, l4⟩ := HP4.out.rules
      refine bodyPost_ret (v := .agg #[.int .i64 5, .int .i64 0, .string ⟨#[]⟩, .slice A9 (nk + 1 + 1) c9, .slice none 0 0]) (by simp only [results, Tryd.results14]; go_simp) rfl ?_
      exact ⟨_, rfl, HE4.out.2, HE4.out.1⟩
    refine AllReadyH.cons (o := ⟨some 12, _, _, _, _, _⟩) rfl (fun K hK => ?_) AllReadyH.nil
    go_simp
    refine hK.out _ _ (by exact ⟨(Below.alloc (HS2.out).1 (HS2.out).1.size _), Blk.alloc (HS2.out).2 _⟩) (fun hHeld2 => ?_)
    clear hK K hHeld
    try simp only [Act.put, List.setIfInBounds_toArray, List.set_cons_zero, List.set_cons_succ]
    refine wpAnyH_world (fun W3 hW => ?_)
    clear hHeld2
    have hb := bel_al hW
    have HB3 := Lib.hid (HB2.out.trans (hb.mono HB2.out.size))
    have HO3 := Lib.hid (own_al hW HO2.out)
    have HKC3 := Lib.hid (blk_al hW)
    have HNC3 := Lib.hid (own_ne HO2.out (Nat.le_refl _))
    have HS3 := Lib.hid (HSP.out _ HB3.out)
    have hHeld := HS3.out
    clear hb hW
    refine wpAnyH_ready (rs := [2, 4]) (by kernel_rfl) (by simp) ?_
    refine AllReadyH.cons (o := ⟨some 7, _, _, _, _, _⟩) rfl (fun K hK => ?_) ?_
    · rw [if_pos (by rfl)]
      refine wp_append_rd _ (.tmp 5) (.tmp 6) 25 rfl W0.heap.size 28 i0 _ 5 80 Tryd.underlying25 HI.out hz0 hz1 hz2 rfl (by decide) _ _ _ (by rfl) HO3.out _ nk ca HA.out _ (by rfl) HF.out (HRD.out _ (HS3.out).1) H1S.out (by unfold maxLen; omega) (by omega) HB3.out.size ?_
      intro v4 W4 hown hgr hob
      rw [Nat.zero_add, List.nil_append] at hown
      have HB4 := Lib.hid (HB3.out.grown hgr HB3.out.size (fun k e => (HO3.out.lt k e).1))
      have HO4 := Lib.hid hown
      have HS4 := Lib.hid (HSP.out _ HB4.out)
      obtain ⟨hk9, hn9⟩ := app_keep HKC3.out HNC3.out hgr hob
      have HKC4 := Lib.hid hk9
      have HNC4 := Lib.hid hn9
      clear hk9 hn9
      clear hown hgr hob
      refine hK.out _ _ (by exact HS4.out) (fun hHeld2 => ?_)
      clear hK K hHeld
      have hHeld := hHeld2
      clear hHeld2
      try simp only [Act.put, List.setIfInBounds_toArray, List.set_cons_zero, List.set_cons_succ]
      refine wpAnyH_ready (rs := [4]) (by kernel_rfl) (by simp) ?_
      refine AllReadyH.cons (o := ⟨some 9, _, _, _, _, _⟩) rfl (fun K hK => ?_) AllReadyH.nil
      go_simp
      refine hK.out _ _ (by exact ⟨(Below.alloc (HS4.out).1 (HS4.out).1.size _), Blk.alloc (HS4.out).2 _⟩) (fun hHeld2 => ?_)
      clear hK K hHeld
      try simp only [Act.put, List.setIfInBounds_toArray, List.set_cons_zero, List.set_cons_succ]
      refine wpAnyH_world (fun W5 hW => ?_)
      clear hHeld2
      have hb := bel_al hW
      have HB5 := Lib.hid (HB4.out.trans (hb.mono HB4.out.size))
      have HO5 := Lib.hid (own_al hW HO4.out)
      have HKC5 := Lib.hid (HKC4.out.keep hb)
      have HKB5 := Lib.hid (blk_al hW)
      have HNB5 := Lib.hid (own_ne HO4.out (Nat.le_refl _))
      have HS5 := Lib.hid (HSP.out _ HB5.out)
      have hHeld := HS5.out
      clear hb hW
      refine wpAnyH_ready (rs := [5]) (by kernel_rfl) (by simp) ?_
      refine AllReadyH.cons (o := ⟨some 10, _, _, _, _, _⟩) rfl (fun K hK => ?_) AllReadyH.nil
      rw [if_pos (by rfl)]
      refine wp_append_rd _ (.tmp 7) (.tmp 9) 25 rfl W0.heap.size 28 i0 _ 5 80 Tryd.underlying25 HI.out hz0 hz1 hz2 rfl (by decide) _ _ _ (by rfl) HO5.out _ 1 1 (by intro h; cases h) _ (by rfl) rfl (Rd.of_blk HKB5.out) H1V.out (by unfold maxLen; omega) (by omega) HB5.out.size ?_
      intro v6 W6 hown hgr hob
      have HB6 := Lib.hid (HB5.out.grown hgr HB5.out.size (fun k e => (HO5.out.lt k e).1))
      have HO6 := Lib.hid hown
      have HS6 := Lib.hid (HSP.out _ HB6.out)
      obtain ⟨hk9, hn9⟩ := app_keep HKC5.out HNC4.out hgr hob
      have HKC6 := Lib.hid hk9
      have HNC6 := Lib.hid hn9
      clear hk9 hn9
      obtain ⟨hk9, hn9⟩ := app_keep HKB5.out HNB5.out hgr hob
      have HKB6 := Lib.hid hk9
      have HNB6 := Lib.hid hn9
      clear hk9 hn9
      clear hown hgr hob
      refine hK.out _ _ (by exact HS6.out) (fun hHeld2 => ?_)
      clear hK K hHeld
      have hHeld := hHeld2
      clear hHeld2
      try simp only [Act.put, List.setIfInBounds_toArray, List.set_cons_zero, List.set_cons_succ]
      refine wpAnyH_ready (rs := [8]) (by kernel_rfl) (by simp) ?_
      refine AllReadyH.cons (o := ⟨some 13, _, _, _, _, _⟩) rfl (fun K hK => ?_) AllReadyH.nil
      rw [if_pos (by rfl)]
      refine wp_append_rd _ (.tmp 10) (.tmp 12) 25 rfl W0.heap.size 28 i0 _ 5 80 Tryd.underlying25 HI.out hz0 hz1 hz2 rfl (by decide) _ _ _ (by rfl) HO6.out _ 1 1 (by intro h; cases h) _ (by rfl) rfl (Rd.of_blk HKC6.out) H1H.out (by unfold maxLen; omega) (by omega) HB6.out.size ?_
      intro v7 W7 hown hgr hob
      have HB7 := Lib.hid (HB6.out.grown hgr HB6.out.size (fun k e => (HO6.out.lt k e).1))
      have HO7 := Lib.hid hown
      have HS7 := Lib.hid (HSP.out _ HB7.out)
      obtain ⟨hk9, hn9⟩ := app_keep HKC6.out HNC6.out hgr hob
      have HKC7 := Lib.hid hk9
      have HNC7 := Lib.hid hn9
      clear hk9 hn9
      obtain ⟨hk9, hn9⟩ := app_keep HKB6.out HNB6.out hgr hob
      have HKB7 := Lib.hid hk9
      have HNB7 := Lib.hid hn9
      clear hk9 hn9
      clear hown hgr hob
      refine hK.out _ _ (by exact HS7.out) (fun hHeld2 => ?_)
      clear hK K hHeld
      have hHeld := hHeld2
      clear hHeld2
      try simp only [Act.put, List.setIfInBounds_toArray, List.set_cons_zero, List.set_cons_succ]
      refine wpAnyH_ready (rs := [9]) (by kernel_rfl) (by simp) ?_
      refine AllReadyH.cons (o := ⟨some 14, _, _, _, _, _⟩) rfl (fun K hK => ?_) AllReadyH.nil
      obtain ⟨A9, c9, hv9, -⟩ := HFIN.out W7 W7 v7 (HS7.out).1 (Below.refl _ _) HO7.out
      subst hv9
      go_simp
      refine (lList A9 (nk + 1 + 1) c9 _).mono ?_
      rintro e W8 ⟨rfl, hb⟩
      have HB8 := Lib.hid (HB7.out.trans (hb.mono HB7.out.size))
      have HS8 := Lib.hid (HSP.out _ HB8.out)
      obtain ⟨A8, c8, hv8, hfin⟩ := HFIN.out W7 W8 _ (HS8.out).1 hb HO7.out
      injection hv8 with e1 e2 e3
      subst e1 e3
      have HFN := Lib.hid hfin
      clear hb hfin e2
      refine hK.out _ _ (by exact HS8.out) (fun hHeld2 => ?_)
      clear hK K hHeld
      have hHeld := hHeld2
      clear hHeld2
      try simp only [Act.put, List.setIfInBounds_toArray, List.set_cons_zero, List.set_cons_succ]
      refine wpAnyH_ready (rs := [10]) (by kernel_rfl) (by simp) ?_
      refine AllReadyH.cons (o := ⟨none, _, _, _, _, _⟩) rfl (fun K hK => ?_) AllReadyH.nil
      have hk4 := HK4.out.keep HB8.out
      obtain ⟨c4, f4, l4⟩ := hk4.rules
      have HP4 := Lib.hid (v5_put hk4 (.int .i64 5) (.int .i64 0) (.string ⟨#[]⟩) (.slice A9 (nk + 1 + 1) c9) (.slice none 0 0))
      have HE4 := Lib.hid (HFN.out (.int .i64 5) (.int .i64 0) (.string ⟨#[]⟩) (.slice A9 (nk + 1 + 1) c9) (.slice none 0 0))
      clear hk4
      go_simp
      refine hK.out _ _ (by exact ⟨HE4.out.1, (((((HS8.out.2).far (by show w.heap.size ≠ w.heap.size + 1; omega) _).far (by show w.heap.size ≠ w.heap.size + 1; omega) _).far (by show w.heap.size ≠ w.heap.size + 1; omega) _).far (by show w.heap.size ≠ w.heap.size + 1; omega) _).far (by show w.heap.size ≠ w.heap.size + 1; omega) _⟩) (fun hHeld2 => ?_)
      clear hK K hHeld hHeld2 c4 f4 l4
      try simp only [Act.put, List.setIfInBounds_toArray, List.set_cons_zero, List.set_cons_succ]
      refine wpAnyH_done (by kernel_rfl) ?_ _
      go_wp2
      obtain ⟨c4, f4, l4⟩ := HP4.out.rules
      refine bodyPost_ret (v := .agg #[.int .i64 5, .int .i64 0, .string ⟨#[]⟩, .slice A9 (nk + 1 + 1) c9, .slice none 0 0]) (by simp only [results, Tryd.results14]; go_simp) rfl ?_
      exact ⟨_, rfl, HE4.out.2, HE4.out.1⟩
    refine AllReadyH.cons (o := ⟨some 9, _, _, _, _, _⟩) rfl (fun K hK => ?_) AllReadyH.nil
    go_simp
    refine hK.out _ _ (by exact ⟨(Below.alloc (HS3.out).1 (HS3.out).1.size _), Blk.alloc (HS3.out).2 _⟩) (fun hHeld2 => ?_)
    clear hK K hHeld
    try simp only [Act.put, List.setIfInBounds_toArray, List.set_cons_zero, List.set_cons_succ]
    refine wpAnyH_world (fun W4 hW => ?_)
    clear hHeld2
    have hb := bel_al hW
    have HB4 := Lib.hid (HB3.out.trans (hb.mono HB3.out.size))
    have HO4 := Lib.hid (own_al hW HO3.out)
    have HKC4 := Lib.hid (HKC3.out.keep hb)
    have HKB4 := Lib.hid (blk_al hW)
    have HNB4 := Lib.hid (own_ne HO3.out (Nat.le_refl _))
    have HS4 := Lib.hid (HSP.out _ HB4.out)
    have hHeld := HS4.out
    clear hb hW
    refine wpAnyH_ready (rs := [2]) (by kernel_rfl) (by simp) ?_
    refine AllReadyH.cons (o := ⟨some 7, _, _, _, _, _⟩) rfl (fun K hK => ?_) AllReadyH.nil
    rw [if_pos (by rfl)]
    refine wp_append_rd _ (.tmp 5) (.tmp 6) 25 rfl W0.heap.size 28 i0 _ 5 80 Tryd.underlying25 HI.out hz0 hz1 hz2 rfl (by decide) _ _ _ (by rfl) HO4.out _ nk ca HA.out _ (by rfl) HF.out (HRD.out _ (HS4.out).1) H1S.out (by unfold maxLen; omega) (by omega) HB4.out.size ?_
    intro v5 W5 hown hgr hob
    rw [Nat.zero_add, List.nil_append] at hown
    have HB5 := Lib.hid (HB4.out.grown hgr HB4.out.size (fun k e => (HO4.out.lt k e).1))
    have HO5 := Lib.hid hown
    have HS5 := Lib.hid (HSP.out _ HB5.out)
    obtain ⟨hk9, hn9⟩ := app_keep HKC4.out HNC3.out hgr hob
    have HKC5 := Lib.hid hk9
    have HNC5 := Lib.hid hn9
    clear hk9 hn9
    obtain ⟨hk9, hn9⟩ := app_keep HKB4.out HNB4.out hgr hob
    have HKB5 := Lib.hid hk9
    have HNB5 := Lib.hid hn9
    clear hk9 hn9
    clear hown hgr hob
    refine hK.out _ _ (by exact HS5.out) (fun hHeld2 => ?_)
    clear hK K hHeld
    have hHeld := hHeld2
    clear hHeld2
    try simp only [Act.put, List.setIfInBounds_toArray, List.set_cons_zero, List.set_cons_succ]
    refine wpAnyH_ready (rs := [5]) (by kernel_rfl) (by simp) ?_
    refine AllReadyH.cons (o := ⟨some 10, _, _, _, _, _⟩) rfl (fun K hK => ?_) AllReadyH.nil
    rw [if_pos (by rfl)]
    refine wp_append_rd _ (.tmp 7) (.tmp 9) 25 rfl W0.heap.size 28 i0 _ 5 80 Tryd.underlying25 HI.out hz0 hz1 hz2 rfl (by decide) _ _ _ (by rfl) HO5.out _ 1 1 (by intro h; cases h) _ (by rfl) rfl (Rd.of_blk HKB5.out) H1V.out (by unfold maxLen; omega) (by omega) HB5.out.size ?_
    intro v6 W6 hown hgr hob
    have HB6 := Lib.hid (HB5.out.grown hgr HB5.out.size (fun k e => (HO5.out.lt k e).1))
    have HO6 := Lib.hid hown
    have HS6 := Lib.hid (HSP.out _ HB6.out)
    obtain ⟨hk9, hn9⟩ := app_keep HKC5.out HNC5.out hgr hob
    have HKC6 := Lib.hid hk9
    have HNC6 := Lib.hid hn9
    clear hk9 hn9
    obtain ⟨hk9, hn9⟩ := app_keep HKB5.out HNB5.out hgr hob
    have HKB6 := Lib.hid hk9
    have HNB6 := Lib.hid hn9
    clear hk9 hn9
    clear hown hgr hob
    refine hK.out _ _ (by exact HS6.out) (fun hHeld2 => ?_)
    clear hK K hHeld
    have hHeld := hHeld2
    clear hHeld2
    try simp only [Act.put, List.setIfInBounds_toArray, List.set_cons_zero, List.set_cons_succ]
    refine wpAnyH_ready (rs := [8]) (by kernel_rfl) (by simp) ?_
    refine AllReadyH.cons (o := ⟨some 13, _, _, _, _, _⟩) rfl (fun K hK => ?_) AllReadyH.nil
    rw [if_pos (by rfl)]
    refine wp_append_rd _ (.tmp 10) (.tmp 12) 25 rfl W0.heap.size 28 i0 _ 5 80 Tryd.underlying25 HI.out hz0 hz1 hz2 rfl (by decide) _ _ _ (by rfl) HO6.out _ 1 1 (by intro h; cases h) _ (by rfl) rfl (Rd.of_blk HKC6.out) H1H.out (by unfold maxLen; omega) (by omega) HB6.out.size ?_
    intro v7 W7 hown hgr hob
    have HB7 := Lib.hid (HB6.out.grown hgr HB6.out.size (fun k e => (HO6.out.lt k e).1))
    have HO7 := Lib.hid hown
    have HS7 := Lib.hid (HSP.out _ HB7.out)
    obtain ⟨hk9, hn9⟩ := app_keep HKC6.out HNC6.out hgr hob
    have HKC7 := Lib.hid hk9
    have HNC7 := Lib.hid hn9
    clear hk9 hn9
    obtain ⟨hk9, hn9⟩ := app_keep HKB6.out HNB6.out hgr hob
    have HKB7 := Lib.hid hk9
    have HNB7 := Lib.hid hn9
    clear hk9 hn9
    clear hown hgr hob
    refine hK.out _ _ (by exact HS7.out) (fun hHeld2 => ?_)
    clear hK K hHeld
    have hHeld := hHeld2
    clear hHeld2
    try simp only [Act.put, List.setIfInBounds_toArray, List.set_cons_zero, List.set_cons_succ]
    refine wpAnyH_ready (rs := [9]) (by kernel_rfl) (by simp) ?_
    refine AllReadyH.cons (o := ⟨some 14, _, _, _, _, _⟩) rfl (fun K hK => ?_) AllReadyH.nil
    obtain ⟨A9, c9, hv9, -⟩ := HFIN.out W7 W7 v7 (HS7.out).1 (Below.refl _ _) HO7.out
    subst hv9
    go_simp
    refine (lList A9 (nk + 1 + 1) c9 _).mono ?_
    rintro e W8 ⟨rfl, hb⟩
    have HB8 := Lib.hid (HB7.out.trans (hb.mono HB7.out.size))
    have HS8 := Lib.hid (HSP.out _ HB8.out)
    obtain ⟨A8, c8, hv8, hfin⟩ := HFIN.out W7 W8 _ (HS8.out).1 hb HO7.out
    injection hv8 with e1 e2 e3
    subst e1 e3
    have HFN := Lib.hid hfin
    clear hb hfin e2
    refine hK.out _ _ (by exact HS8.out) (fun hHeld2 => ?_)
    clear hK K hHeld
    have hHeld := hHeld2
    clear hHeld2
    try simp only [Act.put, List.setIfInBounds_toArray, List.set_cons_zero, List.set_cons_succ]
    refine wpAnyH_ready (rs := [10]) (by kernel_rfl) (by simp) ?_
    refine AllReadyH.cons (o := ⟨none, _, _, _, _, _⟩) rfl (fun K hK => ?_) AllReadyH.nil
    have hk4 := HK4.out.keep HB8.out
    obtain ⟨c4, f4, l4⟩ := hk4.rules
    have HP4 := Lib.hid (v5_put hk4 (.int .i64 5) (.int .i64 0) (.string ⟨#[]⟩) (.slice A9 (nk + 1 + 1) c9) (.slice none 0 0))
    have HE4 := Lib.hid (HFN.out (.int .i64 5) (.int .i64 0) (.string ⟨#[]⟩) (.slice A9 (nk + 1 + 1) c9) (.slice none 0 0))
    clear hk4
    go_simp
    refine hK.out _ _ (by exact ⟨HE4.out.1, (((((HS8.out.2).far (by show w.heap.size ≠ w.heap.size + 1; omega) _).far (by show w.heap.size ≠ w.heap.size + 1; omega) _).far (by show w.heap.size ≠ w.heap.size + 1; omega) _).far (by show w.heap.size ≠ w.heap.size + 1; omega) _).far (by show w.heap.size ≠ w.heap.size + 1; omega) _⟩) (fun hHeld2 => ?_)
    clear hK K hHeld hHeld2 c4 f4 l4
    try simp only [Act.put, List.setIfInBounds_toArray, List.set_cons_zero, List.set_cons_succ]
    refine wpAnyH_done (by kernel_rfl) ?_ _
    go_wp2
    obtain ⟨c4, f4, l4⟩ := HP4.out.rules
    refine bodyPost_ret (v := .agg #[.int .i64 5, .int .i64 0, .string ⟨#[]⟩, .slice A9 (nk + 1 + 1) c9, .slice none 0 0]) (by simp only [results, Tryd.results14]; go_simp) rfl ?_
    exact ⟨_, rfl, HE4.out.2, HE4.out.1⟩
  refine AllReadyH.cons (o := ⟨some 9, _, _, _, _, _⟩) rfl (fun K hK => ?_) ?_
  · go_simp
    refine hK.out _ _ (by exact ⟨(Below.alloc (HS1.out).1 (HS1.out).1.size _), Blk.alloc (HS1.out).2 _⟩) (fun hHeld2 => ?_)
    clear hK K hHeld
    try simp only [Act.put, List.setIfInBounds_toArray, List.set_cons_zero, List.set_cons_succ]
    refine wpAnyH_world (fun W2 hW => ?_)
    clear hHeld2
    have hb := bel_al hW
    have HB2 := Lib.hid (HB1.out.trans (hb.mono HB1.out.size))
    have HKB2 := Lib.hid (blk_al hW)
    have HS2 := Lib.hid (HSP.out _ HB2.out)
    have hHeld := HS2.out
    clear hb hW
    refine wpAnyH_ready (rs := [0, 7]) (by kernel_rfl) (by simp) ?_
    refine AllReadyH.cons (o := ⟨some 5, _, _, _, _, _⟩) rfl (fun K hK => ?_) ?_
    · go_simp
      refine hK.out _ _ (by exact ⟨(Below.alloc (HS2.out).1 (HS2.out).1.size _), Blk.alloc (HS2.out).2 _⟩) (fun hHeld2 => ?_)
      clear hK K hHeld
      try simp only [Act.put, List.setIfInBounds_toArray, List.set_cons_zero, List.set_cons_succ]
      refine wpAnyH_world (fun W3 hW => ?_)
      clear hHeld2
      have hb := bel_al hW
      have HB3 := Lib.hid (HB2.out.trans (hb.mono HB2.out.size))
      have HKB3 := Lib.hid (HKB2.out.keep hb)
      have HO3 := Lib.hid (own_nil hW HB2.out.size)
      have HNB3 := Lib.hid (own_nn HKB2.out.lt)
      have HS3 := Lib.hid (HSP.out _ HB3.out)
      have hHeld := HS3.out
      clear hb hW
      refine wpAnyH_ready (rs := [2, 7]) (by kernel_rfl) (by simp) ?_
      refine AllReadyH.cons (o := ⟨some 7, _, _, _, _, _⟩) rfl (fun K hK => ?_) ?_
      · rw [if_pos (by rfl)]
        refine wp_append_rd _ (.tmp 5) (.tmp 6) 25 rfl W0.heap.size 28 i0 _ 5 80 Tryd.underlying25 HI.out hz0 hz1 hz2 rfl (by decide) _ _ _ (by rfl) HO3.out _ nk ca HA.out _ (by rfl) HF.out (HRD.out _ (HS3.out).1) H1S.out (by unfold maxLen; omega) (by omega) HB3.out.size ?_
        intro v4 W4 hown hgr hob
        rw [Nat.zero_add, List.nil_append] at hown
        have HB4 := Lib.hid (HB3.out.grown hgr HB3.out.size (fun k e => (HO3.out.lt k e).1))
        have HO4 := Lib.hid hown
        have HS4 := Lib.hid (HSP.out _ HB4.out)
        obtain ⟨hk9, hn9⟩ := app_keep HKB3.out HNB3.out hgr hob
        have HKB4 := Lib.hid hk9
        have HNB4 := Lib.hid hn9
        clear hk9 hn9
        clear hown hgr hob
        refine hK.out _ _ (by exact HS4.out) (fun hHeld2 => ?_)
        clear hK K hHeld
        have hHeld := hHeld2
        clear hHeld2
        try simp only [Act.put, List.setIfInBounds_toArray, List.set_cons_zero, List.set_cons_succ]
        refine wpAnyH_ready (rs := [5, 7]) (by kernel_rfl) (by simp) ?_
        refine AllReadyH.cons (o := ⟨some 10, _, _, _, _, _⟩) rfl (fun K hK => ?_) ?_
        · rw [if_pos (by rfl)]
          refine wp_append_rd _ (.tmp 7) (.tmp 9) 25 rfl W0.heap.size 28 i0 _ 5 80 Tryd.underlying25 HI.out hz0 hz1 hz2 rfl (by decide) _ _ _ (by rfl) HO4.out _ 1 1 (by intro h; cases h) _ (by rfl) rfl (Rd.of_blk HKB4.out) H1V.out (by unfold maxLen; omega) (by omega) HB4.out.size ?_
          intro v5 W5 hown hgr hob
          have HB5 := Lib.hid (HB4.out.grown hgr HB4.out.size (fun k e => (HO4.out.lt k e).1))
          have HO5 := Lib.hid hown
          have HS5 := Lib.hid (HSP.out _ HB5.out)
          obtain ⟨hk9, hn9⟩ := app_keep HKB4.out HNB4.out hgr hob
          have HKB5 := Lib.hid hk9
          have HNB5 := Lib.hid hn9
          clear hk9 hn9
          clear hown hgr hob
          refine hK.out _ _ (by exact HS5.out) (fun hHeld2 => ?_)
          clear hK K hHeld
          have hHeld := hHeld2
          clear hHeld2
          try simp only [Act.put, List.setIfInBounds_toArray, List.set_cons_zero, List.set_cons_succ]
          refine wpAnyH_ready (rs := [7]) (by kernel_rfl) (by simp) ?_
          refine AllReadyH.cons (o := ⟨some 12, _, _, _, _, _⟩) rfl (fun K hK => ?_) AllReadyH.nil
          go_simp
          refine hK.out _ _ (by exact ⟨(Below.alloc (HS5.out).1 (HS5.out).1.size _), Blk.alloc (HS5.out).2 _⟩) (fun hHeld2 => ?_)
          clear hK K hHeld
          try simp only [Act.put, List.setIfInBounds_toArray, List.set_cons_zero, List.set_cons_succ]
          refine wpAnyH_world (fun W6 hW => ?_)
          clear hHeld2
          have hb := bel_al hW
          have HB6 := Lib.hid (HB5.out.trans (hb.mono HB5.out.size))
          have HO6 := Lib.hid (own_al hW HO5.out)
          have HKB6 := Lib.hid (HKB5.out.keep hb)
          have HKC6 := Lib.hid (blk_al hW)
          have HNC6 := Lib.hid (own_ne HO5.out (Nat.le_refl _))
          have HS6 := Lib.hid (HSP.out _ HB6.out)
          have hHeld := HS6.out
          clear hb hW
          refine wpAnyH_ready (rs := [8]) (by kernel_rfl) (by simp) ?_
          refine AllReadyH.cons (o := ⟨some 13, _, _, _, _, _⟩) rfl (fun K hK => ?_) AllReadyH.nil
          rw [if_pos (by rfl)]
          refine wp_append_rd _ (.tmp 10) (.tmp 12) 25 rfl W0.heap.size 28 i0 _ 5 80 Tryd.underlying25 HI.out hz0 hz1 hz2 rfl (by decide) _ _ _ (by rfl) HO6.out _ 1 1 (by intro h; cases h) _ (by rfl) rfl (Rd.of_blk HKC6.out) H1H.out (by unfold maxLen; omega) (by omega) HB6.out.size ?_
          intro v7 W7 hown hgr hob
          have HB7 := Lib.hid (HB6.out.grown hgr HB6.out.size (fun k e => (HO6.out.lt k e).1))
          have HO7 := Lib.hid hown
          have HS7 := Lib.hid (HSP.out _ HB7.out)
          obtain ⟨hk9, hn9⟩ := app_keep HKB6.out HNB5.out hgr hob
          have HKB7 := Lib.hid hk9
          have HNB7 := Lib.hid hn9
          clear hk9 hn9
          obtain ⟨hk9, hn9⟩ := app_keep HKC6.out HNC6.out hgr hob
          have HKC7 := Lib.hid hk9
          have HNC7 := Lib.hid hn9
          clear hk9 hn9
          clear hown hgr hob
          refine hK.out _ _ (by exact HS7.out) (fun hHeld2 => ?_)
          clear hK K hHeld
          have hHeld := hHeld2
          clear hHeld2
          try simp only [Act.put, List.setIfInBounds_toArray, List.set_cons_zero, List.set_cons_succ]
          refine wpAnyH_ready (rs := [9]) (by kernel_rfl) (by simp) ?_
          refine AllReadyH.cons (o := ⟨some 14, _, _, _, _, _⟩) rfl (fun K hK => ?_) AllReadyH.nil
          obtain ⟨A9, c9, hv9, -⟩ := HFIN.out W7 W7 v7 (HS7.out).1 (Below.refl _ _) HO7.out
          subst hv9
          go_simp
          refine (lList A9 (nk + 1 + 1) c9 _).mono ?_
          rintro e W8 ⟨rfl, hb⟩
          have HB8 := Lib.hid (HB7.out.trans (hb.mono HB7.out.size))
          have HS8 := Lib.hid (HSP.out _ HB8.out)
          obtain ⟨A8, c8, hv8, hfin⟩ := HFIN.out W7 W8 _ (HS8.out).1 hb HO7.out
          injection hv8 with e1 e2 e3
          subst e1 e3
          have HFN := Lib.hid hfin
          clear hb hfin e2
          refine hK.out _ _ (by exact HS8.out) (fun hHeld2 => ?_)
          clear hK K hHeld
          have hHeld := hHeld2
          clear hHeld2
          try simp only [Act.put, List.setIfInBounds_toArray, List.set_cons_zero, List.set_cons_succ]
          refine wpAnyH_ready (rs := [10]) (by kernel_rfl) (by simp) ?_
          refine AllReadyH.cons (o := ⟨none, _, _, _, _, _⟩) rfl (fun K hK => ?_) AllReadyH.nil
          have hk4 := HK4.out.keep HB8.out
          obtain ⟨c4, f4, l4⟩ := hk4.rules
          have HP4 := Lib.hid (v5_put hk4 (.int .i64 5) (.int .i64 0) (.string ⟨#[]⟩) (.slice A9 (nk + 1 + 1) c9) (.slice none 0 0))
          have HE4 := Lib.hid (HFN.out (.int .i64 5) (.int .i64 0) (.string ⟨#[]⟩) (.slice A9 (nk + 1 + 1) c9) (.slice none 0 0))
          clear hk4
          go_simp
          refine hK.out _ _ (by exact ⟨HE4.out.1, (((((HS8.out.2).far (by show w.heap.size ≠ w.heap.size + 1; omega) _).far (by show w.heap.size ≠ w.heap.size + 1; omega) _).far (by show w.heap.size ≠ w.heap.size + 1; omega) _).far (by show w.heap.size ≠ w.heap.size + 1; omega) _).far (by show w.heap.size ≠ w.heap.size + 1; omega) _⟩) (fun hHeld2 => ?_)
          clear hK K hHeld hHeld2 c4 f4 l4
          try simp only [Act.put, List.setIfInBounds_toArray, List.set_cons_zero, List.set_cons_succ]
          refine wpAnyH_done (by kernel_rfl) ?_ _
          go_wp2
          obtain ⟨c4, f4, l4⟩ := HP4.out.rules
          refine bodyPost_ret (v := .agg #[.int .i64 5, .int .i64 0, .string ⟨#[]⟩, .slice A9 (nk + 1 + 1) c9, .slice none 0 0]) (by simp only [results, Tryd.results14]; go_simp) rfl ?_
          exact ⟨_, rfl, HE4.out.2, HE4.out.1⟩
        refine AllReadyH.cons (o := ⟨some 12, _, _, _, _, _⟩) rfl (fun K hK => ?_) AllReadyH.nil
        go_simp
        refine hK.out _ _ (by exact ⟨(Below.alloc (HS4.out).1 (HS4.out).1.size _), Blk.alloc (HS4.out).2 _⟩) (fun hHeld2 => ?_)
        clear hK K hHeld
        try simp only [Act.put, List.setIfInBounds_toArray, List.set_cons_zero, List.set_cons_succ]
        refine wpAnyH_world (fun W5 hW => ?_)
        clear hHeld2
        have hb := bel_al hW
        have HB5 := Lib.hid (HB4.out.trans (hb.mono HB4.out.size))
        have HO5 := Lib.hid (own_al hW HO4.out)
        have HKB5 := Lib.hid (HKB4.out.keep hb)
        have HKC5 := Lib.hid (blk_al hW)
        have HNC5 := Lib.hid (own_ne HO4.out (Nat.le_refl _))
        have HS5 := Lib.hid (HSP.out _ HB5.out)
        have hHeld := HS5.out
        clear hb hW
        refine wpAnyH_ready (rs := [5]) (by kernel_rfl) (by simp) ?_
        refine AllReadyH.cons (o := ⟨some 10, _, _, _, _, _⟩) rfl (fun K hK => ?_) AllReadyH.nil
        rw [if_pos (by rfl)]
        refine wp_append_rd _ (.tmp 7) (.tmp 9) 25 rfl W0.heap.size 28 i0 _ 5 80 Tryd.underlying25 HI.out hz0 hz1 hz2 rfl (by decide) _ _ _ (by rfl) HO5.out _ 1 1 (by intro h; cases h) _ (by rfl) rfl (Rd.of_blk HKB5.out) H1V.out (by unfold maxLen; omega) (by omega) HB5.out.size ?_
        intro v6 W6 hown hgr hob
        have HB6 := Lib.hid (HB5.out.grown hgr HB5.out.size (fun k e => (HO5.out.lt k e).1))
        have HO6 := Lib.hid hown
        have HS6 := Lib.hid (HSP.out _ HB6.out)
        obtain ⟨hk9, hn9⟩ := app_keep HKB5.out HNB4.out hgr hob
        have HKB6 := Lib.hid hk9
        have HNB6 := Lib.hid hn9
        clear hk9 hn9
        obtain ⟨hk9, hn9⟩ := app_keep HKC5.out HNC5.out hgr hob
        have HKC6 := Lib.hid hk9
        have HNC6 := Lib.hid hn9
        clear hk9 hn9
        clear hown hgr hob
        refine hK.out _ _ (by exact HS6.out) (fun hHeld2 => ?_)
        clear hK K hHeld
        have hHeld := hHeld2
        clear hHeld2
        try simp only [Act.put, List.setIfInBounds_toArray, List.set_cons_zero, List.set_cons_succ]
        refine wpAnyH_ready (rs := [8]) (by kernel_rfl) (by simp) ?_
        refine AllReadyH.cons (o := ⟨some 13, _, _, _, _, _⟩) rfl (fun K hK => ?_) AllReadyH.nil
        rw [if_pos (by rfl)]
        refine wp_append_rd _ (.tmp 10) (.tmp 12) 25 rfl W0.heap.size 28 i0 _ 5 80 Tryd.underlying25 HI.out hz0 hz1 hz2 rfl (by decide) _ _ _ (by rfl) HO6.out _ 1 1 (by intro h; cases h) _ (by rfl) rfl (Rd.of_blk HKC6.out) H1H.out (by unfold maxLen; omega) (by omega) HB6.out.size ?_
        intro v7 W7 hown hgr hob
        have HB7 := Lib.hid (HB6.out.grown hgr HB6.out.size (fun k e => (HO6.out.lt k e).1))
        have HO7 := Lib.hid hown
        have HS7 := Lib.hid (HSP.out _ HB7.out)
        obtain ⟨hk9, hn9⟩ := app_keep HKB6.out HNB6.out hgr hob
        have HKB7 := Lib.hid hk9
        have HNB7 := Lib.hid hn9
        clear hk9 hn9
        obtain ⟨hk9, hn9⟩ := app_keep HKC6.out HNC6.out hgr hob
        have HKC7 := Lib.hid hk9
        have HNC7 := Lib.hid hn9
        clear hk9 hn9
        clear hown hgr hob
        refine hK.out _ _ (by exact HS7.out) (fun hHeld2 => ?_)
        clear hK K hHeld
        have hHeld := hHeld2
        clear hHeld2
        try simp only [Act.put, List.setIfInBounds_toArray, List.set_cons_zero, List.set_cons_succ]
        refine wpAnyH_ready (rs := [9]) (by kernel_rfl) (by simp) ?_
        refine AllReadyH.cons (o := ⟨some 14, _, _, _, _, _⟩) rfl (fun K hK => ?_) AllReadyH.nil
        obtain ⟨A9, c9, hv9, -⟩ := HFIN.out W7 W7 v7 (HS7.out).1 (Below.refl _ _) HO7.out
        subst hv9
        go_simp
        refine (lList A9 (nk + 1 + 1) c9 _).mono ?_
        rintro e W8 ⟨rfl, hb⟩
        have HB8 := Lib.hid (HB7.out.trans (hb.mono HB7.out.size))
        have HS8 := Lib.hid (HSP.out _ HB8.out)
        obtain ⟨A8, c8, hv8, hfin⟩ := HFIN.out W7 W8 _ (HS8.out).1 hb HO7.out
        injection hv8 with e1 e2 e3
        subst e1 e3
        have HFN := Lib.hid hfin
        clear hb hfin e2
        refine hK.out _ _ (by exact HS8.out) (fun hHeld2 => ?_)
        clear hK K hHeld
        have hHeld := hHeld2
        clear hHeld2
        try simp only [Act.put, List.setIfInBounds_toArray, List.set_cons_zero, List.set_cons_succ]
        refine wpAnyH_ready (rs := [10]) (by kernel_rfl) (by simp) ?_
        refine AllReadyH.cons (o := ⟨none, _, _, _, _, _⟩) rfl (fun K hK => ?_) AllReadyH.nil
        have hk4 := HK4.out.keep HB8.out
        obtain ⟨c4, f4, l4⟩ := hk4.rules
        have HP4 := Lib.hid (v5_put hk4 (.int .i64 5) (.int .i64 0) (.string ⟨#[]⟩) (.slice A9 (nk + 1 + 1) c9) (.slice none 0 0))
        have HE4 := Lib.hid (HFN.out (.int .i64 5) (.int .i64 0) (.string ⟨#[]⟩) (.slice A9 (nk + 1 + 1) c9) (.slice none 0 0))
        clear hk4
        go_simp
        refine hK.out _ _ (by exact ⟨HE4.out.1, (((((HS8.out.2).far (by show w.heap.size ≠ w.heap.size + 1; omega) _).far (by show w.heap.size ≠ w.heap.size + 1; omega) _).far (by show w.heap.size ≠ w.heap.size + 1; omega) _).far (by show w.heap.size ≠ w.heap.size + 1; omega) _).far (by show w.heap.size ≠ w.heap.size + 1; omega) _⟩) (fun hHeld2 => ?_)
        clear hK K hHeld hHeld2 c4 f4 l4
        try simp only [Act.put, List.setIfInBounds_toArray, List.set_cons_zero, List.set_cons_succ]
        refine wpAnyH_done (by kernel_rfl) ?_ _
        go_wp2
        obtain ⟨c4, f4, l4⟩ := HP4.out.rules
        refine bodyPost_ret (v := .agg #[.int .i64 5, .int .i64 0, .string ⟨#[]⟩, .slice A9 (nk + 1 + 1) c9, .slice none 0 0]) (by simp only [results, Tryd.results14]; go_simp) rfl ?_
        exact ⟨_, rfl, HE4.out.2, HE4.out.1⟩
      refine AllReadyH.cons (o := ⟨some 12, _, _, _, _, _⟩) rfl (fun K hK => ?_) AllReadyH.nil
      go_simp
      refine hK.out _ _ (by exact ⟨(Below.alloc (HS3.out).1 (HS3.out).1.size _), Blk.alloc (HS3.out).2 _⟩) (fun hHeld2 => ?_)
      clear hK K hHeld
      try simp only [Act.put, List.setIfInBounds_toArray, List.set_cons_zero, List.set_cons_succ]
      refine wpAnyH_world (fun W4 hW => ?_)
      clear hHeld2
      have hb := bel_al hW
      have HB4 := Lib.hid (HB3.out.trans (hb.mono HB3.out.size))
      have HO4 := Lib.hid (own_al hW HO3.out)
      have HKB4 := Lib.hid (HKB3.out.keep hb)
      have HKC4 := Lib.hid (blk_al hW)
      have HNC4 := Lib.hid (own_ne HO3.out (Nat.le_refl _))
      have HS4 := Lib.hid (HSP.out _ HB4.out)
      have hHeld := HS4.out
      clear hb hW
      refine wpAnyH_ready (rs := [2]) (by kernel_rfl) (by simp) ?_
      refine AllReadyH.cons (o := ⟨some 7, _, _, _, _, _⟩) rfl (fun K hK => ?_) AllReadyH.nil
      rw [if_pos (by rfl)]
      refine wp_append_rd _ (.tmp 5) (.tmp 6) 25 rfl W0.heap.size 28 i0 _ 5 80 Tryd.underlying25 HI.out hz0 hz1 hz2 rfl (by decide) _ _ _ (by rfl) HO4.out _ nk ca HA.out _ (by rfl) HF.out (HRD.out _ (HS4.out).1) H1S.out (by unfold maxLen; omega) (by omega) HB4.out.size ?_
      intro v5 W5 hown hgr hob
      rw [Nat.zero_add, List.nil_append] at hown
      have HB5 := Lib.hid (HB4.out.grown hgr HB4.out.size (fun k e => (HO4.out.lt k e).1))
      have HO5 := Lib.hid hown
      have HS5 := Lib.hid (HSP.out _ HB5.out)
      obtain ⟨hk9, hn9⟩ := app_keep HKB4.out HNB3.out hgr hob
      have HKB5 := Lib.hid hk9
      have HNB5 := Lib.hid hn9
      clear hk9 hn9
      obtain ⟨hk9, hn9⟩ := app_keep HKC4.out HNC4.out hgr hob
      have HKC5 := Lib.hid hk9
      have HNC5 := Lib.hid hn9
      clear hk9 hn9
      clear hown hgr hob
      refine hK.out _ _ (by exact HS5.out) (fun hHeld2 => ?_)
      clear hK K hHeld
      have hHeld := hHeld2
      clear hHeld2
      try simp only [Act.put, List.setIfInBounds_toArray, List.set_cons_zero, List.set_cons_succ]
      refine wpAnyH_ready (rs := [5]) (by kernel_rfl) (by simp) ?_
      refine AllReadyH.cons (o := ⟨some 10, _, _, _, _, _⟩) rfl (fun K hK => ?_) AllReadyH.nil
      rw [if_pos (by rfl)]
      refine wp_append_rd _ (.tmp 7) (.tmp 9) 25 rfl W0.heap.size 28 i0 _ 5 80 Tryd.underlying25 HI.out hz0 hz1 hz2 rfl (by decide) _ _ _ (by rfl) HO5.out _ 1 1 (by intro h; cases h) _ (by rfl) rfl (Rd.of_blk HKB5.out) H1V.out (by unfold maxLen; omega) (by omega) HB5.out.size ?_
      intro v6 W6 hown hgr hob
      have HB6 := Lib.hid (HB5.out.grown hgr HB5.out.size (fun k e => (HO5.out.lt k e).1))
      have HO6 := Lib.hid hown
      have HS6 := Lib.hid (HSP.out _ HB6.out)
      obtain ⟨hk9, hn9⟩ := app_keep HKB5.out HNB5.out hgr hob
      have HKB6 := Lib.hid hk9
      have HNB6 := Lib.hid hn9
      clear hk9 hn9
      obtain ⟨hk9, hn9⟩ := app_keep HKC5.out HNC5.out hgr hob
      have HKC6 := Lib.hid hk9
      have HNC6 := Lib.hid hn9
      clear hk9 hn9
      clear hown hgr hob
      refine hK.out _ _ (by exact HS6.out) (fun hHeld2 => ?_)
      clear hK K hHeld
      have hHeld := hHeld2
      clear hHeld2
      try simp only [Act.put, List.setIfInBounds_toArray, List.set_cons_zero, List.set_cons_succ]
      refine wpAnyH_ready (rs := [8]) (by kernel_rfl) (by simp) ?_
      refine AllReadyH.cons (o := ⟨some 13, _, _, _, _, _⟩) rfl (fun K hK => ?_) AllReadyH.nil
      rw [if_pos (by rfl)]
      refine wp_append_rd _ (.tmp 10) (.tmp 12) 25 rfl W0.heap.size 28 i0 _ 5 80 Tryd.underlying25 HI.out hz0 hz1 hz2 rfl (by decide) _ _ _ (by rfl) HO6.out _ 1 1 (by intro h; cases h) _ (by rfl) rfl (Rd.of_blk HKC6.out) H1H.out (by unfold maxLen; omega) (by omega) HB6.out.size ?_
      intro v7 W7 hown hgr hob
      have HB7 := Lib.hid (HB6.out.grown hgr HB6.out.size (fun k e => (HO6.out.lt k e).1))
      have HO7 := Lib.hid hown
      have HS7 := Lib.hid (HSP.out _ HB7.out)
      obtain ⟨hk9, hn9⟩ := app_keep HKB6.out HNB6.out hgr hob
      have HKB7 := Lib.hid hk9
      have HNB7 := Lib.hid hn9
      clear hk9 hn9
      obtain ⟨hk9, hn9⟩ := app_keep HKC6.out HNC6.out hgr hob
      have HKC7 := Lib.hid hk9
      have HNC7 := Lib.hid hn9
      clear hk9 hn9
      clear hown hgr hob
      refine hK.out _ _ (by exact HS7.out) (fun hHeld2 => ?_)
      clear hK K hHeld
      have hHeld := hHeld2
      clear hHeld2
      try simp only [Act.put, List.setIfInBounds_toArray, List.set_cons_zero, List.set_cons_succ]
      refine wpAnyH_ready (rs := [9]) (by kernel_rfl) (by simp) ?_
      refine AllReadyH.cons (o := ⟨some 14, _, _, _, _, _⟩) rfl (fun K hK => ?_) AllReadyH.nil
      obtain ⟨A9, c9, hv9, -⟩ := HFIN.out W7 W7 v7 (HS7.out).1 (Below.refl _ _) HO7.out
      subst hv9
      go_simp
      refine (lList A9 (nk + 1 + 1) c9 _).mono ?_
      rintro e W8 ⟨rfl, hb⟩
      have HB8 := Lib.hid (HB7.out.trans (hb.mono HB7.out.size))
      have HS8 := Lib.hid (HSP.out _ HB8.out)
      obtain ⟨A8, c8, hv8, hfin⟩ := HFIN.out W7 W8 _ (HS8.out).1 hb HO7.out
      injection hv8 with e1 e2 e3
      subst e1 e3
      have HFN := Lib.hid hfin
      clear hb hfin e2
      refine hK.out _ _ (by exact HS8.out) (fun hHeld2 => ?_)
      clear hK K hHeld
      have hHeld := hHeld2
      clear hHeld2
      try simp only [Act.put, List.setIfInBounds_toArray, List.set_cons_zero, List.set_cons_succ]
      refine wpAnyH_ready (rs := [10]) (by kernel_rfl) (by simp) ?_
      refine AllReadyH.cons (o := ⟨none, _, _, _, _, _⟩) rfl (fun K hK => ?_) AllReadyH.nil
      have hk4 := HK4.out.keep HB8.out
      obtain ⟨c4, f4, l4⟩ := hk4.rules
      have HP4 := Lib.hid (v5_put hk4 (.int .i64 5) (.int .i64 0) (.string ⟨#[]⟩) (.slice A9 (nk + 1 + 1) c9) (.slice none 0 0))
      have HE4 := Lib.hid (HFN.out (.int .i64 5) (.int .i64 0) (.string ⟨#[]⟩) (.slice A9 (nk + 1 + 1) c9) (.slice none 0 0))
      clear hk4
      go_simp
      refine hK.out _ _ (by exact ⟨HE4.out.1, (((((HS8.out.2).far (by show w.heap.size ≠ w.heap.size + 1; omega) _).far (by show w.heap.size ≠ w.heap.size + 1; omega) _).far (by show w.heap.size ≠ w.heap.size + 1; omega) _).far (by show w.heap.size ≠ w.heap.size + 1; omega) _).far (by show w.heap.size ≠ w.heap.size + 1; omega) _⟩) (fun hHeld2 => ?_)
      clear hK K hHeld hHeld2 c4 f4 l4
      try simp only [Act.put, List.setIfInBounds_toArray, List.set_cons_zero, List.set_cons_succ]
      refine wpAnyH_done (by kernel_rfl) ?_ _
      go_wp2
      obtain ⟨c4, f4, l4⟩ := HP4.out.rules
      refine bodyPost_ret (v := .agg #[.int .i64 5, .int .i64 0, .string ⟨#[]⟩, .slice A9 (nk + 1 + 1) c9, .slice none 0 0]) (by simp only [results, Tryd.results14]; go_simp) rfl ?_
      exact ⟨_, rfl, HE4.out.2, HE4.out.1⟩
    refine AllReadyH.cons (o := ⟨some 12, _, _, _, _, _⟩) rfl (fun K hK => ?_) AllReadyH.nil
    go_simp
    refine hK.out _ _ (by exact ⟨(Below.alloc (HS2.out).1 (HS2.out).1.size _), Blk.alloc (HS2.out).2 _⟩) (fun hHeld2 => ?_)
    clear hK K hHeld
    try simp only [Act.put, List.setIfInBounds_toArray, List.set_cons_zero, List.set_cons_succ]
    refine wpAnyH_world (fun W3 hW => ?_)
    clear hHeld2
    have hb := bel_al hW
    have HB3 := Lib.hid (HB2.out.trans (hb.mono HB2.out.size))
    have HKB3 := Lib.hid (HKB2.out.keep hb)
    have HKC3 := Lib.hid (blk_al hW)
    have HS3 := Lib.hid (HSP.out _ HB3.out)
    have hHeld := HS3.out
    clear hb hW
    refine wpAnyH_ready (rs := [0]) (by kernel_rfl) (by simp) ?_
    refine AllReadyH.cons (o := ⟨some 5, _, _, _, _, _⟩) rfl (fun K hK => ?_) AllReadyH.nil
    go_simp
    refine hK.out _ _ (by exact ⟨(Below.alloc (HS3.out).1 (HS3.out).1.size _), Blk.alloc (HS3.out).2 _⟩) (fun hHeld2 => ?_)
    clear hK K hHeld
    try simp only [Act.put, List.setIfInBounds_toArray, List.set_cons_zero, List.set_cons_succ]
    refine wpAnyH_world (fun W4 hW => ?_)
    clear hHeld2
    have hb := bel_al hW
    have HB4 := Lib.hid (HB3.out.trans (hb.mono HB3.out.size))
    have HKB4 := Lib.hid (HKB3.out.keep hb)
    have HKC4 := Lib.hid (HKC3.out.keep hb)
    have HO4 := Lib.hid (own_nil hW HB3.out.size)
    have HNB4 := Lib.hid (own_nn HKB3.out.lt)
    have HNC4 := Lib.hid (own_nn HKC3.out.lt)
    have HS4 := Lib.hid (HSP.out _ HB4.out)
    have hHeld := HS4.out
    clear hb hW
    refine wpAnyH_ready (rs := [2]) (by kernel_rfl) (by simp) ?_
    refine AllReadyH.cons (o := ⟨some 7, _, _, _, _, _⟩) rfl (fun K hK => ?_) AllReadyH.nil
    rw [if_pos (by rfl)]
    refine wp_append_rd _ (.tmp 5) (.tmp 6) 25 rfl W0.heap.size 28 i0 _ 5 80 Tryd.underlying25 HI.out hz0 hz1 hz2 rfl (by decide) _ _ _ (by rfl) HO4.out _ nk ca HA.out _ (by rfl) HF.out (HRD.out _ (HS4.out).1) H1S.out (by unfold maxLen; omega) (by omega) HB4.out.size ?_
    intro v5 W5 hown hgr hob
    rw [Nat.zero_add, List.nil_append] at hown
    have HB5 := Lib.hid (HB4.out.grown hgr HB4.out.size (fun k e => (HO4.out.lt k e).1))
    have HO5 := Lib.hid hown
    have HS5 := Lib.hid (HSP.out _ HB5.out)
    obtain ⟨hk9, hn9⟩ := app_keep HKB4.out HNB4.out hgr hob
    have HKB5 := Lib.hid hk9
    have HNB5 := Lib.hid hn9
    clear hk9 hn9
    obtain ⟨hk9, hn9⟩ := app_keep HKC4.out HNC4.out hgr hob
    have HKC5 := Lib.hid hk9
    have HNC5 := Lib.hid hn9
    clear hk9 hn9
    clear hown hgr hob
    refine hK.out _ _ (by exact HS5.out) (fun hHeld2 => ?_)
    clear hK K hHeld
    have hHeld := hHeld2
    clear hHeld2
    try simp only [Act.put, List.setIfInBounds_toArray, List.set_cons_zero, List.set_cons_succ]
    refine wpAnyH_ready (rs := [5]) (by kernel_rfl) (by simp) ?_
    refine AllReadyH.cons (o := ⟨some 10, _, _, _, _, _⟩) rfl (fun K hK => ?_) AllReadyH.nil
    rw [if_pos (by rfl)]
    refine wp_append_rd _ (.tmp 7) (.tmp 9) 25 rfl W0.heap.size 28 i0 _ 5 80 Tryd.underlying25 HI.out hz0 hz1 hz2 rfl (by decide) _ _ _ (by rfl) HO5.out _ 1 1 (by intro h; cases h) _ (by rfl) rfl (Rd.of_blk HKB5.out) H1V.out (by unfold maxLen; omega) (by omega) HB5.out.size ?_
    intro v6 W6 hown hgr hob
    have HB6 := Lib.hid (HB5.out.grown hgr HB5.out.size (fun k e => (HO5.out.lt k e).1))
    have HO6 := Lib.hid hown
    have HS6 := Lib.hid (HSP.out _ HB6.out)
    obtain ⟨hk9, hn9⟩ := app_keep HKB5.out HNB5.out hgr hob
    have HKB6 := Lib.hid hk9
    have HNB6 := Lib.hid hn9
    clear hk9 hn9
    obtain ⟨hk9, hn9⟩ := app_keep HKC5.out HNC5.out hgr hob
    have HKC6 := Lib.hid hk9
    have HNC6 := Lib.hid hn9
    clear hk9 hn9
    clear hown hgr hob
    refine hK.out _ _ (by exact HS6.out) (fun hHeld2 => ?_)
    clear hK K hHeld
    have hHeld := hHeld2
    clear hHeld2
    try simp only [Act.put, List.setIfInBounds_toArray, List.set_cons_zero, List.set_cons_succ]
    refine wpAnyH_ready (rs := [8]) (by kernel_rfl) (by simp) ?_
    refine AllReadyH.cons (o := ⟨some 13, _, _, _, _, _⟩) rfl (fun K hK => ?_) AllReadyH.nil
    rw [if_pos (by rfl)]
    refine wp_append_rd _ (.tmp 10) (.tmp 12) 25 rfl W0.heap.size 28 i0 _ 5 80 Tryd.underlying25 HI.out hz0 hz1 hz2 rfl (by decide) _ _ _ (by rfl) HO6.out _ 1 1 (by intro h; cases h) _ (by rfl) rfl (Rd.of_blk HKC6.out) H1H.out (by unfold maxLen; omega) (by omega) HB6.out.size ?_
    intro v7 W7 hown hgr hob
    have HB7 := Lib.hid (HB6.out.grown hgr HB6.out.size (fun k e => (HO6.out.lt k e).1))
    have HO7 := Lib.hid hown
    have HS7 := Lib.hid (HSP.out _ HB7.out)
    obtain ⟨hk9, hn9⟩ := app_keep HKB6.out HNB6.out hgr hob
    have HKB7 := Lib.hid hk9
    have HNB7 := Lib.hid hn9
    clear hk9 hn9
    obtain ⟨hk9, hn9⟩ := app_keep HKC6.out HNC6.out hgr hob
    have HKC7 := Lib.hid hk9
    have HNC7 := Lib.hid hn9
    clear hk9 hn9
    clear hown hgr hob
    refine hK.out _ _ (by exact HS7.out) (fun hHeld2 => ?_)
    clear hK K hHeld
    have hHeld := hHeld2
    clear hHeld2
    try simp only [Act.put, List.setIfInBounds_toArray, List.set_cons_zero, List.set_cons_succ]
    refine wpAnyH_ready (rs := [9]) (by kernel_rfl) (by simp) ?_
    refine AllReadyH.cons (o := ⟨some 14, _, _, _, _, _⟩) rfl (fun K hK => ?_) AllReadyH.nil
    obtain ⟨A9, c9, hv9, -⟩ := HFIN.out W7 W7 v7 (HS7.out).1 (Below.refl _ _) HO7.out
    subst hv9
    go_simp
    refine (lList A9 (nk + 1 + 1) c9 _).mono ?_
    rintro e W8 ⟨rfl, hb⟩
    have HB8 := Lib.hid (HB7.out.trans (hb.mono HB7.out.size))
    have HS8 := Lib.hid (HSP.out _ HB8.out)
    obtain ⟨A8, c8, hv8, hfin⟩ := HFIN.out W7 W8 _ (HS8.out).1 hb HO7.out
    injection hv8 with e1 e2 e3
    subst e1 e3
    have HFN := Lib.hid hfin
    clear hb hfin e2
    refine hK.out _ _ (by exact HS8.out) (fun hHeld2 => ?_)
    clear hK K hHeld
    have hHeld := hHeld2
    clear hHeld2
    try simp only [Act.put, List.setIfInBounds_toArray, List.set_cons_zero, List.set_cons_succ]
    refine wpAnyH_ready (rs := [10]) (by kernel_rfl) (by simp) ?_
    refine AllReadyH.cons (o := ⟨none, _, _, _, _, _⟩) rfl (fun K hK => ?_) AllReadyH.nil
    have hk4 := HK4.out.keep HB8.out
    obtain ⟨c4, f4, l4⟩ := hk4.rules
    have HP4 := Lib.hid (v5_put hk4 (.int .i64 5) (.int .i64 0) (.string ⟨#[]⟩) (.slice A9 (nk + 1 + 1) c9) (.slice none 0 0))
    have HE4 := Lib.hid (HFN.out (.int .i64 5) (.int .i64 0) (.string ⟨#[]⟩) (.slice A9 (nk + 1 + 1) c9) (.slice none 0 0))
    clear hk4
    go_simp
    refine hK.out _ _ (by exact ⟨HE4.out.1, (((((HS8.out.2).far (by show w.heap.size ≠ w.heap.size + 1; omega) _).far (by show w.heap.size ≠ w.heap.size + 1; omega) _).far (by show w.heap.size ≠ w.heap.size + 1; omega) _).far (by show w.heap.size ≠ w.heap.size + 1; omega) _).far (by show w.heap.size ≠ w.heap.size + 1; omega) _⟩) (fun hHeld2 => ?_)
    clear hK K hHeld hHeld2 c4 f4 l4
    try simp only [Act.put, List.setIfInBounds_toArray, List.set_cons_zero, List.set_cons_succ]
    refine wpAnyH_done (by kernel_rfl) ?_ _
    go_wp2
    obtain ⟨c4, f4, l4⟩ := HP4.out.rules
    refine bodyPost_ret (v := .agg #[.int .i64 5, .int .i64 0, .string ⟨#[]⟩, .slice A9 (nk + 1 + 1) c9, .slice none 0 0]) (by simp only [results, Tryd.results14]; go_simp) rfl ?_
    exact ⟨_, rfl, HE4.out.2, HE4.out.1⟩
  refine AllReadyH.cons (o := ⟨some 12, _, _, _, _, _⟩) rfl (fun K hK => ?_) AllReadyH.nil
  go_simp
  refine hK.out _ _ (by exact ⟨(Below.alloc (HS1.out).1 (HS1.out).1.size _), Blk.alloc (HS1.out).2 _⟩) (fun hHeld2 => ?_)
  clear hK K hHeld
  try simp only [Act.put, List.setIfInBounds_toArray, List.set_cons_zero, List.set_cons_succ]
  refine wpAnyH_world (fun W2 hW => ?_)
  clear hHeld2
  have hb := bel_al hW
  have HB2 := Lib.hid (HB1.out.trans (hb.mono HB1.out.size))
  have HKC2 := Lib.hid (blk_al hW)
  have HS2 := Lib.hid (HSP.out _ HB2.out)
  have hHeld := HS2.out
  clear hb hW
  refine wpAnyH_ready (rs := [0, 4]) (by kernel_rfl) (by simp) ?_
  refine AllReadyH.cons (o := ⟨some 5, _, _, _, _, _⟩) rfl (fun K hK => ?_) ?_
  · go_simp
    refine hK.out _ _ (by exact ⟨(Below.alloc (HS2.out).1 (HS2.out).1.size _), Blk.alloc (HS2.out).2 _⟩) (fun hHeld2 => ?_)
    clear hK K hHeld
    try simp only [Act.put, List.setIfInBounds_toArray, List.set_cons_zero, List.set_cons_succ]
    refine wpAnyH_world (fun W3 hW => ?_)
    clear hHeld2
    have hb := bel_al hW
    have HB3 := Lib.hid (HB2.out.trans (hb.mono HB2.out.size))
    have HKC3 := Lib.hid (HKC2.out.keep hb)
    have HO3 := Lib.hid (own_nil hW HB2.out.size)
    have HNC3 := Lib.hid (own_nn HKC2.out.lt)
    have HS3 := Lib.hid (HSP.out _ HB3.out)
    have hHeld := HS3.out
    clear hb hW
    refine wpAnyH_ready (rs := [2, 4]) (by kernel_rfl) (by simp) ?_
    refine AllReadyH.cons (o := ⟨some 7, _, _, _, _, _⟩) rfl (fun K hK => ?_) ?_
    · rw [if_pos (by rfl)]
      refine wp_append_rd _ (.tmp 5) (.tmp 6) 25 rfl W0.heap.size 28 i0 _ 5 80 Tryd.underlying25 HI.out hz0 hz1 hz2 rfl (by decide) _ _ _ (by rfl) HO3.out _ nk ca HA.out _ (by rfl) HF.out (HRD.out _ (HS3.out).1) H1S.out (by unfold maxLen; omega) (by omega) HB3.out.size ?_
      intro v4 W4 hown hgr hob
      rw [Nat.zero_add, List.nil_append] at hown
      have HB4 := Lib.hid (HB3.out.grown hgr HB3.out.size (fun k e => (HO3.out.lt k e).1))
      have HO4 := Lib.hid hown
      have HS4 := Lib.hid (HSP.out _ HB4.out)
      obtain ⟨hk9, hn9⟩ := app_keep HKC3.out HNC3.out hgr hob
      have HKC4 := Lib.hid hk9
      have HNC4 := Lib.hid hn9
      clear hk9 hn9
      clear hown hgr hob
      refine hK.out _ _ (by exact HS4.out) (fun hHeld2 => ?_)
      clear hK K hHeld
      have hHeld := hHeld2
      clear hHeld2
      try simp only [Act.put, List.setIfInBounds_toArray, List.set_cons_zero, List.set_cons_succ]
      refine wpAnyH_ready (rs := [4]) (by kernel_rfl) (by simp) ?_
      refine AllReadyH.cons (o := ⟨some 9, _, _, _, _, _⟩) rfl (fun K hK => ?_) AllReadyH.nil
      go_simp
      refine hK.out _ _ (by exact ⟨(Below.alloc (HS4.out).1 (HS4.out).1.size _), Blk.alloc (HS4.out).2 _⟩) (fun hHeld2 => ?_)
      clear hK K hHeld
      try simp only [Act.put, List.setIfInBounds_toArray, List.set_cons_zero, List.set_cons_succ]
      refine wpAnyH_world (fun W5 hW => ?_)
      clear hHeld2
      have hb := bel_al hW
      have HB5 := Lib.hid (HB4.out.trans (hb.mono HB4.out.size))
      have HO5 := Lib.hid (own_al hW HO4.out)
      have HKC5 := Lib.hid (HKC4.out.keep hb)
      have HKB5 := Lib.hid (blk_al hW)
      have HNB5 := Lib.hid (own_ne HO4.out (Nat.le_refl _))
      have HS5 := Lib.hid (HSP.out _ HB5.out)
      have hHeld := HS5.out
      clear hb hW
      refine wpAnyH_ready (rs := [5]) (by kernel_rfl) (by simp) ?_
      refine AllReadyH.cons (o := ⟨some 10, _, _, _, _, _⟩) rfl (fun K hK => ?_) AllReadyH.nil
      rw [if_pos (by rfl)]
      refine wp_append_rd _ (.tmp 7) (.tmp 9) 25 rfl W0.heap.size 28 i0 _ 5 80 Tryd.underlying25 HI.out hz0 hz1 hz2 rfl (by decide) _ _ _ (by rfl) HO5.out _ 1 1 (by intro h; cases h) _ (by rfl) rfl (Rd.of_blk HKB5.out) H1V.out (by unfold maxLen; omega) (by omega) HB5.out.size ?_
      intro v6 W6 hown hgr hob
      have HB6 := Lib.hid (HB5.out.grown hgr HB5.out.size (fun k e => (HO5.out.lt k e).1))
      have HO6 := Lib.hid hown
      have HS6 := Lib.hid (HSP.out _ HB6.out)
      obtain ⟨hk9, hn9⟩ := app_keep HKC5.out HNC4.out hgr hob
      have HKC6 := Lib.hid hk9
      have HNC6 := Lib.hid hn9
      clear hk9 hn9
      obtain ⟨hk9, hn9⟩ := app_keep HKB5.out HNB5.out hgr hob
      have HKB6 := Lib.hid hk9
      have HNB6 := Lib.hid hn9
      clear hk9 hn9
      clear hown hgr hob
      refine hK.out _ _ (by exact HS6.out) (fun hHeld2 => ?_)
      clear hK K hHeld
      have hHeld := hHeld2
      clear hHeld2
      try simp only [Act.put, List.setIfInBounds_toArray, List.set_cons_zero, List.set_cons_succ]
      refine wpAnyH_ready (rs := [8]) (by kernel_rfl) (by simp) ?_
      refine AllReadyH.cons (o := ⟨some 13, _, _, _, _, _⟩) rfl (fun K hK => ?_) AllReadyH.nil
      rw [if_pos (by rfl)]
      refine wp_append_rd _ (.tmp 10) (.tmp 12) 25 rfl W0.heap.size 28 i0 _ 5 80 Tryd.underlying25 HI.out hz0 hz1 hz2 rfl (by decide) _ _ _ (by rfl) HO6.out _ 1 1 (by intro h; cases h) _ (by rfl) rfl (Rd.of_blk HKC6.out) H1H.out (by unfold maxLen; omega) (by omega) HB6.out.size ?_
      intro v7 W7 hown hgr hob
      have HB7 := Lib.hid (HB6.out.grown hgr HB6.out.size (fun k e => (HO6.out.lt k e).1))
      have HO7 := Lib.hid hown
      have HS7 := Lib.hid (HSP.out _ HB7.out)
      obtain ⟨hk9, hn9⟩ := app_keep HKC6.out HNC6.out hgr hob
      have HKC7 := Lib.hid hk9
      have HNC7 := Lib.hid hn9
      clear hk9 hn9
      obtain ⟨hk9, hn9⟩ := app_keep HKB6.out HNB6.out hgr hob
      have HKB7 := Lib.hid hk9
      have HNB7 := Lib.hid hn9
      clear hk9 hn9
      clear hown hgr hob
      refine hK.out _ _ (by exact HS7.out) (fun hHeld2 => ?_)
      clear hK K hHeld
      have hHeld := hHeld2
      clear hHeld2
      try simp only [Act.put, List.setIfInBounds_toArray, List.set_cons_zero, List.set_cons_succ]
      refine wpAnyH_ready (rs := [9]) (by kernel_rfl) (by simp) ?_
      refine AllReadyH.cons (o := ⟨some 14, _, _, _, _, _⟩) rfl (fun K hK => ?_) AllReadyH.nil
      obtain ⟨A9, c9, hv9, -⟩ := HFIN.out W7 W7 v7 (HS7.out).1 (Below.refl _ _) HO7.out
      subst hv9
      go_simp
      refine (lList A9 (nk + 1 + 1) c9 _).mono ?_
      rintro e W8 ⟨rfl, hb⟩
      have HB8 := Lib.hid (HB7.out.trans (hb.mono HB7.out.size))
      have HS8 := Lib.hid (HSP.out _ HB8.out)
      obtain ⟨A8, c8, hv8, hfin⟩ := HFIN.out W7 W8 _ (HS8.out).1 hb HO7.out
      injection hv8 with e1 e2 e3
      subst e1 e3
      have HFN := Lib.hid hfin
      clear hb hfin e2
      refine hK.out _ _ (by exact HS8.out) (fun hHeld2 => ?_)
      clear hK K hHeld
      have hHeld := hHeld2
      clear hHeld2
      try simp only [Act.put, List.setIfInBounds_toArray, List.set_cons_zero, List.set_cons_succ]
      refine wpAnyH_ready (rs := [10]) (by kernel_rfl) (by simp) ?_
      refine AllReadyH.cons (o := ⟨none, _, _, _, _, _⟩) rfl (fun K hK => ?_) AllReadyH.nil
      have hk4 := HK4.out.keep HB8.out
      obtain ⟨c4, f4, l4⟩ := hk4.rules
      have HP4 := Lib.hid (v5_put hk4 (.int .i64 5) (.int .i64 0) (.string ⟨#[]⟩) (.slice A9 (nk + 1 + 1) c9) (.slice none 0 0))
      have HE4 := Lib.hid (HFN.out (.int .i64 5) (.int .i64 0) (.string ⟨#[]⟩) (.slice A9 (nk + 1 + 1) c9) (.slice none 0 0))
      clear hk4
      go_simp
      refine hK.out _ _ (by exact ⟨HE4.out.1, (((((HS8.out.2).far (by show w.heap.size ≠ w.heap.size + 1; omega) _).far (by show w.heap.size ≠ w.heap.size + 1; omega) _).far (by show w.heap.size ≠ w.heap.size + 1; omega) _).far (by show w.heap.size ≠ w.heap.size + 1; omega) _).far (by show w.heap.size ≠ w.heap.size + 1; omega) _⟩) (fun hHeld2 => ?_)
      clear hK K hHeld hHeld2 c4 f4 l4
      try simp only [Act.put, List.setIfInBounds_toArray, List.set_cons_zero, List.set_cons_succ]
      refine wpAnyH_done (by kernel_rfl) ?_ _
      go_wp2
      obtain ⟨c4, f4, l4⟩ := HP4.out.rules
      refine bodyPost_ret (v := .agg #[.int .i64 5, .int .i64 0, .string ⟨#[]⟩, .slice A9 (nk + 1 + 1) c9, .slice none 0 0]) (by simp only [results, Tryd.results14]; go_simp) rfl ?_
      exact ⟨_, rfl, HE4.out.2, HE4.out.1⟩
    refine AllReadyH.cons (o := ⟨some 9, _, _, _, _, _⟩) rfl (fun K hK => ?_) AllReadyH.nil
    go_simp
    refine hK.out _ _ (by exact ⟨(Below.alloc (HS3.out).1 (HS3.out).1.size _), Blk.alloc (HS3.out).2 _⟩) (fun hHeld2 => ?_)
    clear hK K hHeld
    try simp only [Act.put, List.setIfInBounds_toArray, List.set_cons_zero, List.set_cons_succ]
    refine wpAnyH_world (fun W4 hW => ?_)
    clear hHeld2
    have hb := bel_al hW
    have HB4 := Lib.hid (HB3.out.trans (hb.mono HB3.out.size))
    have HO4 := Lib.hid (own_al hW HO3.out)
    have HKC4 := Lib.hid (HKC3.out.keep hb)
    have HKB4 := Lib.hid (blk_al hW)
    have HNB4 := Lib.hid (own_ne HO3.out (Nat.le_refl _))
    have HS4 := Lib.hid (HSP.out _ HB4.out)
    have hHeld := HS4.out
    clear hb hW
    refine wpAnyH_ready (rs := [2]) (by kernel_rfl) (by simp) ?_
    refine AllReadyH.cons (o := ⟨some 7, _, _, _, _, _⟩) rfl (fun K hK => ?_) AllReadyH.nil
    rw [if_pos (by rfl)]
    refine wp_append_rd _ (.tmp 5) (.tmp 6) 25 rfl W0.heap.size 28 i0 _ 5 80 Tryd.underlying25 HI.out hz0 hz1 hz2 rfl (by decide) _ _ _ (by rfl) HO4.out _ nk ca HA.out _ (by rfl) HF.out (HRD.out _ (HS4.out).1) H1S.out (by unfold maxLen; omega) (by omega) HB4.out.size ?_
    intro v5 W5 hown hgr hob
    rw [Nat.zero_add, List.nil_append] at hown
    have HB5 := Lib.hid (HB4.out.grown hgr HB4.out.size (fun k e => (HO4.out.lt k e).1))
    have HO5 := Lib.hid hown
    have HS5 := Lib.hid (HSP.out _ HB5.out)
    obtain ⟨hk9, hn9⟩ := app_keep HKC4.out HNC3.out hgr hob
    have HKC5 := Lib.hid hk9
    have HNC5 := Lib.hid hn9
    clear hk9 hn9
    obtain ⟨hk9, hn9⟩ := app_keep HKB4.out HNB4.out hgr hob
    have HKB5 := Lib.hid hk9
    have HNB5 := Lib.hid hn9
    clear hk9 hn9
    clear hown hgr hob
    refine hK.out _ _ (by exact HS5.out) (fun hHeld2 => ?_)
    clear hK K hHeld
    have hHeld := hHeld2
    clear hHeld2
    try simp only [Act.put, List.setIfInBounds_toArray, List.set_cons_zero, List.set_cons_succ]
    refine wpAnyH_ready (rs := [5]) (by kernel_rfl) (by simp) ?_
    refine AllReadyH.cons (o := ⟨some 10, _, _, _, _, _⟩) rfl (fun K hK => ?_) AllReadyH.nil
    rw [if_pos (by rfl)]
    refine wp_append_rd _ (.tmp 7) (.tmp 9) 25 rfl W0.heap.size 28 i0 _ 5 80 Tryd.underlying25 HI.out hz0 hz1 hz2 rfl (by decide) _ _ _ (by rfl) HO5.out _ 1 1 (by intro h; cases h) _ (by rfl) rfl (Rd.of_blk HKB5.out) H1V.out (by unfold maxLen; omega) (by omega) HB5.out.size ?_
    intro v6 W6 hown hgr hob
    have HB6 := Lib.hid (HB5.out.grown hgr HB5.out.size (fun k e => (HO5.out.lt k e).1))
    have HO6 := Lib.hid hown
    have HS6 := Lib.hid (HSP.out _ HB6.out)
    obtain ⟨hk9, hn9⟩ := app_keep HKC5.out HNC5.out hgr hob
    have HKC6 := Lib.hid hk9
    have HNC6 := Lib.hid hn9
    clear hk9 hn9
    obtain ⟨hk9, hn9⟩ := app_keep HKB5.out HNB5.out hgr hob
    have HKB6 := Lib.hid hk9
    have HNB6 := Lib.hid hn9
    clear hk9 hn9
    clear hown hgr hob
    refine hK.out _ _ (by exact HS6.out) (fun hHeld2 => ?_)
    clear hK K hHeld
    have hHeld := hHeld2
    clear hHeld2
    try simp only [Act.put, List.setIfInBounds_toArray, List.set_cons_zero, List.set_cons_succ]
    refine wpAnyH_ready (rs := [8]) (by kernel_rfl) (by simp) ?_
    refine AllReadyH.cons (o := ⟨some 13, _, _, _, _, _⟩) rfl (fun K hK => ?_) AllReadyH.nil
    rw [if_pos (by rfl)]
    refine wp_append_rd _ (.tmp 10) (.tmp 12) 25 rfl W0.heap.size 28 i0 _ 5 80 Tryd.underlying25 HI.out hz0 hz1 hz2 rfl (by decide) _ _ _ (by rfl) HO6.out _ 1 1 (by intro h; cases h) _ (by rfl) rfl (Rd.of_blk HKC6.out) H1H.out (by unfold maxLen; omega) (by omega) HB6.out.size ?_
    intro v7 W7 hown hgr hob
    have HB7 := Lib.hid (HB6.out.grown hgr HB6.out.size (fun k e => (HO6.out.lt k e).1))
    have HO7 := Lib.hid hown
    have HS7 := Lib.hid (HSP.out _ HB7.out)
    obtain ⟨hk9, hn9⟩ := app_keep HKC6.out HNC6.out hgr hob
    have HKC7 := Lib.hid hk9
    have HNC7 := Lib.hid hn9
    clear hk9 hn9
    obtain ⟨hk9, hn9⟩ := app_keep HKB6.out HNB6.out hgr hob
    have HKB7 := Lib.hid hk9
    have HNB7 := Lib.hid hn9
    clear hk9 hn9
    clear hown hgr hob
    refine hK.out _ _ (by exact HS7.out) (fun hHeld2 => ?_)
    clear hK K hHeld
    have hHeld := hHeld2
    clear hHeld2
    try simp only [Act.put, List.setIfInBounds_toArray, List.set_cons_zero, List.set_cons_succ]
    refine wpAnyH_ready (rs := [9]) (by kernel_rfl) (by simp) ?_
    refine AllReadyH.cons (o := ⟨some 14, _, _, _, _, _⟩) rfl (fun K hK => ?_) AllReadyH.nil
    obtain ⟨A9, c9, hv9, -⟩ := HFIN.out W7 W7 v7 (HS7.out).1 (Below.refl _ _) HO7.out
    subst hv9
    go_simp
    refine (lList A9 (nk + 1 + 1) c9 _).mono ?_
    rintro e W8 ⟨rfl, hb⟩
    have HB8 := Lib.hid (HB7.out.trans (hb.mono HB7.out.size))
    have HS8 := Lib.hid (HSP.out _ HB8.out)
    obtain ⟨A8, c8, hv8, hfin⟩ := HFIN.out W7 W8 _ (HS8.out).1 hb HO7.out
    injection hv8 with e1 e2 e3
    subst e1 e3
    have HFN := Lib.hid hfin
    clear hb hfin e2
    refine hK.out _ _ (by exact HS8.out) (fun hHeld2 => ?_)
    clear hK K hHeld
    have hHeld := hHeld2
    clear hHeld2
    try simp only [Act.put, List.setIfInBounds_toArray, List.set_cons_zero, List.set_cons_succ]
    refine wpAnyH_ready (rs := [10]) (by kernel_rfl) (by simp) ?_
    refine AllReadyH.cons (o := ⟨none, _, _, _, _, _⟩) rfl (fun K hK => ?_) AllReadyH.nil
    have hk4 := HK4.out.keep HB8.out
    obtain ⟨c4, f4, l4⟩ := hk4.rules
    have HP4 := Lib.hid (v5_put hk4 (.int .i64 5) (.int .i64 0) (.string ⟨#[]⟩) (.slice A9 (nk + 1 + 1) c9) (.slice none 0 0))
    have HE4 := Lib.hid (HFN.out (.int .i64 5) (.int .i64 0) (.string ⟨#[]⟩) (.slice A9 (nk + 1 + 1) c9) (.slice none 0 0))
    clear hk4
    go_simp
    refine hK.out _ _ (by exact ⟨HE4.out.1, (((((HS8.out.2).far (by show w.heap.size ≠ w.heap.size + 1; omega) _).far (by show w.heap.size ≠ w.heap.size + 1; omega) _).far (by show w.heap.size ≠ w.heap.size + 1; omega) _).far (by show w.heap.size ≠ w.heap.size + 1; omega) _).far (by show w.heap.size ≠ w.heap.size + 1; omega) _⟩) (fun hHeld2 => ?_)
    clear hK K hHeld hHeld2 c4 f4 l4
    try simp only [Act.put, List.setIfInBounds_toArray, List.set_cons_zero, List.set_cons_succ]
    refine wpAnyH_done (by kernel_rfl) ?_ _
    go_wp2
    obtain ⟨c4, f4, l4⟩ := HP4.out.rules
    refine bodyPost_ret (v := .agg #[.int .i64 5, .int .i64 0, .string ⟨#[]⟩, .slice A9 (nk + 1 + 1) c9, .slice none 0 0]) (by simp only [results, Tryd.results14]; go_simp) rfl ?_
    exact ⟨_, rfl, HE4.out.2, HE4.out.1⟩
  refine AllReadyH.cons (o := ⟨some 9, _, _, _, _, _⟩) rfl (fun K hK => ?_) AllReadyH.nil
  go_simp
  refine hK.out _ _ (by exact ⟨(Below.alloc (HS2.out).1 (HS2.out).1.size _), Blk.alloc (HS2.out).2 _⟩) (fun hHeld2 => ?_)
  clear hK K hHeld
  try simp only [Act.put, List.setIfInBounds_toArray, List.set_cons_zero, List.set_cons_succ]
  refine wpAnyH_world (fun W3 hW => ?_)
  clear hHeld2
  have hb := bel_al hW
  have HB3 := Lib.hid (HB2.out.trans (hb.mono HB2.out.size))
  have HKC3 := Lib.hid (HKC2.out.keep hb)
  have HKB3 := Lib.hid (blk_al hW)
  have HS3 := Lib.hid (HSP.out _ HB3.out)
  have hHeld := HS3.out
  clear hb hW
  refine wpAnyH_ready (rs := [0]) (by kernel_rfl) (by simp) ?_
  refine AllReadyH.cons (o := ⟨some 5, _, _, _, _, _⟩) rfl (fun K hK => ?_) AllReadyH.nil
  go_simp
  refine hK.out _ _ (by exact ⟨(Below.alloc (HS3.out).1 (HS3.out).1.size _), Blk.alloc (HS3.out).2 _⟩) (fun hHeld2 => ?_)
  clear hK K hHeld
  try simp only [Act.put, List.setIfInBounds_toArray, List.set_cons_zero, List.set_cons_succ]
  refine wpAnyH_world (fun W4 hW => ?_)
  clear hHeld2
  have hb := bel_al hW
  have HB4 := Lib.hid (HB3.out.trans (hb.mono HB3.out.size))
  have HKC4 := Lib.hid (HKC3.out.keep hb)
  have HKB4 := Lib.hid (HKB3.out.keep hb)
  have HO4 := Lib.hid (own_nil hW HB3.out.size)
  have HNC4 := Lib.hid (own_nn HKC3.out.lt)
  have HNB4 := Lib.hid (own_nn HKB3.out.lt)
  have HS4 := Lib.hid (HSP.out _ HB4.out)
  have hHeld := HS4.out
  clear hb hW
  refine wpAnyH_ready (rs := [2]) (by kernel_rfl) (by simp) ?_
  refine AllReadyH.cons (o := ⟨some 7, _, _, _, _, _⟩) rfl (fun K hK => ?_) AllReadyH.nil
  rw [if_pos (by rfl)]
  refine wp_append_rd _ (.tmp 5) (.tmp 6) 25 rfl W0.heap.size 28 i0 _ 5 80 Tryd.underlying25 HI.out hz0 hz1 hz2 rfl (by decide) _ _ _ (by rfl) HO4.out _ nk ca HA.out _ (by rfl) HF.out (HRD.out _ (HS4.out).1) H1S.out (by unfold maxLen; omega) (by omega) HB4.out.size ?_
  intro v5 W5 hown hgr hob
  rw [Nat.zero_add, List.nil_append] at hown
  have HB5 := Lib.hid (HB4.out.grown hgr HB4.out.size (fun k e => (HO4.out.lt k e).1))
  have HO5 := Lib.hid hown
  have HS5 := Lib.hid (HSP.out _ HB5.out)
  obtain ⟨hk9, hn9⟩ := app_keep HKC4.out HNC4.out hgr hob
  have HKC5 := Lib.hid hk9
  have HNC5 := Lib.hid hn9
  clear hk9 hn9
  obtain ⟨hk9, hn9⟩ := app_keep HKB4.out HNB4.out hgr hob
  have HKB5 := Lib.hid hk9
  have HNB5 := Lib.hid hn9
  clear hk9 hn9
  clear hown hgr hob
  refine hK.out _ _ (by exact HS5.out) (fun hHeld2 => ?_)
  clear hK K hHeld
  have hHeld := hHeld2
  clear hHeld2
  try simp only [Act.put, List.setIfInBounds_toArray, List.set_cons_zero, List.set_cons_succ]
  refine wpAnyH_ready (rs := [5]) (by kernel_rfl) (by simp) ?_
  refine AllReadyH.cons (o := ⟨some 10, _, _, _, _, _⟩) rfl (fun K hK => ?_) AllReadyH.nil
  rw [if_pos (by rfl)]
  refine wp_append_rd _ (.tmp 7) (.tmp 9) 25 rfl W0.heap.size 28 i0 _ 5 80 Tryd.underlying25 HI.out hz0 hz1 hz2 rfl (by decide) _ _ _ (by rfl) HO5.out _ 1 1 (by intro h; cases h) _ (by rfl) rfl (Rd.of_blk HKB5.out) H1V.out (by unfold maxLen; omega) (by omega) HB5.out.size ?_
  intro v6 W6 hown hgr hob
  have HB6 := Lib.hid (HB5.out.grown hgr HB5.out.size (fun k e => (HO5.out.lt k e).1))
  have HO6 := Lib.hid hown
  have HS6 := Lib.hid (HSP.out _ HB6.out)
  obtain ⟨hk9, hn9⟩ := app_keep HKC5.out HNC5.out hgr hob
  have HKC6 := Lib.hid hk9
  have HNC6 := Lib.hid hn9
  clear hk9 hn9
  obtain ⟨hk9, hn9⟩ := app_keep HKB5.out HNB5.out hgr hob
  have HKB6 := Lib.hid hk9
  have HNB6 := Lib.hid hn9
  clear hk9 hn9
  clear hown hgr hob
  refine hK.out _ _ (by exact HS6.out) (fun hHeld2 => ?_)
  clear hK K hHeld
  have hHeld := hHeld2
  clear hHeld2
  try simp only [Act.put, List.setIfInBounds_toArray, List.set_cons_zero, List.set_cons_succ]
  refine wpAnyH_ready (rs := [8]) (by kernel_rfl) (by simp) ?_
  refine AllReadyH.cons (o := ⟨some 13, _, _, _, _, _⟩) rfl (fun K hK => ?_) AllReadyH.nil
  rw [if_pos (by rfl)]
  refine wp_append_rd _ (.tmp 10) (.tmp 12) 25 rfl W0.heap.size 28 i0 _ 5 80 Tryd.underlying25 HI.out hz0 hz1 hz2 rfl (by decide) _ _ _ (by rfl) HO6.out _ 1 1 (by intro h; cases h) _ (by rfl) rfl (Rd.of_blk HKC6.out) H1H.out (by unfold maxLen; omega) (by omega) HB6.out.size ?_
  intro v7 W7 hown hgr hob
  have HB7 := Lib.hid (HB6.out.grown hgr HB6.out.size (fun k e => (HO6.out.lt k e).1))
  have HO7 := Lib.hid hown
  have HS7 := Lib.hid (HSP.out _ HB7.out)
  obtain ⟨hk9, hn9⟩ := app_keep HKC6.out HNC6.out hgr hob
  have HKC7 := Lib.hid hk9
  have HNC7 := Lib.hid hn9
  clear hk9 hn9
  obtain ⟨hk9, hn9⟩ := app_keep HKB6.out HNB6.out hgr hob
  have HKB7 := Lib.hid hk9
  have HNB7 := Lib.hid hn9
  clear hk9 hn9
  clear hown hgr hob
  refine hK.out _ _ (by exact HS7.out) (fun hHeld2 => ?_)
  clear hK K hHeld
  have hHeld := hHeld2
  clear hHeld2
  try simp only [Act.put, List.setIfInBounds_toArray, List.set_cons_zero, List.set_cons_succ]
  refine wpAnyH_ready (rs := [9]) (by kernel_rfl) (by simp) ?_
  refine AllReadyH.cons (o := ⟨some 14, _, _, _, _, _⟩) rfl (fun K hK => ?_) AllReadyH.nil
  obtain ⟨A9, c9, hv9, -⟩ := HFIN.out W7 W7 v7 (HS7.out).1 (Below.refl _ _) HO7.out
  subst hv9
  go_simp
  refine (lList A9 (nk + 1 + 1) c9 _).mono ?_
  rintro e W8 ⟨rfl, hb⟩
  have HB8 := Lib.hid (HB7.out.trans (hb.mono HB7.out.size))
  have HS8 := Lib.hid (HSP.out _ HB8.out)
  obtain ⟨A8, c8, hv8, hfin⟩ := HFIN.out W7 W8 _ (HS8.out).1 hb HO7.out
  injection hv8 with e1 e2 e3
  subst e1 e3
  have HFN := Lib.hid hfin
  clear hb hfin e2
  refine hK.out _ _ (by exact HS8.out) (fun hHeld2 => ?_)
  clear hK K hHeld
  have hHeld := hHeld2
  clear hHeld2
  try simp only [Act.put, List.setIfInBounds_toArray, List.set_cons_zero, List.set_cons_succ]
  refine wpAnyH_ready (rs := [10]) (by kernel_rfl) (by simp) ?_
  refine AllReadyH.cons (o := ⟨none, _, _, _, _, _⟩) rfl (fun K hK => ?_) AllReadyH.nil
  have hk4 := HK4.out.keep HB8.out
  obtain ⟨c4, f4, l4⟩ := hk4.rules
  have HP4 := Lib.hid (v5_put hk4 (.int .i64 5) (.int .i64 0) (.string ⟨#[]⟩) (.slice A9 (nk + 1 + 1) c9) (.slice none 0 0))
  have HE4 := Lib.hid (HFN.out (.int .i64 5) (.int .i64 0) (.string ⟨#[]⟩) (.slice A9 (nk + 1 + 1) c9) (.slice none 0 0))
  clear hk4
  go_simp
  refine hK.out _ _ (by exact ⟨HE4.out.1, (((((HS8.out.2).far (by show w.heap.size ≠ w.heap.size + 1; omega) _).far (by show w.heap.size ≠ w.heap.size + 1; omega) _).far (by show w.heap.size ≠ w.heap.size + 1; omega) _).far (by show w.heap.size ≠ w.heap.size + 1; omega) _).far (by show w.heap.size ≠ w.heap.size + 1; omega) _⟩) (fun hHeld2 => ?_)
  clear hK K hHeld hHeld2 c4 f4 l4
  try simp only [Act.put, List.setIfInBounds_toArray, List.set_cons_zero, List.set_cons_succ]
  refine wpAnyH_done (by kernel_rfl) ?_ _
  go_wp2
  obtain ⟨c4, f4, l4⟩ := HP4.out.rules
  refine bodyPost_ret (v := .agg #[.int .i64 5, .int .i64 0, .string ⟨#[]⟩, .slice A9 (nk + 1 + 1) c9, .slice none 0 0]) (by simp only [results, Tryd.results14]; go_simp) rfl ?_
  exact ⟨_, rfl, HE4.out.2, HE4.out.1⟩
end Go.Proofs.YtoejdhabpajhlaaDoor
