/- The walks of package parse: put where something is open. -/
import Derived.Test.YtalhoacancbldaaDoorParse3
import Derived.Deep.RegionWith
namespace Go.Proofs.YtalhoacancbldaaDoor
set_option linter.unusedVariables false
set_option linter.unusedSimpArgs false
open Go.RowKit
attribute [local go_sem] run_index_arr run_part_agg run_part_one run_field_agg

theorem FO.fresh {w W : World} {g ob n capo : Nat} (hB : w.heap.size ≤ W.heap.size) (hg : g < W.heap.size) (ho : ob < W.heap.size) : ∀ b, W.heap.size ≤ b → FO w.heap.size g (.slice (some ⟨ob, 0, none⟩) n capo) b :=
  fun b hb => ⟨Nat.le_trans hB hb, by omega, by simp [Value.ownBlock]; omega⟩
set_option maxRecDepth 100000 in
set_option maxHeartbeats 4000000 in
theorem pPutL_any (w W : World) (g : Nat) (A : Option Addr) (cap : Nat) (l : List UInt8) (p many : Nat) (ov : Value) (Er : List (List Value × List UInt8)) (ce : List Value) (c : List Value) (v : JV)
    (kk nn : Int) (ss : List UInt8) (kids : List JV) (keys : List (List UInt8)) (key : List UInt8) (r : JStk)
    (h : PGo w W g A cap l p many ov ((ce, key) :: Er) ((.mk kk nn ss kids keys, key) :: r)) (hc : VR W (FO w.heap.size g ov) c v) (hk : kk ≠ 6) (hn : kids.length ≤ 65535) (hd : r.length ≤ 65535) :
    Calls Tryd.prog 122 #[.pointer (some ⟨g, 0, none⟩), .agg c.toArray] W (PPost w g A cap l (pPut v p many ((.mk kk nn ss kids keys, key) :: r))) := by
  obtain ⟨k0, n0, s0, A0, na0, ca0, B0, nb0, cb0, rfl⟩ := hc.form
  have hown := h.own
  obtain ⟨ob, capo, rfl, hob, hobl⟩ := hown.form (by simp)
  have hcapo := ownCap hown
  obtain ⟨hE1, hE5⟩ := ESt.len h.est.2.2
  obtain ⟨A1, B1, ca, cb, css, rfl, hvs, hca, hcb, hA1, hB1, hr1, hr2⟩ := h.est.1.out
  have hgne : g ≠ ob := fun e => h.gne (by rw [e]; rfl)
  have hgl : g < W.heap.size := h.pb.blk.lt
  obtain ⟨d, hdd⟩ : ∃ d, r.length = d := ⟨_, rfl⟩
  obtain ⟨hcc, hf, _⟩ := h.pb.blk.rules
  unfold pCells at hcc
  simp only [List.length_cons, hdd] at hown hcapo h hc hcc
  rw [hdd] at hE1 hd
  have hins := fun W2 (hb : Below W.heap.size W W2) => insV_any W2 (FO w.heap.size g (.slice (some ⟨ob, 0, none⟩) (d + 1) capo)) A1 kids.length ca css kids _ v kids.length hA1 rfl (Nat.le_refl _) hca (hr1.keep (KeepF.of_below hb)) (hvs.keep (KeepF.of_below hb)) (hc.keep (KeepF.of_below hb)) (FO.fresh (Nat.le_trans h.pb.bel.size hb.size) (Nat.lt_of_lt_of_le hgl hb.size) (Nat.lt_of_lt_of_le hobl hb.size)) hn
  have hcell := own_cells hown hE1 hE5
  have q0 := hcell 0 (by omega)
  have q3 := hcell 3 (by omega)
  have q4 := hcell 4 (by omega)
  have q5 := hcell 5 (by omega)
  have hfz := fun j => hown.frozenAt j
  obtain ⟨n, hnn⟩ : ∃ n, kids.length = n := ⟨_, rfl⟩
  have hkk : (kk == 6) = false := by simpa using hk
  rw [hnn] at hins q3 hn hca
  simp only [List.cons_append, List.nil_append, List.getElem?_cons_zero, List.getElem?_cons_succ, Nat.add_zero] at q0 q3 q4 q5
  have HI := Lib.hid hins
  have HH := Lib.hid h
  have HC := Lib.hid hc
  have HO := Lib.hid hown
  have HV := Lib.hid hvs
  have HN := Lib.hid hnn
  have HD := Lib.hid hdd
  have HR := Lib.hid (And.intro hr1 hr2)
  have HE := Lib.hid (And.intro hE1 hE5)
  have HAB := Lib.hid (And.intro hA1 hB1)
  clear hins h hc hown hvs hnn hdd hr1 hr2 hE1 hE5 hA1 hB1 hcell
  go_enter Tryd.func122, Tryd.ntmps122
  go_wp2
  obtain ⟨W1, hW1⟩ : ∃ W1, W.alloc (.cells #[.int .i64 k0, .int .i64 n0, .string s0, .slice A0 na0 ca0, .slice B0 nb0 cb0] 40) = W1 := ⟨_, rfl⟩
  have hb1 : Below W.heap.size W W1 := by rw [← hW1]; exact (Below.refl _ W).alloc (Nat.le_refl _) _
  have hbox : Blk W1 W.heap.size 40 #[.int .i64 k0, .int .i64 n0, .string s0, .slice A0 na0 ca0, .slice B0 nb0 cb0] := by rw [← hW1]; exact Blk.new _ _ _
  have q3' := ((bcell hb1).1 ob (d * 6 + 3) hobl).trans q3
  obtain ⟨bc, bf, bl⟩ := hbox.rules
  have HB1 := Lib.hid hb1
  rw [hW1]
  clear hW1 hb1 hbox q0 q3 q4 q5 hfz hcc hf
  go_region_with (go_at_call 138; refine (HI.out _ (by exact bel_drewN HB1.out 1)).mono ?_; rintro e W2 ⟨A', cap', rfl, hi1, hi2, hi3, hb2⟩; have hb12 : Below W.heap.size W W2 := (bel_drewN HB1.out 1).trans (hb2.mono HB1.out.size); have HO2 := Lib.hid (ownBel HO.out hb12); have f3 := HO2.out.frozenAt (d * 6 + 3); have z3 := own_cells HO2.out HE.out.1 HE.out.2 3 (by omega); simp only [List.cons_append, List.nil_append, List.getElem?_cons_zero, List.getElem?_cons_succ, Nat.add_zero] at z3)
  all_goals
    go_wp2
    go_ret
    have hFob : ∀ b, FO w.heap.size g (.slice (some ⟨ob, 0, none⟩) (d + 1) capo) b → b ≠ ob := fun b hb e => hb.2.2 (by rw [e]; rfl)
    have hKF := (KeepF.of_below hb12).set hFob (d * 6 + 3) (.slice A' (n + 1) cap')
    have hadd : addKid (.mk kk nn ss kids keys) key v = .mk kk nn ss (insAt kids n v) keys := by unfold addKid; simp only; rw [if_neg hk, ← HN.out, insAt_end]
    refine ⟨rfl, .slice (some ⟨ob, 0, none⟩) (d + 1) capo, ([.int .i64 kk, .int .i64 nn, .string ⟨ss.toArray⟩, .slice A' (n + 1) cap', .slice B1 keys.length cb], key) :: Er, ?_⟩
    refine ⟨(HH.out.pb.keep hb12).far hgne hob _ _, ?_, ?_, rfl, HH.out.est.2.2.keep hKF⟩
    · have h1 := (own_top HO2.out HE.out.1 HE.out.2 rfl 3 (by omega) (.slice A' (n + 1) cap')).1
      simp only [List.length_cons, HD.out]
      exact h1
    · show VR _ _ _ (addKid (.mk kk nn ss kids keys) key v)
      rw [hadd]
      refine VR.into kk nn ss ((HV.out.keep hKF).ins (HC.out.keep hKF) n) ?_ hcb hi2 HAB.out.2 (hi3.keep (KeepF.refl.set hFob _ _)) (HR.out.2.keep hKF) ?_ rfl
      · rw [← HN.out, insAt_end, List.length_append, HN.out]; simpa using hi1
      · rw [← HN.out, insAt_end, List.length_append, HN.out]; rfl
end Go.Proofs.YtalhoacancbldaaDoor
