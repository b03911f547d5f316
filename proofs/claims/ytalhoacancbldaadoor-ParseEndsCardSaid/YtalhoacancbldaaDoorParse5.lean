/- The walks of package parse: put where an object is open. -/
import Derived.Test.YtalhoacancbldaaDoorParse3
import Derived.Deep.RegionWith
import Derived.Deep.DeepCutAuto
import Derived.Deep.CutBlock
namespace Go.Proofs.YtalhoacancbldaaDoor
set_option linter.unusedVariables false
set_option linter.unusedSimpArgs false
open Go.RowKit
attribute [local go_sem] run_index_arr run_part_agg run_part_one run_field_agg
set_option maxRecDepth 100000 in
set_option maxHeartbeats 4000000 in
theorem pPutO_any (w W : World) (g : Nat) (A : Option Addr) (cap : Nat) (l : List UInt8) (p many : Nat) (ov : Value) (Er : List (List Value × List UInt8)) (ce : List Value) (c : List Value) (v : JV)
    (kk nn : Int) (ss : List UInt8) (kids : List JV) (keys : List (List UInt8)) (key : List UInt8) (r : JStk)
    (h : PGo w W g A cap l p many ov ((ce, key) :: Er) ((.mk kk nn ss kids keys, key) :: r)) (hc : VR W (FO w.heap.size g ov) c v) (hk : kk = 6) (hkl : keys.length = kids.length) (hn : kids.length ≤ 65535) (hd : r.length ≤ 65535) :
    Calls Tryd.prog 122 #[.pointer (some ⟨g, 0, none⟩), .agg c.toArray] W (PPost w g A cap l (pPut v p many ((.mk kk nn ss kids keys, key) :: r))) := by
  obtain ⟨k0, n0, s0, A0, na0, ca0, B0, nb0, cb0, rfl⟩ := hc.form
  have hown := h.own
  obtain ⟨ob, capo, rfl, hob, hobl⟩ := hown.form (by simp)
  have hcapo := ownCap hown
  obtain ⟨hE1, hE5⟩ := ESt.len h.est.2.2
  obtain ⟨A1, B1, ca, cb, css, rfl, hvs, hca, hcb, hA1, hB1, hr1, hr2⟩ := h.est.1.out
  have hgne : g ≠ ob := fun e => h.gne (by rw [e]; rfl)
  have hgl : g < W.heap.size := h.pb.blk.lt
  obtain ⟨d, hdd⟩ : ∃ d, r.length = d := ⟨_, rfl⟩
  obtain ⟨hcc, hf, _⟩ := h.pb.blk.rules
  unfold pCells at hcc
  simp only [List.length_cons, hdd] at hown hcapo h hc hcc
  rw [hdd] at hE1 hd
  have hins := fun W2 (hk : KeepF (FO w.heap.size g (.slice (some ⟨ob, 0, none⟩) (d + 1) capo)) W W2) (j : Nat) (hj : j ≤ kids.length) => insV_any W2 (FO w.heap.size g (.slice (some ⟨ob, 0, none⟩) (d + 1) capo)) A1 kids.length ca css kids _ v j hA1 rfl hj hca (hr1.keep hk) (hvs.keep hk) (hc.keep hk) (FO.fresh (Nat.le_trans h.pb.bel.size hk.1) (Nat.lt_of_lt_of_le hgl hk.1) (Nat.lt_of_lt_of_le hobl hk.1)) hn
  have hinS := fun W2 (hk : KeepF (FO w.heap.size g (.slice (some ⟨ob, 0, none⟩) (d + 1) capo)) W W2) (j : Nat) (hj : j ≤ keys.length) => insS_any W2 (FO w.heap.size g (.slice (some ⟨ob, 0, none⟩) (d + 1) capo)) B1 keys.length cb keys key j hB1 rfl hj hcb (hr2.keep hk) (FO.fresh (Nat.le_trans h.pb.bel.size hk.1) (Nat.lt_of_lt_of_le hgl hk.1) (Nat.lt_of_lt_of_le hobl hk.1)) (by omega)
  have hcell := own_cells hown hE1 hE5
  have q0 := hcell 0 (by omega)
  have q3 := hcell 3 (by omega)
  have q4 := hcell 4 (by omega)
  have q5 := hcell 5 (by omega)
  have hfz := fun j => hown.frozenAt j
  obtain ⟨n, hnn⟩ : ∃ n, kids.length = n := ⟨_, rfl⟩
  subst hk
  rw [hkl] at q4 hinS hcb
  rw [hnn] at hins hinS q3 q4 hn hca hcb
  have HKL := Lib.hid (hkl.trans hnn)
  simp only [List.cons_append, List.nil_append, List.getElem?_cons_zero, List.getElem?_cons_succ, Nat.add_zero] at q0 q3 q4 q5
  have HI := Lib.hid hins
  have HJ := Lib.hid hinS
  have HH := Lib.hid h
  have HC := Lib.hid hc
  have HO := Lib.hid hown
  have HV := Lib.hid hvs
  have HN := Lib.hid hnn
  have HD := Lib.hid hdd
  have HR := Lib.hid (And.intro hr1 hr2)
  have HE := Lib.hid (And.intro hE1 hE5)
  have HAB := Lib.hid (And.intro hA1 hB1)
  clear hkl hins hinS h hc hown hvs hnn hdd hr1 hr2 hE1 hE5 hA1 hB1 hcell
  go_enter Tryd.func122, Tryd.ntmps122
  go_upto_block 0 with fail
  obtain ⟨W1, hW1⟩ : ∃ W1, W.alloc (.cells #[.int .i64 k0, .int .i64 n0, .string s0, .slice A0 na0 ca0, .slice B0 nb0 cb0] 40) = W1 := ⟨_, rfl⟩
  have hb1 : Below W.heap.size W W1 := by rw [← hW1]; exact (Below.refl _ W).alloc (Nat.le_refl _) _
  have hbox : Blk W1 W.heap.size 40 #[.int .i64 k0, .int .i64 n0, .string s0, .slice A0 na0 ca0, .slice B0 nb0 cb0] := by rw [← hW1]; exact Blk.new _ _ _
  have z3 := ((bcell hb1).1 ob (d * 6 + 3) hobl).trans q3
  have z4 := ((bcell hb1).1 ob (d * 6 + 4) hobl).trans q4
  have z5 := ((bcell hb1).1 ob (d * 6 + 5) hobl).trans q5
  obtain ⟨bc, bf, bl⟩ := hbox.rules
  have HB1 := Lib.hid hb1
  have HBX := Lib.hid hbox
  rw [hW1]
  clear hW1 hb1 hbox q0 q3 q4 q5 hfz hcc hf
  go_cut [7] (fun s7 wx => s7 = .int .i64 (insPos key keys n) ∧ ∃ q, wx = W1.drewN q)
  case first =>
    go_wp2
    go_loopg [7] n (fun gk s7 wr => ∃ j q : Nat, j ≤ n ∧ gk = j ∧ s7 = .int .i64 j ∧ Hid (insPos key keys n = insPos key keys j) ∧ wr = W1.drewN q)
    case atStart => exact ⟨n, 0, Nat.le_refl _, rfl, rfl, Lib.hid rfl, rfl⟩
    case round =>
      obtain ⟨j, q, hj, hgk, rfl, HP, rfl⟩ := hrel
      have HG := Lib.hid hgk
      clear hgk
      match j, hj, HP, HG with
      | 0, hj, HP, HG =>
        go_wp2
        go_quiet (fail)
        go_wp2
        go_meet
        case rel => exact ⟨by rw [HP.out]; rfl, _, World.drewN_drewN _ _ _⟩
      | j + 1, hj, HP, HG =>
        obtain ⟨kj, hkj⟩ : ∃ kj, keys[j]? = some kj := ⟨_, List.getElem?_eq_getElem (by rw [HKL.out]; omega)⟩
        have hkd : keys.getD j [] = kj := by rw [List.getD_eq_getElem?_getD, hkj]; rfl
        obtain ⟨bk, ok, rfl, hbk, _, hx⟩ := HR.out.2 (by intro e; have h1 := strV_len keys; rw [e, HKL.out] at h1; simp at h1; omega)
        have hxj := hx j (by rw [strV_len, HKL.out]; omega)
        have hxj' : (strV keys)[j]'(by rw [strV_len, HKL.out]; omega) = .string ⟨kj.toArray⟩ := by
          obtain ⟨h1, h2⟩ := List.getElem?_eq_some_iff.1 hkj
          simp [strV, h2]
        rw [hxj'] at hxj
        have xj := ((bcell HB1.out).1 bk (ok + j) hbk).trans hxj
        have hpos : decide ((0 : Int) < (j : Int) + 1) = true := by rw [decide_eq_true_eq]; omega
        have hjn : j < n := by omega
        have hbl : Op.bytesLess key kj = ltB key kj := rfl
        have HKD := Lib.hid hkd
        clear hx hxj hxj' hkj hkd
        cases hb : ltB key kj with
        | true =>
          rw [hb] at hbl
          have HS := Lib.hid (show insPos key keys n = insPos key keys j by rw [HP.out, insPos, HKD.out, hb, if_pos rfl])
          clear hb
          go_wp2
          go_quiet (fail)
          go_wp2
          go_roundg j
          case measure => rw [HG.out]; omega
          case rel => exact ⟨j, _, by omega, rfl, by go_num, HS, rfl⟩
        | false =>
          rw [hb] at hbl
          have HS := Lib.hid (show insPos key keys n = j + 1 by rw [HP.out, insPos, HKD.out, hb]; rfl)
          clear hb
          go_wp2
          go_quiet (fail)
          go_wp2
          go_meet
          case rel => exact ⟨by rw [HS.out], _, World.drewN_drewN _ _ _⟩
  case rest =>
    obtain ⟨rfl, q, rfl⟩ := hcut
    have hjn := insPos_le key keys n
    obtain ⟨j, hj⟩ : ∃ j, insPos key keys n = j := ⟨_, rfl⟩
    rw [hj] at hjn ⊢
    have HJE := Lib.hid hj
    have hFob : ∀ b, FO w.heap.size g (.slice (some ⟨ob, 0, none⟩) (d + 1) capo) b → b ≠ ob := fun b hb e => hb.2.2 (by rw [e]; rfl)
    have HFO := Lib.hid hFob
    have hne1 : W.heap.size ≠ ob := by omega
    clear hj hFob
    go_wp2
    go_region_with (go_at_call 137; refine (HJ.out _ (by exact KeepF.of_below (bel_drewN HB1.out _)) j hjn).mono ?_; rintro e W2 ⟨B', cbp, rfl, hi1, hi2, hi3, hb2⟩; have hb12 : Below W.heap.size W W2 := (bel_drewN HB1.out (q + 1)).trans (hb2.mono HB1.out.size); have HO2 := Lib.hid (ownBel HO.out hb12); have f4 := HO2.out.frozenAt (d * 6 + 4); have y4 := own_cells HO2.out HE.out.1 HE.out.2 4 (by omega); simp only [List.cons_append, List.nil_append, List.getElem?_cons_zero, List.getElem?_cons_succ, Nat.add_zero] at y4)
    all_goals
      obtain ⟨W3, hW3⟩ : ∃ W3, W2.setCell ⟨ob, d * 6 + 4, none⟩ (.slice B' (n + 1) cbp) = W3 := ⟨_, rfl⟩
      have hown3 := (own_top HO2.out HE.out.1 HE.out.2 rfl 4 (by omega) (.slice B' (n + 1) cbp)).1
      rw [hW3] at hown3
      simp only [List.set_cons_succ, List.set_cons_zero] at hown3
      have hpb3 : PB w W3 g A cap l p many (.slice (some ⟨ob, 0, none⟩) (d + 1) capo) zI zI zS zN zN 0 := by rw [← hW3]; exact (HH.out.pb.keep hb12).far hgne hob _ _
      have hKF3 : KeepF (FO w.heap.size g (.slice (some ⟨ob, 0, none⟩) (d + 1) capo)) W W3 := by rw [← hW3]; exact (KeepF.of_below hb12).set HFO.out _ _
      have hbox3 : Blk W3 W.heap.size 40 #[.int .i64 k0, .int .i64 n0, .string s0, .slice A0 na0 ca0, .slice B0 nb0 cb0] := by rw [← hW3]; exact ((HBX.out.drewN (q + 1)).keep hb2).far (p := ⟨ob, d * 6 + 4, none⟩) hne1 _
      have hi3' : RdF W3 (FO w.heap.size g (.slice (some ⟨ob, 0, none⟩) (d + 1) capo)) B' (strV (insAt keys j key)) := by rw [← hW3]; exact hi3.keep (KeepF.refl.set HFO.out _ _)
      rw [hW3]
      have y3 := own_cells hown3 HE.out.1 HE.out.2 3 (by omega)
      simp only [List.cons_append, List.nil_append, List.getElem?_cons_zero, List.getElem?_cons_succ, Nat.add_zero] at y3
      rw [HN.out] at y3
      obtain ⟨bc3, bf3, bl3⟩ := hbox3.rules
      have HO3 := Lib.hid hown3
      have HP3 := Lib.hid hpb3
      have HK3 := Lib.hid hKF3
      have HI3 := Lib.hid hi3'
      have HB12 := Lib.hid hb12
      clear hW3 hown3 hpb3 hKF3 hbox3 hi3' hi3 f4 y4 HO2 hb12 hb2 z3 z4 z5 bc bf bl
      go_wp2
      go_region_with (go_at_call 138; refine (HI.out _ (by exact HK3.out.bel (bel_drewN (Below.refl _ W3) 1)) j hjn).mono ?_; rintro e W4 ⟨A', cap', rfl, hv1, hv2, hv3, hb4⟩; have hb34 : Below W3.heap.size W3 W4 := (bel_drewN (Below.refl _ W3) 1).trans hb4; have HO4 := Lib.hid (ownBel HO3.out hb34); have f3 := HO4.out.frozenAt (d * 6 + 3); have x3 := own_cells HO4.out HE.out.1 HE.out.2 3 (by omega); simp only [List.cons_append, List.nil_append, List.getElem?_cons_zero, List.getElem?_cons_succ, Nat.add_zero] at x3)
      all_goals
        go_wp2
        go_ret
        have hKF := (HK3.out.bel hb34).set HFO.out (d * 6 + 3) (.slice A' (n + 1) cap')
        have hadd : addKid (.mk 6 nn ss kids keys) key v = .mk 6 nn ss (insAt kids j v) (insAt keys j key) := by unfold addKid; simp only [if_true]; rw [HN.out, HJE.out]
        refine ⟨rfl, .slice (some ⟨ob, 0, none⟩) (d + 1) capo, ([.int .i64 6, .int .i64 nn, .string ⟨ss.toArray⟩, .slice A' (n + 1) cap', .slice B' (n + 1) cbp], key) :: Er, ?_⟩
        refine ⟨(HP3.out.keep hb34).far hgne hob _ _, ?_, ?_, rfl, HH.out.est.2.2.keep hKF⟩
        · have h1 := (own_top HO4.out HE.out.1 HE.out.2 rfl 3 (by omega) (.slice A' (n + 1) cap')).1
          simp only [List.length_cons, HD.out]
          exact h1
        · show VR _ _ _ (addKid (.mk 6 nn ss kids keys) key v)
          rw [hadd]
          have hl1 : (insAt kids j v).length = n + 1 := by have h1 := HN.out; simp [insAt]; omega
          have hl2 : (insAt keys j key).length = n + 1 := by have h1 := HKL.out; simp [insAt]; omega
          exact VR.into 6 nn ss ((HV.out.keep hKF).ins (HC.out.keep hKF) j) (by rw [hl1]; exact hv1) (by rw [hl2]; exact hi1) hv2 hi2 (hv3.keep (KeepF.refl.set HFO.out _ _)) ((HI3.out.keep (KeepF.of_below hb34)).keep (KeepF.refl.set HFO.out _ _)) hl1.symm hl2.symm
end Go.Proofs.YtalhoacancbldaaDoor
