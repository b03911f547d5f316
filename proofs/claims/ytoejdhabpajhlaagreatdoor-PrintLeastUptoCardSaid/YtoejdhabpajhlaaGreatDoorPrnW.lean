import Derived.Test.YtoejdhabpajhlaaGreatDoorWrtV
import Derived.Test.YtoejdhabpajhlaaGreatDoorMeasG
import Derived.Test.YtoejdhabpajhlaaGreatDoorParse16
import Derived.Test.YtoejdhabpajhlaaGreatDoorBackJ
import Derived.Lib.SlBytesConst
import Derived.KernelRfl
/- The walks of print.Size, Print and Again. -/
namespace Go.Proofs.YtoejdhabpajhlaaGreatDoor
set_option linter.unusedVariables false
set_option linter.unusedSimpArgs false
open Go.RowKit
attribute [local go_sem] run_index_arr run_part_agg run_part_one run_field_agg

/-- what Size and Print tell -/
def sizR (v : JV) : Int × Int := if good v = true then (((canJ v).length : Int), 0) else (0, 140)
def prnR (v : JV) : List UInt8 × Int := if good v = true then (if 2048 < (canJ v).length then ([], 3) else (canJ v, 0)) else ([], 140)
def SizP (r : Int × Int) (w : World) (e : Ending) (w' : World) : Prop := e = .returned (.tuple #[.int .i64 r.1, .int .i64 r.2]) ∧ Below w.heap.size w w'
def PrnP (r : List UInt8 × Int) (w : World) (e : Ending) (w' : World) : Prop := e = .returned (.tuple #[.string ⟨r.1.toArray⟩, .int .i64 r.2]) ∧ Below w.heap.size w w'
theorem good_J {v : JV} (h : good v = true) : goodJ 8 v = true ∧ nodesJ v ≤ 256 := by
  unfold good at h; simp only [Bool.and_eq_true, decide_eq_true_eq] at h; exact h
theorem vChk_is {v : JV} {n : Int} (h : chkJ v = n) {cs : List Value} {F : Nat → Prop} {w : World} (hG : GOK w) (hv : VR w F cs v) (hc : Came v) : Calls Tryz.prog 16 #[.agg cs.toArray] w fun e w' => e = .returned (.int .i64 n) ∧ Below w.heap.size w w' := by
  have h9 := vCheckG v cs F w hG hv hc
  rw [h] at h9; exact h9
set_option maxRecDepth 100000 in
set_option maxHeartbeats 4000000 in
theorem pSize_any (v : JV) (cs : List Value) (F : Nat → Prop) (w : World) (hv : VR w F cs v) (hG : GOK w) (hC : Came v) : Calls Tryz.prog 11 #[.agg cs.toArray] w (SizP (sizR v) w) := by
  have HV := Lib.hid (fun (W : World) (h : Below w.heap.size w W) => hv.bel h)
  obtain ⟨k0, n0, s0, A0, na0, ca0, B0, nb0, cb0, rfl⟩ := hv.form
  have HG := Lib.hid hG
  have HC := Lib.hid hC
  have HH0 := Lib.hid ((Held.nil w).push 25 #[.int .i64 k0, .int .i64 n0, .string s0, .slice A0 na0 ca0, .slice B0 nb0 cb0] (g := w.heap.size) rfl)
  clear hv hG hC
  by_cases hg : good v = true
  · have HK := Lib.hid (show chkJ v = 0 by unfold chkJ; rw [if_pos hg])
    have HS := Lib.hid (fun (W : World) (h : Below w.heap.size w W) => sSize (nodesJ v) v 8 (Nat.le_refl _) (good_J hg).1 HC.out _ F W (HV.out W h) (HG.out.keep h))
    have hr : sizR v = (((canJ v).length : Int), 0) := by unfold sizR; rw [if_pos hg]
    rw [hr]
    obtain ⟨q, hq⟩ : ∃ q, (canJ v).length = q := ⟨_, rfl⟩
    unfold SizS at HS
    rw [hq] at HS ⊢
    clear hr hq hg
    go_enter Tryz.func11, Tryz.ntmps11
    go_wp2_with fail
    refine (vChk_is HK.out (HG.out.keep HH0.out.1) (HV.out _ HH0.out.1) HC.out).mono ?_
    rintro e w1 ⟨rfl, hb1⟩
    have HH1 := Lib.hid (HH0.out.keep hb1)
    clear hb1
    obtain ⟨c1, f1, l1⟩ := HH1.out.b0.rules
    go_wp2_with fail
    refine (HS.out _ HH1.out.1).mono ?_
    rintro e w2 ⟨rfl, hb2⟩
    have HH2 := Lib.hid (HH1.out.keep hb2)
    clear hb2 c1 f1 l1
    go_wp2
    go_ret2
    exact ⟨rfl, HH2.out.1⟩
  · have HK := Lib.hid (show chkJ v = 140 by unfold chkJ; rw [if_neg hg])
    have hr : sizR v = (0, 140) := by unfold sizR; rw [if_neg hg]
    rw [hr]
    clear hr hg
    go_enter Tryz.func11, Tryz.ntmps11
    go_wp2_with fail
    refine (vChk_is HK.out (HG.out.keep HH0.out.1) (HV.out _ HH0.out.1) HC.out).mono ?_
    rintro e w1 ⟨rfl, hb1⟩
    have HH1 := Lib.hid (HH0.out.keep hb1)
    clear hb1
    go_wp2
    go_ret2
    exact ⟨rfl, HH1.out.1⟩
theorem pSiz_is {v : JV} {a b : Int} (h : sizR v = (a, b)) {cs : List Value} {F : Nat → Prop} {w : World} (hv : VR w F cs v) (hG : GOK w) (hc : Came v) : Calls Tryz.prog 11 #[.agg cs.toArray] w (SizP (a, b) w) := by
  have h9 := pSize_any v cs F w hv hG hc
  rw [h] at h9; exact h9
set_option maxRecDepth 100000 in
set_option maxHeartbeats 4000000 in
theorem pPrint_any (v : JV) (cs : List Value) (F : Nat → Prop) (w : World) (hv : VR w F cs v) (hG : GOK w) (hC : Came v) : Calls Tryz.prog 10 #[.agg cs.toArray] w (PrnP (prnR v) w) := by
  have HV := Lib.hid (fun (W : World) (h : Below w.heap.size w W) => hv.bel h)
  obtain ⟨k0, n0, s0, A0, na0, ca0, B0, nb0, cb0, rfl⟩ := hv.form
  have HG := Lib.hid hG
  have HC := Lib.hid hC
  have HH0 := Lib.hid ((Held.nil w).push 25 #[.int .i64 k0, .int .i64 n0, .string s0, .slice A0 na0 ca0, .slice B0 nb0 cb0] (g := w.heap.size) rfl)
  have hbk := can_bulk v hC.ints
  have hb8 := hC.bulk
  clear hv hG hC
  by_cases hg : good v = true
  · obtain ⟨q, hq⟩ : ∃ q, (canJ v).length = q := ⟨_, rfl⟩
    have HS := Lib.hid (show sizR v = ((q : Int), 0) by unfold sizR; rw [if_pos hg, hq])
    have hq8 : q ≤ 134217728 := by omega
    by_cases hlong : 2048 < q
    · have hr : prnR v = ([], 3) := by unfold prnR; rw [if_pos hg, hq, if_pos hlong]
      rw [hr]
      clear hr hg hq hbk hb8
      go_enter Tryz.func10, Tryz.ntmps10
      go_wp2_with fail
      refine (pSiz_is HS.out (HV.out _ HH0.out.1) (HG.out.keep HH0.out.1) HC.out).mono ?_
      rintro e w1 ⟨rfl, hb1⟩
      have HH1 := Lib.hid (HH0.out.keep hb1)
      clear hb1
      go_wp2
      go_ret2
      exact ⟨rfl, HH1.out.1⟩
    · have hr : prnR v = (canJ v, 0) := by unfold prnR; rw [if_pos hg, hq, if_neg hlong]
      rw [hr]
      have HGD := Lib.hid (good_J hg).1
      have HQ := Lib.hid hq
      have HNE := Lib.hid (show canJ v ≠ [] by obtain ⟨c, u, e, _⟩ := canJ_head' v; rw [e]; simp)
      clear hr hg hq hbk hb8
      go_enter Tryz.func10, Tryz.ntmps10
      go_wp2_with fail
      refine (pSiz_is HS.out (HV.out _ HH0.out.1) (HG.out.keep HH0.out.1) HC.out).mono ?_
      rintro e w1 ⟨rfl, hb1⟩
      have HH1 := Lib.hid (HH0.out.keep hb1)
      clear hb1
      have HA2 := Lib.hid (HH1.out.push 55 #[.pointer none, .slice none 0 0] (g := w1.heap.size) rfl)
      go_wp2_with fail
      have HBB := Lib.hid HH1.out.1.size
      refine (bGrow w1.heap.size w1.heap.size q _ (Nat.le_refl _) HA2.out.b0 (by simp) (by omega)).mono ?_
      rintro e w2 ⟨rfl, hw2, hb2⟩
      have HB2 := Lib.hid (show Below w1.heap.size w1 w2 from ((Below.refl _ w1).alloc (Nat.le_refl _) _).trans hb2)
      have HH2 := Lib.hid (HH1.out.keep HB2.out)
      have hglt : 1 < w1.heap.size := Nat.lt_of_lt_of_le HG.out.lt HH1.out.1.size
      have HWS := Lib.hid (show WS w1.heap.size w1.heap.size [] w2 w2 from ⟨hw2, HG.out.keep HH2.out.1, Below.refl _ _, Lib.OthersKept.refl _ _ _, hglt, HB2.out.size⟩)
      obtain ⟨c1, f1, l1⟩ := HH2.out.b0.rules
      clear hw2 hb2 hglt
      have HVF := Lib.hid (show VR w2 (FB w1.heap.size) [.int .i64 k0, .int .i64 n0, .string s0, .slice A0 na0 ca0, .slice B0 nb0 cb0] v from
        ((HV.out w1 HH1.out.1).mono (F' := FB w1.heap.size) (fun b hb _ => hb)).keep (KeepF.fb HB2.out))
      go_wp2_with fail
      refine (wValue (nodesJ v) v 8 (Nat.le_refl _) HGD.out HC.out _ w1.heap.size w1.heap.size [] w2 HVF.out HWS.out (by rw [HQ.out]; simp; omega)).mono ?_
      rintro e w3 hp
      have HW3 := Lib.hid (HWS.out.step hp)
      obtain rfl := hp.1
      clear hp c1 f1 l1
      go_wp2_with fail
      refine (bString w1.heap.size w1.heap.size (canJ v) w3 HW3.out.1 HNE.out).mono ?_
      rintro e w4 ⟨rfl, hb4⟩
      have HB4 := Lib.hid (hb4)
      clear hb4
      go_wp2
      go_ret2
      refine ⟨rfl, ?_⟩
      have h1 := HH1.out.1
      have h3 : Below w1.heap.size w1 w3 := HB2.out.trans HW3.out.2.2.1
      exact h1.trans ((h3.trans HB4.out).mono h1.size)
  · have HS := Lib.hid (show sizR v = (0, 140) by unfold sizR; rw [if_neg hg])
    have hr : prnR v = ([], 140) := by unfold prnR; rw [if_neg hg]
    rw [hr]
    clear hr hg hbk hb8
    go_enter Tryz.func10, Tryz.ntmps10
    go_wp2_with fail
    refine (pSiz_is HS.out (HV.out _ HH0.out.1) (HG.out.keep HH0.out.1) HC.out).mono ?_
    rintro e w1 ⟨rfl, hb1⟩
    have HH1 := Lib.hid (HH0.out.keep hb1)
    clear hb1
    go_wp2
    go_ret2
    exact ⟨rfl, HH1.out.1⟩
end Go.Proofs.YtoejdhabpajhlaaGreatDoor

/- The walk of print.Again, and of the law's wakes. -/
namespace Go.Proofs.YtoejdhabpajhlaaGreatDoor
set_option linter.unusedVariables false
set_option linter.unusedSimpArgs false
open Go.RowKit
attribute [local go_sem] run_index_arr run_part_agg run_part_one run_field_agg

theorem pPrn_is {v : JV} {a : List UInt8} {b : Int} (h : prnR v = (a, b)) {cs : List Value} {F : Nat → Prop} {w : World} (hv : VR w F cs v) (hG : GOK w) (hc : Came v) : Calls Tryz.prog 10 #[.agg cs.toArray] w (PrnP (a, b) w) := by
  have h9 := pPrint_any v cs F w hv hG hc
  rw [h] at h9; exact h9
/-- what Again tells -/
def agnR (o : JV × Int × Int) : List UInt8 × Int × Int := if o.2.2 ≠ 0 then ([], o.2.1, o.2.2) else ((prnR o.1).1, 0, (prnR o.1).2)
def AgnP (l : List UInt8) (w : World) (e : Ending) (w' : World) : Prop := ∃ o, ParseR l o ∧ e = .returned (.tuple #[.string ⟨(agnR o).1.toArray⟩, .int .i64 (agnR o).2.1, .int .i64 (agnR o).2.2]) ∧ Below w.heap.size w w'
set_option maxRecDepth 100000 in
set_option maxHeartbeats 4000000 in
theorem pAgain_any (v : Value) (l : List UInt8) (w : World) (hG : GOK w) (hv : BS w v l) (hlen : l.length ≤ 4194304) : Calls Tryz.prog 15 #[v] w (AgnP l w) := by
  have HP := Lib.hid (parseParse_any v l w hG hv hlen)
  obtain ⟨A, cap, rfl, hcap, hr⟩ := hv
  obtain ⟨n, hn⟩ : ∃ n, l.length = n := ⟨_, rfl⟩
  rw [hn] at HP ⊢
  have HG := Lib.hid hG
  clear hG hcap hr hn hlen
  go_enter Tryz.func15, Tryz.ntmps15
  go_wp2_with fail
  refine HP.out.mono ?_
  rintro e w1 ⟨⟨x, a1, e1⟩, ho, cs, rfl, hvr, hb1⟩
  have HO := Lib.hid ho
  have HV := Lib.hid hvr
  obtain ⟨k0, n0, s0, A0, na0, ca0, B0, nb0, cb0, rfl⟩ := hvr.form
  have HB1 := Lib.hid hb1
  have hca := parse_came ho
  clear ho hvr hb1
  have HH0 := Lib.hid ((Held.nil w1).push 25 #[.int .i64 k0, .int .i64 n0, .string s0, .slice A0 na0 ca0, .slice B0 nb0 cb0] (g := w1.heap.size) rfl)
  rcases hca with ⟨he, hz⟩ | ⟨he, ha, hl, hg, hc, hcl⟩
  · have h1 : (e1 == 0) = false := by simp [he]
    have h2 : (e1 != 0) = true := by simp [he]
    have HAG := Lib.hid (show agnR (x, a1, e1) = ([], a1, e1) by unfold agnR; rw [if_pos he])
    clear hz he
    go_wp2
    refine bodyPost_ret (v := .tuple #[.string ⟨#[]⟩, .int .i64 a1, .int .i64 e1]) (by simp only [results, Tryz.results15]; go_simp) rfl ?_
    exact ⟨_, HO.out, by rw [HAG.out], HB1.out.trans (HH0.out.1.mono HB1.out.size)⟩
  · subst he ha
    obtain ⟨⟨q1, q2⟩, hq⟩ : ∃ q, prnR x = q := ⟨_, rfl⟩
    have HAG := Lib.hid (show agnR (x, 0, 0) = (q1, 0, q2) by unfold agnR; rw [if_neg (by simp), hq])
    have HPR := Lib.hid (fun (W : World) (h : Below w1.heap.size w1 W) => pPrn_is hq (HV.out.bel h) ((HG.out.keep HB1.out).keep h) hc)
    clear hq hc hcl hg hl
    obtain ⟨c1, f1, l1⟩ := HH0.out.b0.rules
    go_wp2_with fail
    refine (HPR.out _ HH0.out.1).mono ?_
    rintro e w2 ⟨rfl, hb2⟩
    have HH2 := Lib.hid (HH0.out.keep hb2)
    clear hb2 c1 f1 l1
    go_wp2
    refine bodyPost_ret (v := .tuple #[.string ⟨q1.toArray⟩, .int .i64 0, .int .i64 q2]) (by simp only [results, Tryz.results15]; go_simp) rfl ?_
    exact ⟨_, HO.out, by rw [HAG.out], HB1.out.trans (HH2.out.1.mono HB1.out.size)⟩
end Go.Proofs.YtoejdhabpajhlaaGreatDoor

/- The law's wakes: does the layer do anything? -/
namespace Go.Proofs.YtoejdhabpajhlaaGreatDoor
set_option linter.unusedVariables false
set_option linter.unusedSimpArgs false
open Go.RowKit
attribute [local go_sem] run_index_arr run_part_agg run_part_one run_field_agg

def k6b : List UInt8 := [32, 123, 32, 34, 98, 34, 32, 58, 32, 49, 44, 32, 34, 97, 34, 58, 34, 92, 117, 48, 48, 52, 49, 34, 32, 125, 32]
def k6t : List UInt8 := [123, 34, 97, 34, 58, 91, 93, 44, 34, 98, 34, 58, 34, 120, 92, 34, 34, 125]
def k6u : List UInt8 := [123, 34, 97, 34, 58, 34, 65, 34, 44, 34, 98, 34, 58, 49, 125]
def k6v : JV := .mk 6 0 [] [.mk 5 0 [] [] [], .mk 4 0 [120, 34] [] []] [[97], [98]]
def k6w : JV := .mk 6 0 [] [.mk 4 0 [65] [] [], .mk 3 1 [] [] []] [[97], [98]]
theorem k6_run : Reach k6b (.go 0 0 0 []) (.done 26 k6w) := ⟨20, by kernel_rfl⟩
theorem k6_out {o : JV × Int × Int} (h : ParseR k6b o) : o = (k6w, 0, 0) := ParseR_det (by decide) k6_run trivial h
theorem k6_good : good k6v = true := by kernel_rfl
theorem k6_goodw : good k6w = true := by kernel_rfl
theorem k6_can : canJ k6v = k6t := by kernel_rfl
theorem k6_canw : canJ k6w = k6u := by kernel_rfl
theorem k6_prn : prnR k6v = (k6t, 0) := by unfold prnR; rw [if_pos k6_good, k6_can]; first | done | rfl
theorem k6_siz : sizR k6v = (18, 0) := by unfold sizR; rw [if_pos k6_good, k6_can]; first | done | rfl
theorem k6_agn : agnR (k6w, 0, 0) = (k6u, 0, 0) := by unfold agnR prnR; rw [if_neg (by simp), if_pos k6_goodw, k6_canw]; first | done | rfl
theorem k6_zero : prnR jZero = ([], 140) := by
  have h : good jZero = false := by kernel_rfl
  unfold prnR; rw [h]; rfl
theorem k6_came : Came k6v := ⟨by unfold k6v inJ inL inL inL inJ inL iw; decide, by unfold k6v; simp [bulkJ, bulkL, bulkK]⟩
theorem k6_camz : Came jZero := ⟨by unfold jZero inJ inL iw; decide, by unfold jZero bulkJ bulkK bulkL; decide⟩
/-- the value in memory -/
theorem k6_vr (w : World) (g g' : Nat) (t t' : TypeId) (h : Blk w g t #[.string ⟨#[97]⟩, .string ⟨#[98]⟩]) (h' : Blk w g' t' #[.int .i64 5, .int .i64 0, .string ⟨#[]⟩, .slice none 0 0, .slice none 0 0, .int .i64 4, .int .i64 0, .string ⟨#[120, 34]⟩, .slice none 0 0, .slice none 0 0]) :
    VR w TT [.int .i64 6, .int .i64 0, .string ⟨#[]⟩, .slice (some ⟨g', 0, none⟩) 2 2, .slice (some ⟨g, 0, none⟩) 2 2] k6v := by
  have hvs : VRs w TT [[.int .i64 5, .int .i64 0, .string ⟨#[]⟩, .slice none 0 0, .slice none 0 0], [.int .i64 4, .int .i64 0, .string ⟨#[120, 34]⟩, .slice none 0 0, .slice none 0 0]] [.mk 5 0 [] [] [], .mk 4 0 [120, 34] [] []] :=
    (VRs.nil.snoc (VR.atom 5 0 [])).snoc (VR.atom 4 0 [120, 34])
  refine VR.into 6 0 [] hvs (Nat.le_refl 2) (Nat.le_refl 2) (fun e => by simp at e) (fun e => by simp at e) ?_ ?_ rfl rfl
  · exact fun hne => ⟨_, 0, rfl, h'.lt, trivial, fun i hi => by rw [Nat.zero_add, h'.cell]; simp at hi ⊢⟩
  · exact fun hne => ⟨_, 0, rfl, h.lt, trivial, fun i hi => by rw [Nat.zero_add, h.cell]; simp [strV] at hi ⊢⟩
theorem BS.litG (w : World) (l : List UInt8) (cs : Array Value) (fr : Nat × Nat) (h : cs = (byteV l).toArray) (n : Nat) (hn : n = l.length) (N : Nat) (hN : w.heap.size = N) : BS (w.alloc (.cells cs 5 fr)) (.slice (some ⟨N, 0, none⟩) n n) l := by
  subst h hn hN
  have hb : (w.alloc (.cells (byteV l).toArray 5 fr)).heap[w.heap.size]? = some (.cells (byteV l).toArray 5 fr) := heap_alloc_new w _
  refine ⟨_, _, rfl, Nat.le_refl _, fun _ => ⟨_, _, rfl, (Array.getElem?_eq_some_iff.1 hb).1, fun i hi => ?_⟩⟩
  unfold World.cell?
  simp only
  rw [hb]
  simp [hi]
set_option maxRecDepth 100000 in
set_option maxHeartbeats 4000000 in
theorem wakes6_any (w : World) (hG : GOK w) : Calls Tryz.prog 9 #[] w (BoolS true w) := by
  have HG := Lib.hid hG
  have HH0 := Lib.hid ((((Held.nil w).push 9 #[.string ⟨#[97]⟩, .string ⟨#[98]⟩] (g := w.heap.size) rfl).push 25 #[.int .i64 5, .int .i64 0, .string ⟨#[]⟩, .slice none 0 0, .slice none 0 0, .int .i64 4, .int .i64 0, .string ⟨#[120, 34]⟩, .slice none 0 0, .slice none 0 0] (g := w.heap.size + 1) (by simp)).push 25 #[.int .i64 6, .int .i64 0, .string ⟨#[]⟩, .slice (some ⟨w.heap.size + 1, 0, none⟩) 2 2, .slice (some ⟨w.heap.size, 0, none⟩) 2 2] (g := w.heap.size + 1 + 1) (by simp))
  have HVR := Lib.hid (fun (W : World) (h : Held [(w.heap.size + 1 + 1, 25, #[.int .i64 6, .int .i64 0, .string ⟨#[]⟩, .slice (some ⟨w.heap.size + 1, 0, none⟩) 2 2, .slice (some ⟨w.heap.size, 0, none⟩) 2 2]), (w.heap.size + 1, 25, #[.int .i64 5, .int .i64 0, .string ⟨#[]⟩, .slice none 0 0, .slice none 0 0, .int .i64 4, .int .i64 0, .string ⟨#[120, 34]⟩, .slice none 0 0, .slice none 0 0]), (w.heap.size, 9, #[.string ⟨#[97]⟩, .string ⟨#[98]⟩])] w W) => k6_vr W w.heap.size (w.heap.size + 1) _ _ h.b2 h.b1)
  clear hG
  go_enter Tryz.func9, Tryz.ntmps9
  go_wp2_with fail
  refine (pPrn_is k6_prn (HVR.out _ HH0.out) (HG.out.keep HH0.out.1) k6_came).mono ?_
  rintro e w1 ⟨rfl, hb1⟩
  have HH1 := Lib.hid (HH0.out.keep hb1)
  clear hb1 HH0
  obtain ⟨c1, f1, l1⟩ := HH1.out.b0.rules
  go_wp2_with fail
  refine (pSiz_is k6_siz (HVR.out _ HH1.out) (HG.out.keep HH1.out.1) k6_came).mono ?_
  rintro e w2 ⟨rfl, hb2⟩
  have HH2 := Lib.hid (HH1.out.keep hb2)
  clear hb2 HH1 c1 f1 l1
  have hcv := fun (C : Array Value) (n c : Nat) => Lib.run_convert_bytes_const (P := Tryz.prog) w2 34 5 C n c Tryz.underlying34 Tryz.underlying5
  go_wp2_with fail
  refine (pAgain_any _ k6b _ ((HG.out.keep HH2.out.1).alloc _) (BS.litG w2 k6b _ _ (by rfl) 27 rfl _ rfl) (by decide)).mono ?_
  rintro e w3 ⟨o, ho, rfl, hb3⟩
  obtain rfl := k6_out ho
  rw [k6_agn]
  have HH3 := Lib.hid ((HH2.out.alloc _).keep hb3)
  clear hb3 HH2 hcv ho
  simp only
  go_wp2_with fail
  refine (pPrn_is k6_zero (F := TT) VR.zero (HG.out.keep HH3.out.1) k6_camz).mono ?_
  rintro e w4 ⟨rfl, hb4⟩
  have HH4 := Lib.hid (HH3.out.keep hb4)
  clear hb4 HH3
  unfold k6t k6u
  go_wp2
  go_ret
  exact ⟨rfl, HH4.out.1⟩
end Go.Proofs.YtoejdhabpajhlaaGreatDoor
