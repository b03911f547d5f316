/- The walk of the reference's canonical text of a value. -/
import Derived.Test.YtoejdhabpajhlaaGreatDoorRef6c
namespace Go.Proofs.YtoejdhabpajhlaaGreatDoor
set_option linter.unusedVariables false
set_option linter.unusedSimpArgs false
open Go.RowKit
attribute [local go_sem] run_index_arr run_part_agg run_part_one run_field_agg

theorem ba_app3 (a b c : List UInt8) : ((⟨a.toArray⟩ : ByteArray) ++ ⟨b.toArray⟩) ++ ⟨c.toArray⟩ = ⟨(a ++ b ++ c).toArray⟩ := by rw [ba_app, ba_app]
theorem ret_app3 {a b c d : List UInt8} (h : a ++ b ++ c = d) : Ending.returned (.string (((⟨a.toArray⟩ : ByteArray) ++ ⟨b.toArray⟩) ++ ⟨c.toArray⟩)) = .returned (.string ⟨d.toArray⟩) := by rw [ba_app3, h]
theorem str_app {a b c : List UInt8} (h : a ++ b = c) : Value.string ((⟨a.toArray⟩ : ByteArray) ++ ⟨b.toArray⟩) = .string ⟨c.toArray⟩ := by rw [ba_app, h]
set_option maxRecDepth 100000 in
set_option maxHeartbeats 8000000 in
theorem rQuo (s : List UInt8) (w : World) (ht : txtOk s = true) (hl : s.length ≤ 4194304) : Calls Tryz.prog 29 #[.string ⟨s.toArray⟩] w (StrS (quoT s) w) := by
  obtain ⟨hcp, hs⟩ := txtOk_cpsOf ht
  obtain ⟨S, hS⟩ : ∃ S : ByteArray, (⟨s.toArray⟩ : ByteArray) = S := ⟨_, rfl⟩
  obtain ⟨cap, W1, hcv, hcap, hb1, _, hr1⟩ := conv_bytes (P := Tryz.prog) w 9 34 5 S Tryz.underlying9 Tryz.underlying34 Tryz.underlying5
  have hSs : sl S = s := by rw [← hS]
  have hSn : S.size = s.length := by rw [← hSs, sl_len]
  rw [hSs] at hr1
  rw [hSn] at hcv hcap
  have hcn : (cpsOf s).length ≤ s.length := cps_count _ s (Nat.le_refl _)
  have HP := Lib.hid (rPts (.slice (some ⟨w.heap.size, 0, none⟩) s.length cap) (cpsOf s) W1 hcp (by rw [← hs]; exact ⟨_, _, rfl, hcap, hr1⟩) (by rw [← hs]; exact hl))
  have HQ := Lib.hid (fun A cap W hcap hr => r2Print A (cpsOf s).length cap (cpsOf s) W rfl hcap hr hcp (Nat.le_trans hcn hl))
  have HB1 := Lib.hid hb1
  obtain ⟨n, hn⟩ : ∃ n, s.length = n := ⟨_, rfl⟩
  obtain ⟨m, hm⟩ : ∃ m, (cpsOf s).length = m := ⟨_, rfl⟩
  rw [hn] at HP hcv
  rw [hm] at HQ
  have HM := Lib.hid hm
  rw [hS]
  clear hcp hs hS hSs hSn hr1 hcap hcn hb1 hn hm ht hl
  go_enter Tryz.func29, Tryz.ntmps29
  go_wp2_with fail
  refine (HP.out).mono ?_
  rintro e w2 ⟨⟨A2, c2, rfl, hc2, hr2⟩, hb2⟩
  rw [HM.out] at hc2 ⊢
  have HR2 := Lib.hid hr2
  have HC2 := Lib.hid hc2
  have HB2 := Lib.hid hb2
  clear hc2 hr2 hb2 hcv
  go_wp2_with fail
  refine (HQ.out A2 c2 w2 HC2.out HR2.out).mono ?_
  rintro e w3 ⟨rfl, hb3⟩
  go_wp2
  go_ret
  exact ⟨rfl, (HB1.out.trans (HB2.out.mono HB1.out.size)).trans (hb3.mono (HB1.out.trans (HB2.out.mono HB1.out.size)).size)⟩
/-- what stands while the text is built: the value's own box -/
def TxSt (w : World) (cs : Array Value) (W : World) : Prop := Blk W w.heap.size 25 cs ∧ Below w.heap.size w W
theorem TxSt.bel {w W W' : World} {cs : Array Value} (h : TxSt w cs W) (hb : Below W.heap.size W W') : TxSt w cs W' := ⟨h.1.keep hb, h.2.trans (hb.mono h.2.size)⟩
theorem tStart (w : World) (cs : Array Value) : TxSt w cs (w.alloc (.cells cs 25)) := ⟨Blk.new w _ _, (Below.refl _ w).alloc (Nat.le_refl _) _⟩
def ForT (N : Nat) : Prop := ∀ (v : JV) (d : Nat), nodesJ v ≤ N → goodJ d v = true → Came v → ∀ (cs : List Value) (F : Nat → Prop) (w : World), VR w F cs v → Calls Tryz.prog 13 #[.agg cs.toArray] w (StrS (canJ v) w)
set_option maxRecDepth 100000 in
set_option maxHeartbeats 16000000 in
theorem tLeaf (v : JV) (k n : Int) (s : List UInt8) (A : Option Addr) (ca : Nat) (A' : Option Addr) (ny cb : Nat) (w : World) (hv : v = .mk k n s [] []) (hg : goodA k n s 0 [] = true) (hk : k < 5) (hin : iw n) (hsl : s.length ≤ 4194304) :
    Calls Tryz.prog 13 #[.agg #[.int .i64 k, .int .i64 n, .string ⟨s.toArray⟩, .slice A 0 ca, .slice A' ny cb]] w (StrS (canJ v) w) := by
  subst hv
  have hkk := goodA_kind hg
  have HS0 := Lib.hid (tStart w #[.int .i64 k, .int .i64 n, .string ⟨s.toArray⟩, .slice A 0 ca, .slice A' ny cb])
  obtain ⟨W0, hW0⟩ : ∃ W0, w.alloc (.cells #[.int .i64 k, .int .i64 n, .string ⟨s.toArray⟩, .slice A 0 ca, .slice A' ny cb] 25) = W0 := ⟨_, rfl⟩
  rw [hW0] at HS0
  have HW0 := Lib.hid hW0
  clear hW0
  obtain rfl | rfl | rfl | rfl : k = 1 ∨ k = 2 ∨ k = 3 ∨ k = 4 := by omega
  · have hcan : canJ (.mk 1 n s [] []) = nullT := by unfold canJ; rfl
    rw [hcan]
    obtain ⟨c1, f1, l1⟩ := HS0.out.1.rules
    clear hcan hg hkk hin hsl hk
    go_enter Tryz.func13, Tryz.ntmps13
    go_upto_region 2 with (fail)
    rw [HW0.out]
    clear HW0
    go_wp2
    go_ret
    exact ⟨rfl, HS0.out.2⟩
  · have h01 : n = 0 ∨ n = 1 := by unfold goodA at hg; simp at hg; exact hg.1
    rcases h01 with rfl | rfl
    · have hcan : canJ (.mk 2 0 s [] []) = falseT := by unfold canJ; rfl
      rw [hcan]
      obtain ⟨c1, f1, l1⟩ := HS0.out.1.rules
      clear hcan hg hkk hin hsl hk
      go_enter Tryz.func13, Tryz.ntmps13
      go_upto_region 2 with (fail)
      rw [HW0.out]
      clear HW0
      go_wp2
      go_ret
      exact ⟨rfl, HS0.out.2⟩
    · have hcan : canJ (.mk 2 1 s [] []) = trueT := by unfold canJ; rfl
      rw [hcan]
      obtain ⟨c1, f1, l1⟩ := HS0.out.1.rules
      clear hcan hg hkk hin hsl hk
      go_enter Tryz.func13, Tryz.ntmps13
      go_upto_region 2 with (fail)
      rw [HW0.out]
      clear HW0
      go_wp2
      go_ret
      exact ⟨rfl, HS0.out.2⟩
  · have hcan : canJ (.mk 3 n s [] []) = numT n := by unfold canJ; rfl
    rw [hcan]
    obtain ⟨c1, f1, l1⟩ := HS0.out.1.rules
    have HNP := Lib.hid (fun W => rNum n hin W)
    clear hcan hg hkk hin hsl hk
    go_enter Tryz.func13, Tryz.ntmps13
    go_upto_region 2 with (fail)
    rw [HW0.out]
    clear HW0
    go_wp2_with fail
    refine (HNP.out _).mono ?_
    rintro e w2 ⟨rfl, h2⟩
    go_wp2
    go_ret
    exact ⟨rfl, (HS0.out.bel h2).2⟩
  · have hcan : canJ (.mk 4 n s [] []) = quoT s := by unfold canJ; rfl
    rw [hcan]
    obtain ⟨c1, f1, l1⟩ := HS0.out.1.rules
    have hto : txtOk s = true := by unfold goodA at hg; simp at hg; exact hg.2
    have HNP := Lib.hid (fun W => rQuo s W hto hsl)
    clear hcan hg hkk hin hsl hk hto
    go_enter Tryz.func13, Tryz.ntmps13
    go_upto_region 2 with (fail)
    rw [HW0.out]
    clear HW0
    go_wp2_with fail
    refine (HNP.out _).mono ?_
    rintro e w2 ⟨rfl, h2⟩
    go_wp2
    go_ret
    exact ⟨rfl, (HS0.out.bel h2).2⟩
set_option maxRecDepth 100000 in
set_option maxHeartbeats 16000000 in
theorem tList (N : Nat) (ih : ForT N) (kids : List JV) (d : Nat) (hN : nodesL kids ≤ N) (hg : goodL d kids = true) (hC : ∀ x ∈ kids, Came x) (n : Int) (s : ByteArray) (A : Option Addr) (nk ca : Nat) (A' : Option Addr) (ny cb : Nat) (css : List (List Value)) (F : Nat → Prop) (w : World)
    (h1 : VRs w F css kids) (h6 : RdF w F A css.flatten) (hnk : kids.length = nk) (hnk8 : nk ≤ 4194304) (hb : (canL false true kids []).length + 2 ≤ 35184372088832) :
    Calls Tryz.prog 13 #[.agg #[.int .i64 5, .int .i64 n, .string s, .slice A nk ca, .slice A' ny cb]] w (StrS (91 :: canL false true kids [] ++ [93]) w) := by
  obtain ⟨T, hT⟩ : ∃ T, canL false true kids [] = T := ⟨_, rfl⟩
  have HLE := Lib.hid (fun i => canL_le false kids [] i)
  rw [hT] at HLE hb ⊢
  have HS0 := Lib.hid (tStart w #[.int .i64 5, .int .i64 n, .string s, .slice A nk ca, .slice A' ny cb])
  obtain ⟨W0, hW0⟩ : ∃ W0, w.alloc (.cells #[.int .i64 5, .int .i64 n, .string s, .slice A nk ca, .slice A' ny cb] 25) = W0 := ⟨_, rfl⟩
  rw [hW0] at HS0
  have HW0 := Lib.hid hW0
  have HV := Lib.hid h1
  have HR := Lib.hid h6
  have HNK := Lib.hid hnk
  have HBD := Lib.hid hb
  have HT := Lib.hid hT
  have HGD := Lib.hid hg
  have HCM := Lib.hid hC
  have HIH := Lib.hid (show ∀ x d, nodesJ x ≤ N → goodJ d x = true → Came x → ∀ (cs : List Value) (F : Nat → Prop) (w : World), VR w F cs x → Calls Tryz.prog 13 #[.agg cs.toArray] w (StrS (canJ x) w) from ih)
  clear hg hW0 h1 h6 hnk hb hC ih hT
  obtain ⟨c1, f1, l1⟩ := HS0.out.1.rules
  go_enter Tryz.func13, Tryz.ntmps13
  go_upto_region 2 with (fail)
  rw [HW0.out]
  clear HW0
  go_wp2
  clear c1 f1 l1
  go_loopg [3, 4] nk (fun gk s3 s4 wr => ∃ i : Nat, gk = nk - i ∧ i ≤ nk ∧ s4 = .int .i64 i ∧ s3 = .string ⟨(canL false true (kids.take i) []).toArray⟩ ∧ Hid (TxSt w #[.int .i64 5, .int .i64 n, .string s, .slice A nk ca, .slice A' ny cb] wr))
  case atStart => exact ⟨0, rfl, Nat.zero_le _, rfl, by simp [canL], HS0⟩
  case round =>
    obtain ⟨i, hgk, hi, rfl, rfl, HX⟩ := hrel
    have HGK := Lib.hid hgk
    clear hgk HS0
    obtain ⟨c1, f1, l1⟩ := HX.out.1.rules
    by_cases hlt : i < nk
    · obtain ⟨x, hx⟩ : ∃ x, kids[i]? = some x := ⟨_, List.getElem?_eq_getElem (by rw [HNK.out]; exact hlt)⟩
      have hst := canL_take (o := false) (keys := []) hx
      have hle := HLE.out (i + 1)
      have hnx := (nodesL_at hx).2
      have hih := HIH.out x d (by omega) (goodJ_kid HGD.out hx) (HCM.out x (List.mem_of_getElem? hx))
      obtain ⟨Cx, hCx⟩ : ∃ Cx, canJ x = Cx := ⟨_, rfl⟩
      obtain ⟨Pre, hPre⟩ : ∃ Pre, canL false true (kids.take i) [] = Pre := ⟨_, rfl⟩
      rw [hCx] at hih
      have IHX := Lib.hid hih
      have hlb1 : Pre.length ≤ 35184372088832 := by have := HLE.out i; rw [hPre] at this; have := HBD.out; omega
      rw [hPre, hCx] at hst
      simp only [Bool.false_eq_true, if_false, List.nil_append] at hst
      have HV2 := Lib.hid (fun (W : World) (h : KeepF F w W) => kid_cellsG (HV.out.keep h) (HR.out.keep h) hx)
      rw [hst] at hle
      have HST := Lib.hid hst
      rw [hPre]
      have hle2 := Nat.le_trans hle (Nat.le_trans (Nat.le_add_right _ 2) HBD.out)
      simp only [List.length_append] at hle2
      have hlb2 : Cx.length ≤ 35184372088832 := by omega
      clear hst hle hnx hx hPre hCx hih hle2
      by_cases h0 : i = 0
      · subst h0
        rw [if_pos rfl, List.nil_append] at HST
        obtain ⟨b, oo, k1, n1, s1, A1, na1, ca1, B1, nb1, cb1, hAe, hb1, hvx, hz⟩ := HV2.out wr (KeepF.of_below HX.out.2)
        obtain ⟨z0, z1, z2, z3, z4⟩ := hz wr (Below.refl _ _)
        rw [Nat.zero_mul, Nat.add_zero] at z0 z1 z2 z3 z4
        subst hAe
        have HVX := Lib.hid hvx
        clear hz hvx
        go_wp2_with fail
        refine (IHX.out _ F wr HVX.out).mono ?_
        rintro e w5 ⟨rfl, hb5⟩
        have HX5 := Lib.hid (HX.out.bel hb5)
        clear hb5 c1 f1 l1 z0 z1 z2 z3 z4 hb1
        go_wp2
        go_roundg (nk - (0 + 1))
        case measure => rw [HGK.out]; omega
        case rel => exact ⟨0 + 1, rfl, hlt, by go_num, str_app (by rw [HST.out]), HX5⟩
      · rw [if_neg h0] at HST
        have h0' : (0 : Int) < (i : Int) := by omega
        obtain ⟨P1, hP1⟩ : ∃ P1, Pre ++ [44] = P1 := ⟨_, rfl⟩
        have hlb4 : P1.length ≤ 35184372088833 := by rw [← hP1, List.length_append]; simp; omega
        have HP1 := Lib.hid hP1
        have HE1 := Lib.hid (show (⟨Pre.toArray⟩ : ByteArray) ++ ⟨#[44]⟩ = ⟨P1.toArray⟩ by rw [← hP1]; exact ba_app Pre [44])
        clear hP1
        obtain ⟨b, oo, k1, n1, s1, A1, na1, ca1, B1, nb1, cb1, hAe, hb1, hvx, hz⟩ := HV2.out wr (KeepF.of_below HX.out.2)
        obtain ⟨z0, z1, z2, z3, z4⟩ := hz wr (Below.refl _ _)
        subst hAe
        have HVX := Lib.hid hvx
        clear hz hvx
        go_wp2_with fail
        rw [HE1.out]
        refine (IHX.out _ F wr HVX.out).mono ?_
        rintro e w5 ⟨rfl, hb5⟩
        have HX5 := Lib.hid (HX.out.bel hb5)
        clear hb5 c1 f1 l1 z0 z1 z2 z3 z4 hb1
        go_wp2
        go_roundg (nk - (i + 1))
        case measure => rw [HGK.out]; omega
        case rel => exact ⟨i + 1, rfl, hlt, by go_num, str_app (by rw [HST.out, ← HP1.out]; simp [List.append_assoc]), HX5⟩
    · obtain rfl : i = nk := by omega
      have htk : kids.take i = kids := List.take_of_length_le (by rw [HNK.out]; exact Nat.le_refl _)
      rw [htk, HT.out]
      have hlb : T.length ≤ 35184372088832 := by have := HBD.out; omega
      clear htk
      go_wp2
      go_ret
      exact ⟨ret_app3 (a := [91]) (c := [93]) rfl, HX.out.2⟩
set_option maxRecDepth 100000 in
set_option maxHeartbeats 16000000 in
theorem tObj (N : Nat) (ih : ForT N) (kids : List JV) (d : Nat) (hN : nodesL kids ≤ N) (hg : goodL d kids = true) (hC : ∀ x ∈ kids, Came x) (n : Int) (s : ByteArray) (A : Option Addr) (nk ca : Nat) (A' : Option Addr) (ny cb : Nat) (css : List (List Value)) (F : Nat → Prop) (w : World)
    (h1 : VRs w F css kids) (h6 : RdF w F A css.flatten) (hnk : kids.length = nk) (hnk8 : nk ≤ 4194304) (keys : List (List UInt8)) (hlen : keys.length = kids.length) (hkk : ∀ t ∈ keys, txtOk t = true ∧ t.length ≤ 4194304) (h7 : RdF w F A' (strV keys)) (hny : keys.length = ny) (hb : (canL true true kids keys).length + 2 ≤ 35184372088832) :
    Calls Tryz.prog 13 #[.agg #[.int .i64 6, .int .i64 n, .string s, .slice A nk ca, .slice A' ny cb]] w (StrS (123 :: canL true true kids keys ++ [125]) w) := by
  obtain ⟨T, hT⟩ : ∃ T, canL true true kids keys = T := ⟨_, rfl⟩
  have HLE := Lib.hid (fun i => canL_le true kids keys i)
  rw [hT] at HLE hb ⊢
  have HS0 := Lib.hid (tStart w #[.int .i64 6, .int .i64 n, .string s, .slice A nk ca, .slice A' ny cb])
  obtain ⟨W0, hW0⟩ : ∃ W0, w.alloc (.cells #[.int .i64 6, .int .i64 n, .string s, .slice A nk ca, .slice A' ny cb] 25) = W0 := ⟨_, rfl⟩
  rw [hW0] at HS0
  have HW0 := Lib.hid hW0
  have HV := Lib.hid h1
  have HR := Lib.hid h6
  have HNK := Lib.hid hnk
  have HBD := Lib.hid hb
  have HT := Lib.hid hT
  have HGD := Lib.hid hg
  have HCM := Lib.hid hC
  have HIH := Lib.hid (show ∀ x d, nodesJ x ≤ N → goodJ d x = true → Came x → ∀ (cs : List Value) (F : Nat → Prop) (w : World), VR w F cs x → Calls Tryz.prog 13 #[.agg cs.toArray] w (StrS (canJ x) w) from ih)
  have HLEN := Lib.hid hlen
  have HKK := Lib.hid hkk
  have HRK := Lib.hid h7
  have HNY := Lib.hid hny
  clear hlen hkk h7 hny
  clear hg hW0 h1 h6 hnk hb hC ih hT
  obtain ⟨c1, f1, l1⟩ := HS0.out.1.rules
  go_enter Tryz.func13, Tryz.ntmps13
  go_upto_region 2 with (fail)
  rw [HW0.out]
  clear HW0
  go_wp2
  clear c1 f1 l1
  go_loopg [3, 4] nk (fun gk s3 s4 wr => ∃ i : Nat, gk = nk - i ∧ i ≤ nk ∧ s4 = .int .i64 i ∧ s3 = .string ⟨(canL true true (kids.take i) keys).toArray⟩ ∧ Hid (TxSt w #[.int .i64 6, .int .i64 n, .string s, .slice A nk ca, .slice A' ny cb] wr))
  case atStart => exact ⟨0, rfl, Nat.zero_le _, rfl, by simp [canL], HS0⟩
  case round =>
    obtain ⟨i, hgk, hi, rfl, rfl, HX⟩ := hrel
    have HGK := Lib.hid hgk
    clear hgk HS0
    obtain ⟨c1, f1, l1⟩ := HX.out.1.rules
    by_cases hlt : i < nk
    · obtain ⟨x, hx⟩ : ∃ x, kids[i]? = some x := ⟨_, List.getElem?_eq_getElem (by rw [HNK.out]; exact hlt)⟩
      have hst := canL_take (o := true) (keys := keys) hx
      have hle := HLE.out (i + 1)
      have hnx := (nodesL_at hx).2
      have hih := HIH.out x d (by omega) (goodJ_kid HGD.out hx) (HCM.out x (List.mem_of_getElem? hx))
      obtain ⟨Cx, hCx⟩ : ∃ Cx, canJ x = Cx := ⟨_, rfl⟩
      obtain ⟨Pre, hPre⟩ : ∃ Pre, canL true true (kids.take i) keys = Pre := ⟨_, rfl⟩
      rw [hCx] at hih
      have IHX := Lib.hid hih
      have hlb1 : Pre.length ≤ 35184372088832 := by have := HLE.out i; rw [hPre] at this; have := HBD.out; omega
      obtain ⟨key, hkey⟩ : ∃ key, keys[i]? = some key := ⟨_, List.getElem?_eq_getElem (by rw [HLEN.out, HNK.out]; exact hlt)⟩
      have hkp := HKK.out key (List.mem_of_getElem? hkey)
      obtain ⟨bk, ok, rfl, hbk0⟩ := strV_some HRK.out (by rw [HLEN.out, HNK.out]; omega)
      have hiy : i < ny := by have := HLEN.out; have := HNK.out; have := HNY.out; omega
      obtain ⟨Qk, hQk⟩ : ∃ Qk, quoT key = Qk := ⟨_, rfl⟩
      have hqs := fun W => rQuo key W hkp.1 hkp.2
      rw [hQk] at hqs
      have HQS := Lib.hid hqs
      have HKC := Lib.hid (fun (W : World) (h : KeepF F w W) => strV_cell (n := 0) ((HRK.out.keep h).mono fun _ _ _ => trivial) hkey)
      rw [keys_head hkey, hQk] at hst
      clear hkp hkey hQk hqs
      rw [hPre, hCx] at hst
      simp only [if_true] at hst
      have HV2 := Lib.hid (fun (W : World) (h : KeepF F w W) => kid_cellsG (HV.out.keep h) (HR.out.keep h) hx)
      rw [hst] at hle
      have HST := Lib.hid hst
      rw [hPre]
      have hle2 := Nat.le_trans hle (Nat.le_trans (Nat.le_add_right _ 2) HBD.out)
      simp only [List.length_append] at hle2
      have hlb2 : Cx.length ≤ 35184372088832 := by omega
      have hlb3 : Qk.length ≤ 35184372088832 := by omega
      clear hst hle hnx hx hPre hCx hih hle2
      by_cases h0 : i = 0
      · subst h0
        rw [if_pos rfl, List.nil_append] at HST
        have hck := HKC.out wr (KeepF.of_below HX.out.2)
        have hbk1 : bk < wr.heap.size := Nat.lt_of_lt_of_le hbk0 HX.out.2.size
        rw [Nat.add_zero] at hck
        go_wp2_with fail
        refine (HQS.out _).mono ?_
        rintro e w3 ⟨rfl, hb3⟩
        have HX3 := Lib.hid (HX.out.bel hb3)
        obtain ⟨P2, hP2⟩ : ∃ P2, Pre ++ Qk ++ [58] = P2 := ⟨_, rfl⟩
        have hlb5 : P2.length ≤ 105553116266498 := by rw [← hP2, List.length_append, List.length_append]; simp; omega
        have HP2 := Lib.hid hP2
        have HE2 := Lib.hid (show ((⟨Pre.toArray⟩ : ByteArray) ++ ⟨Qk.toArray⟩) ++ ⟨#[58]⟩ = ⟨P2.toArray⟩ by rw [← hP2]; exact ba_app3 Pre Qk [58])
        clear hb3 hck hbk1 c1 f1 l1 hP2
        obtain ⟨c1, f1, l1⟩ := HX3.out.1.rules
        obtain ⟨b, oo, k1, n1, s1, A1, na1, ca1, B1, nb1, cb1, hAe, hb1, hvx, hz⟩ := HV2.out w3 (KeepF.of_below HX3.out.2)
        obtain ⟨z0, z1, z2, z3, z4⟩ := hz w3 (Below.refl _ _)
        rw [Nat.zero_mul, Nat.add_zero] at z0 z1 z2 z3 z4
        subst hAe
        have HVX := Lib.hid hvx
        clear hz hvx
        go_wp2_with fail
        rw [HE2.out]
        refine (IHX.out _ F w3 HVX.out).mono ?_
        rintro e w5 ⟨rfl, hb5⟩
        have HX5 := Lib.hid (HX3.out.bel hb5)
        clear hb5 c1 f1 l1 z0 z1 z2 z3 z4 hb1
        go_wp2
        go_roundg (nk - (0 + 1))
        case measure => rw [HGK.out]; omega
        case rel => exact ⟨0 + 1, rfl, hlt, by go_num, str_app (by rw [HST.out, ← HP2.out]; simp [List.append_assoc]), HX5⟩
      · rw [if_neg h0] at HST
        have h0' : (0 : Int) < (i : Int) := by omega
        obtain ⟨P1, hP1⟩ : ∃ P1, Pre ++ [44] = P1 := ⟨_, rfl⟩
        have hlb4 : P1.length ≤ 35184372088833 := by rw [← hP1, List.length_append]; simp; omega
        have HP1 := Lib.hid hP1
        have HE1 := Lib.hid (show (⟨Pre.toArray⟩ : ByteArray) ++ ⟨#[44]⟩ = ⟨P1.toArray⟩ by rw [← hP1]; exact ba_app Pre [44])
        clear hP1
        have hck := HKC.out wr (KeepF.of_below HX.out.2)
        have hbk1 : bk < wr.heap.size := Nat.lt_of_lt_of_le hbk0 HX.out.2.size
        go_wp2_with fail
        rw [HE1.out]
        refine (HQS.out _).mono ?_
        rintro e w3 ⟨rfl, hb3⟩
        have HX3 := Lib.hid (HX.out.bel hb3)
        obtain ⟨P2, hP2⟩ : ∃ P2, P1 ++ Qk ++ [58] = P2 := ⟨_, rfl⟩
        have hlb5 : P2.length ≤ 105553116266498 := by rw [← hP2, List.length_append, List.length_append]; simp; omega
        have HP2 := Lib.hid hP2
        have HE2 := Lib.hid (show ((⟨P1.toArray⟩ : ByteArray) ++ ⟨Qk.toArray⟩) ++ ⟨#[58]⟩ = ⟨P2.toArray⟩ by rw [← hP2]; exact ba_app3 P1 Qk [58])
        clear hb3 hck hbk1 c1 f1 l1 hP2
        obtain ⟨c1, f1, l1⟩ := HX3.out.1.rules
        obtain ⟨b, oo, k1, n1, s1, A1, na1, ca1, B1, nb1, cb1, hAe, hb1, hvx, hz⟩ := HV2.out w3 (KeepF.of_below HX3.out.2)
        obtain ⟨z0, z1, z2, z3, z4⟩ := hz w3 (Below.refl _ _)
        subst hAe
        have HVX := Lib.hid hvx
        clear hz hvx
        go_wp2_with fail
        rw [HE2.out]
        refine (IHX.out _ F w3 HVX.out).mono ?_
        rintro e w5 ⟨rfl, hb5⟩
        have HX5 := Lib.hid (HX3.out.bel hb5)
        clear hb5 c1 f1 l1 z0 z1 z2 z3 z4 hb1
        go_wp2
        go_roundg (nk - (i + 1))
        case measure => rw [HGK.out]; omega
        case rel => exact ⟨i + 1, rfl, hlt, by go_num, str_app (by rw [HST.out, ← HP2.out, ← HP1.out]; simp [List.append_assoc]), HX5⟩
    · obtain rfl : i = nk := by omega
      have htk : kids.take i = kids := List.take_of_length_le (by rw [HNK.out]; exact Nat.le_refl _)
      rw [htk, HT.out]
      have hlb : T.length ≤ 35184372088832 := by have := HBD.out; omega
      clear htk
      go_wp2
      go_ret
      exact ⟨ret_app3 (a := [123]) (c := [125]) rfl, HX.out.2⟩
theorem tStep (N : Nat) (ih : ForT N) : ForT (N + 1) := by
  intro v d hN hg hC cs F w hv
  have hbk := can_bulk v hC.ints
  have hb8 := hC.bulk
  obtain ⟨k, n, s, kids, keys⟩ := v
  obtain ⟨A, A', ca, cb, css, rfl, h1, h2, h3, h4, h5, h6, h7⟩ := hv.out
  obtain ⟨hik, hin, hsl, hkl, hyl, hyt, hck⟩ := hC.out
  unfold nodesJ at hN
  unfold goodJ at hg
  simp only [Bool.and_eq_true, decide_eq_true_eq] at hg
  obtain ⟨hA, hd, hL⟩ := hg
  have hk := goodA_kind hA
  by_cases hk5 : k < 5
  · obtain ⟨e1, e2⟩ := goodA_leaf hA hk5
    have e1 : kids = [] := List.eq_nil_of_length_eq_zero e1
    subst e1 e2
    exact tLeaf _ k n s A ca A' 0 cb w rfl hA hk5 hin hsl
  · obtain rfl | rfl : k = 5 ∨ k = 6 := by omega
    · obtain ⟨rfl, rfl, rfl⟩ := goodA_list hA
      have hc : canJ (.mk 5 0 [] kids []) = 91 :: canL false true kids [] ++ [93] := by unfold canJ; simp
      rw [hc] at hbk ⊢
      simp only [List.length_append, List.length_cons, List.length_nil] at hbk
      exact tList N ih kids (d - 1) (by omega) hL hck 0 _ A _ ca A' _ cb css F w h1 h6 rfl hkl (by omega)
    · obtain ⟨rfl, rfl, hlen, hko⟩ := goodA_obj hA
      have hc : canJ (.mk 6 0 [] kids keys) = 123 :: canL true true kids keys ++ [125] := by unfold canJ; simp
      rw [hc] at hbk ⊢
      simp only [List.length_append, List.length_cons, List.length_nil] at hbk
      exact tObj N ih kids (d - 1) (by omega) hL hck 0 _ A _ ca A' _ cb css F w h1 h6 rfl hkl keys hlen.symm (fun t ht => ⟨(keysOk_iff.1 hko).1 t ht, hyt t ht⟩) h7 rfl (by omega)
theorem rText : ∀ N, ForT N
  | 0 => fun v d h => by have := nodesJ_pos v; omega
  | N + 1 => tStep N (rText N)
end Go.Proofs.YtoejdhabpajhlaaGreatDoor
