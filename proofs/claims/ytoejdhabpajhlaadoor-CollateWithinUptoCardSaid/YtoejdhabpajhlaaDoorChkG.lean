/- The walks of utf.Check and of the reference's Valid: on any text. -/
import Derived.Test.YtoejdhabpajhlaaDoorGoodP
import Derived.Test.YtoejdhabpajhlaaDoorBase
import Derived.Test.YtoejdhabpajhlaaDoorUtf2
import Derived.Test.YtoejdhabpajhlaaDoorRef1
import Derived.Test.YtoejdhabpajhlaaDoorRef2d
import Derived.Test.YtoejdhabpajhlaaDoorVal
import Derived.Deep.RegionHeld3
import Derived.Test.YtoejdhabpajhlaaDoorEq18
namespace Go.Proofs.YtoejdhabpajhlaaDoor
set_option linter.unusedVariables false
set_option linter.unusedSimpArgs false
open Go.RowKit
attribute [local go_sem] run_index_arr run_part_agg run_part_one run_field_agg

set_option maxRecDepth 100000 in
set_option maxHeartbeats 4000000 in
theorem uCountG_any (n p : Int) (w : World) (h0 : 0 ≤ n) (h1 : n ≤ 4194304) : Calls Tryd.prog 142 #[.int .i64 n, .int .i64 p] w fun e w' => e = .returned (.int .i64 (n + 1)) ∧ w = w' := by
  go_enter Tryd.func142, Tryd.ntmps142
  go_wp2
  go_ret
  exact ⟨rfl, rfl⟩
/-- the error of a text -/
def uErr (s : List UInt8) : Int := if txtOk s = true then 0 else 110
set_option maxRecDepth 100000 in
set_option maxHeartbeats 4000000 in
theorem uThrough_any (s : List UInt8) (w : World) (hG : GOK w) (hl : s.length ≤ 4194304) :
    Calls Tryd.prog 141 #[.string ⟨s.toArray⟩, .int .i64 0, .func (.func 142) #[] #[]] w fun e w' => (∃ n p : Int, e = .returned (.tuple #[.int .i64 n, .int .i64 p, .int .i64 (uErr s)])) ∧ Below w.heap.size w w' := by
  obtain ⟨ba, hba⟩ : ∃ ba : ByteArray, (⟨s.toArray⟩ : ByteArray) = ba := ⟨_, rfl⟩
  have hsl : sl ba = s := by rw [← hba, sl_mk]
  rw [hba]
  obtain ⟨cap, W1, hcv, hcap, hb1, hs1, hr1⟩ := conv_bytes (P := Tryd.prog) w 9 22 5 ba Tryd.underlying9 Tryd.underlying22 Tryd.underlying5
  rw [hsl] at hr1
  have hsz : ba.size = s.length := by rw [← hsl, sl_len]
  rw [hsz] at hcv hcap
  have HR := Lib.hid hr1
  have HB1 := Lib.hid hb1
  have hlt1 : w.heap.size < W1.heap.size := by omega
  clear hr1 hb1 hsl hba hsz hs1
  have HGK := Lib.hid hG
  clear hG
  have HCN := Lib.hid (fun n p w h0 h1 => uCountG_any n p w h0 h1)
  obtain ⟨er, her⟩ : ∃ er, uErr s = er := ⟨_, rfl⟩
  rw [her]
  have HER := Lib.hid her
  clear her
  go_enter Tryd.func141, Tryd.ntmps141
  go_wp2
  go_loopg [1, 10] s.length (fun gk s1 s10 wr => ∃ (p n : Nat), p ≤ s.length ∧ n ≤ p ∧ gk = s.length - p ∧ s1 = .int .i64 n ∧ s10 = .int .i64 p ∧ Hid (uErr s = uErr (s.drop p)) ∧ Hid (Below W1.heap.size W1 wr))
  case atStart => exact ⟨0, 0, Nat.zero_le _, Nat.le_refl _, rfl, by go_num, by go_num, Lib.hid (by rw [List.drop_zero]), Lib.hid (Below.refl _ _)⟩
  case round =>
    obtain ⟨p, n, hp, hnp, hgk, rfl, rfl, HQ, HW⟩ := hrel
    have HG := Lib.hid hgk
    clear hgk
    by_cases hlt : p < s.length
    · obtain ⟨c, m, hcm⟩ : ∃ c m, cpBegin (s.drop p) = (c, m) := ⟨_, _, rfl⟩
      have hne : s.drop p ≠ [] := by intro e; have h := congrArg List.length e; rw [List.length_drop] at h; simp at h; omega
      have hle := cpBegin_le4 (s.drop p)
      have hst := txtOk_step hne
      rw [hcm] at hle hst
      rw [List.length_drop] at hle
      have hpn : p + m ≤ s.length := by have := hle.1; simp only at this; omega
      have hm4 : m ≤ 4 := hle.2
      rw [List.drop_drop] at hst
      have HST := Lib.hid hst
      have hW := HB1.out.trans (HW.out.mono HB1.out.size)
      have hcell : ∀ i x, (s.drop p)[i]? = some x → wr.cell? ⟨w.heap.size, p + i, none⟩ = some (.int .u8 x.toNat) := fun i x hx => by
        rw [List.getElem?_drop] at hx
        have h := BS.at_ (n := 0) (cap := 0) (HR.out.below HW.out) hx
        rwa [Nat.zero_add] at h
      have hNX := next_any w.heap.size p (cap - p) (s.drop p) wr hne (HGK.out.keep hW) (by have := HW.out.size; omega) hcell (by rw [List.length_drop]; omega) (by rw [List.length_drop]; omega)
      rw [hcm, List.length_drop] at hNX
      have HNX := Lib.hid hNX
      have hcapp : ¬ cap = p := by omega
      clear hNX hcell hW hcm hne hle hst
      by_cases hm0 : m = 0
      · subst hm0
        have hu : er = 110 := by
          rw [← HER.out, HQ.out]
          unfold uErr
          rw [HST.out, if_pos rfl]; rfl
        subst hu
        go_wp2_with fail
        refine HNX.out.mono ?_
        rintro e w1 ⟨rfl, hb2⟩
        have HW2 := Lib.hid (HW.out.trans (hb2.mono HW.out.size))
        clear hb2
        go_wp2
        go_ret3
        exact ⟨⟨_, _, rfl⟩, HB1.out.trans (HW2.out.mono HB1.out.size)⟩
      · have hm1 : ((m : Int) == 0) = false := by simp; omega
        have HQ2 := Lib.hid (show uErr s = uErr (s.drop (p + m)) by rw [HQ.out]; unfold uErr; rw [HST.out, if_neg hm0])
        go_wp2_with fail
        refine HNX.out.mono ?_
        rintro e w1 ⟨rfl, hb2⟩
        have HW2 := Lib.hid (HW.out.trans (hb2.mono HW.out.size))
        clear hb2
        go_wp2_with fail
        refine (HCN.out n c _ (by omega) (by omega)).mono ?_
        rintro e w2 ⟨rfl, rfl⟩
        go_wp2
        go_roundg (s.length - (p + m))
        case measure => rw [HG.out]; omega
        case rel => exact ⟨p + m, n + 1, hpn, by omega, rfl, by go_num, by go_num, HQ2, HW2⟩
    · obtain rfl : p = s.length := by omega
      have hu : er = 0 := by
        rw [← HER.out, HQ.out, List.drop_length]; rfl
      subst hu
      go_wp2
      go_ret3
      exact ⟨⟨_, _, rfl⟩, HB1.out.trans (HW.out.mono HB1.out.size)⟩
set_option maxRecDepth 100000 in
set_option maxHeartbeats 4000000 in
theorem uCheck_any (s : List UInt8) (w : World) (hG : GOK w) (hl : s.length ≤ 4194304) : Calls Tryd.prog 129 #[.string ⟨s.toArray⟩] w fun e w' => (∃ p : Int, e = .returned (.tuple #[.int .i64 p, .int .i64 (uErr s)])) ∧ Below w.heap.size w w' := by
  have HT := Lib.hid (uThrough_any s w hG hl)
  clear hl hG
  obtain ⟨er, her⟩ : ∃ er, uErr s = er := ⟨_, rfl⟩
  rw [her] at HT ⊢
  clear her
  go_enter Tryd.func129, Tryd.ntmps129
  go_wp2_with fail
  refine HT.out.mono ?_
  rintro e w1 ⟨⟨n, p, rfl⟩, hb⟩
  have HB := Lib.hid hb
  clear hb
  go_wp2
  go_ret2
  exact ⟨⟨_, rfl⟩, HB.out⟩

set_option maxRecDepth 100000 in
set_option maxHeartbeats 4000000 in
theorem rPoints_any (v : Value) (l : List UInt8) (w : World) (hv : BS w v l) (hl : l.length ≤ 4194304) :
    Calls Tryd.prog 139 #[v] w fun e w' => (∃ u p, e = .returned (.tuple #[u, p, .bool (txtOk l)])) ∧ Below w.heap.size w w' := by
  obtain ⟨i0, hi, hz0, hz1, hz2⟩ := info_parts infoInt
  obtain ⟨A, cap, rfl, hcap, hr⟩ := hv
  obtain ⟨er, her⟩ : ∃ er, txtOk l = er := ⟨_, rfl⟩
  rw [her]
  have HER := Lib.hid her
  have HR := Lib.hid hr
  have HI := Lib.hid hi
  clear hr hi her
  go_enter Tryd.func139, Tryd.ntmps139
  go_wp2
  go_loopg [5, 6] l.length (fun gk s5 s6 wr => ∃ (p : Nat) (pre : List Nat), p ≤ l.length ∧ pre.length ≤ p ∧ gk = l.length - p ∧ s6 = .int .i64 p ∧ Hid (txtOk l = txtOk (l.drop p)) ∧
    wr.ownsRow w.heap.size 3 1 s5 pre.length (intV (pre.map fun n : Nat => (n : Int))) ∧ Below w.heap.size w wr)
  case atStart => exact ⟨0, [], Nat.zero_le _, Nat.le_refl _, rfl, by go_num, Lib.hid (by rw [List.drop_zero]), World.ownsRow_nil _ _ _ _, Below.refl _ _⟩
  case round =>
    obtain ⟨p, pre, hp, hpp, hgk, rfl, HQ, hown, hbw⟩ := hrel
    have HG := Lib.hid hgk
    clear hgk
    by_cases hlt : p < l.length
    · obtain ⟨b, o, rfl, hb⟩ := HR.out.some_ (show 0 < l.length by omega)
      obtain ⟨c, n, hcm⟩ : ∃ c m, cpBegin (l.drop p) = (c, m) := ⟨_, _, rfl⟩
      have hne : l.drop p ≠ [] := by intro e; have h := congrArg List.length e; rw [List.length_drop] at h; simp at h; omega
      have hle := cpBegin_le4 (l.drop p)
      have hst := txtOk_step hne
      rw [hcm] at hle hst
      rw [List.length_drop] at hle
      have hpn : p + n ≤ l.length := by have := hle.1; simp only at this; omega
      rw [List.drop_drop] at hst
      have HST := Lib.hid hst
      have hB := rBegin_any (.slice (some ⟨b, o + p, none⟩) (l.length - p) (cap - p)) (l.drop p) wr (BS.dropN (n := 0) (HR.out.below hbw) hcap p hp) (by rw [List.length_drop]; omega)
      rw [hcm] at hB
      have HB := Lib.hid hB
      have hcapp : ¬ cap = p := by omega
      clear hB hcm hne hle hst
      by_cases hn0 : n = 0
      · subst hn0
        have hu : er = false := by rw [← HER.out, HQ.out, HST.out, if_pos rfl]
        subst hu
        go_wp2_with fail
        refine HB.out.mono ?_
        rintro e w1 ⟨rfl, hb1⟩
        go_wp2
        go_ret3
        exact ⟨⟨_, _, rfl⟩, hbw.trans (hb1.mono hbw.size)⟩
      · have hn1 : ((n : Int) == 0) = false := by simp; omega
        have HQ2 := Lib.hid (show txtOk l = txtOk (l.drop (p + n)) by rw [HQ.out, HST.out, if_neg hn0])
        go_wp2_with fail
        refine HB.out.mono ?_
        rintro e w1 ⟨rfl, hb1⟩
        have hown1 := own_below hown hb1
        go_wp2_with (at_builtin; refine wpList_append_own _ rfl _ _ 99 rfl w.heap.size 3 i0 (.int .i64 0) 1 8 Tryd.underlying99 HI.out hz0 hz1 hz2 rfl (by decide) _ _ _ rfl (hown1.alloc _) ⟨w1.heap.size, 0, none⟩ 1 1 [.int .i64 c] rfl rfl (cell_one_new _ _ _) (by simp [Value.oneCell']) (by unfold maxLen; omega) (by omega) (by have := hbw.size; have := hb1.size; simp; omega) ?_; intro v' w2 hown2 hgr2 _)
        go_roundg (l.length - (p + n))
        case measure => rw [HG.out]; omega
        case rel =>
          have s1 := hbw.size
          have s2 := hb1.size
          refine ⟨p + n, pre ++ [c], hpn, by rw [List.length_append, List.length_singleton]; omega, rfl, by go_num, HQ2, ?_, ?_⟩
          · rw [List.length_append, List.length_singleton]
            have e : intV ((pre ++ [c]).map fun n : Nat => (n : Int)) = intV (pre.map fun n : Nat => (n : Int)) ++ [.int .i64 c] := by simp [intV]
            rw [e]; exact hown2
          · refine ((hbw.trans (hb1.mono s1)).alloc (by omega) _).grown hgr2 (by simp; omega) (fun k e => ?_)
            exact (hown1.lt k e).1
    · obtain rfl : p = l.length := by omega
      have hu : er = true := by rw [← HER.out, HQ.out, List.drop_length]; rfl
      subst hu
      go_wp2
      go_ret3
      exact ⟨⟨_, _, rfl⟩, hbw⟩
set_option maxRecDepth 100000 in
set_option maxHeartbeats 4000000 in
theorem rValid_any (s : List UInt8) (w : World) (hl : s.length ≤ 4194304) : Calls Tryd.prog 122 #[.string ⟨s.toArray⟩] w fun e w' => e = .returned (.bool (txtOk s)) ∧ Below w.heap.size w w' := by
  obtain ⟨ba, hba⟩ : ∃ ba : ByteArray, (⟨s.toArray⟩ : ByteArray) = ba := ⟨_, rfl⟩
  have hsl : sl ba = s := by rw [← hba, sl_mk]
  rw [hba]
  obtain ⟨cap, W1, hcv, hcap, hb1, hs1, hr1⟩ := conv_bytes (P := Tryd.prog) w 9 22 5 ba Tryd.underlying9 Tryd.underlying22 Tryd.underlying5
  have hP := rPoints_any (.slice (some ⟨w.heap.size, 0, none⟩) ba.size cap) s W1 (by rw [← hsl]; exact ⟨_, _, by rw [sl_len], by rw [sl_len]; exact hcap, hr1⟩) hl
  have HP := Lib.hid hP
  have HB1 := Lib.hid hb1
  clear hP hr1 hsl hba hcap hb1 hl
  obtain ⟨er, her⟩ : ∃ er, txtOk s = er := ⟨_, rfl⟩
  rw [her] at HP ⊢
  clear her
  go_enter Tryd.func122, Tryd.ntmps122
  go_wp2_with fail
  refine HP.out.mono ?_
  rintro e w2 ⟨⟨u, p, rfl⟩, hb2⟩
  have HB2 := Lib.hid (HB1.out.trans (hb2.mono HB1.out.size))
  clear hb2
  go_wp2
  go_ret
  exact ⟨rfl, HB2.out⟩
end Go.Proofs.YtoejdhabpajhlaaDoor
