/- The walks of utf.Check on a text. -/
import Derived.Test.YtalhoacancbldaaDoorTextP
import Derived.Test.YtalhoacancbldaaDoorBytes
import Derived.Test.YtalhoacancbldaaDoorUtf2
namespace Go.Proofs.YtalhoacancbldaaDoor
set_option linter.unusedVariables false
set_option linter.unusedSimpArgs false
open Go.RowKit
attribute [local go_sem] run_index_arr run_part_agg run_part_one run_field_agg

set_option maxRecDepth 100000 in
set_option maxHeartbeats 4000000 in
theorem uCount_any (n p : Int) (w : World) (h0 : 0 ≤ n) (h1 : n ≤ 1048576) : Calls Tryd.prog 141 #[.int .i64 n, .int .i64 p] w fun e w' => e = .returned (.int .i64 (n + 1)) ∧ w = w' := by
  go_enter Tryd.func141, Tryd.ntmps141
  go_wp2
  go_ret
  exact ⟨rfl, rfl⟩
set_option maxRecDepth 100000 in
set_option maxHeartbeats 4000000 in
theorem uThrough_is (s : List UInt8) (w : World) (hG : GOK w) (h : IsText s) :
    Calls Tryd.prog 140 #[.string ⟨s.toArray⟩, .int .i64 0, .func (.func 141) #[] #[]] w fun e w' => (∃ n : Int, e = .returned (.tuple #[.int .i64 n, .int .i64 0, .int .i64 0])) ∧ Below w.heap.size w w' := by
  obtain ⟨cs, hcp, hs, hcl⟩ := h
  obtain ⟨ba, hba⟩ : ∃ ba : ByteArray, (⟨s.toArray⟩ : ByteArray) = ba := ⟨_, rfl⟩
  have hsl : sl ba = s := by rw [← hba, sl_mk]
  rw [hba]
  obtain ⟨cap, W1, hcv, hcap, hb1, hs1, hr1⟩ := conv_bytes (P := Tryd.prog) w 9 36 5 ba Tryd.underlying9 Tryd.underlying36 Tryd.underlying5
  obtain ⟨hl1, hl2⟩ := cps_len hcp
  rw [← hs] at hl1 hl2
  rw [hsl] at hr1
  have hsz : ba.size = s.length := by rw [← hsl, sl_len]
  rw [hsz] at hcv hcap
  have hl : s.length ≤ 1048576 := by omega
  have HS := Lib.hid hs
  have HCP := Lib.hid hcp
  have HR := Lib.hid hr1
  have HB1 := Lib.hid hb1
  have hlt1 : w.heap.size < W1.heap.size := by omega
  clear hs hcp hr1 hb1 hl1 hl2 hcl hsl hba hsz hs1
  have HGK := Lib.hid hG
  clear hG
  have HCN := Lib.hid (fun n p w h0 h1 => uCount_any n p w h0 h1)
  go_enter Tryd.func140, Tryd.ntmps140
  go_wp2
  go_loopg [1, 10] s.length (fun gk s1 s10 wr => ∃ (p n : Nat) (suf : List Nat), p ≤ s.length ∧ n ≤ p ∧ gk = s.length - p ∧ s1 = .int .i64 n ∧ s10 = .int .i64 p ∧ Hid (s.drop p = suf.flatMap cpBytes) ∧ Hid (∀ c ∈ suf, isCp (c : Int) = true) ∧ Hid (Below W1.heap.size W1 wr))
  case atStart => exact ⟨0, 0, cs, Nat.zero_le _, Nat.le_refl _, rfl, by go_num, by go_num, Lib.hid (by rw [List.drop_zero, HS.out]), HCP, Lib.hid (Below.refl _ _)⟩
  case round =>
    obtain ⟨p, n, suf, hp, hnp, hgk, rfl, rfl, HD, HQ, HW⟩ := hrel
    have HG := Lib.hid hgk
    clear hgk
    by_cases hlt : p < s.length
    · cases suf with
      | nil => have h := congrArg List.length HD.out; rw [List.length_drop] at h; simp at h; omega
      | cons c suf =>
        have hc := HQ.out c List.mem_cons_self
        have hd := HD.out
        rw [List.flatMap_cons] at hd
        obtain ⟨k1, k2, k3⟩ := cpBegin_bytes c (suf.flatMap cpBytes) hc
        rw [← hd] at k1
        obtain ⟨m, hm⟩ : ∃ m, (cpBytes c).length = m := ⟨_, rfl⟩
        rw [hm] at k1 k2 k3
        have hpn : p + m ≤ s.length := by have h := congrArg List.length hd; rw [List.length_drop, List.length_append, hm] at h; omega
        have HD2 := Lib.hid (show s.drop (p + m) = suf.flatMap cpBytes by rw [← List.drop_drop, hd, ← hm, List.drop_left])
        have HQ2 := Lib.hid (fun x hx => HQ.out x (List.mem_cons_of_mem c hx))
        have hW := HB1.out.trans (HW.out.mono HB1.out.size)
        have hcell : ∀ i x, (s.drop p)[i]? = some x → wr.cell? ⟨w.heap.size, p + i, none⟩ = some (.int .u8 x.toNat) := fun i x hx => by
          rw [List.getElem?_drop] at hx
          have h := BS.at_ (n := 0) (cap := 0) (HR.out.below HW.out) hx
          rwa [Nat.zero_add] at h
        have hNX := next_any w.heap.size p (cap - p) (s.drop p) wr (by intro e; have h := congrArg List.length e; rw [List.length_drop] at h; simp at h; omega) (HGK.out.keep hW) (by have := HW.out.size; omega) hcell (by rw [List.length_drop]; omega) (by rw [List.length_drop]; omega)
        rw [k1, List.length_drop] at hNX
        have HNX := Lib.hid hNX
        have hm0 : ((m : Int) == 0) = false := by simp; omega
        have hcapp : ¬ cap = p := by omega
        clear hNX hcell hW k1 hd hc hm HQ HD
        go_wp2_with fail
        refine HNX.out.mono ?_
        rintro e w1 ⟨rfl, hb2⟩
        have HW2 := Lib.hid (HW.out.trans (hb2.mono HW.out.size))
        clear hb2
        go_wp2_with fail
        refine (HCN.out n c _ (by omega) (by omega)).mono ?_
        rintro e w2 ⟨rfl, rfl⟩
        go_wp2
        go_roundg (s.length - (p + m))
        case measure => rw [HG.out]; omega
        case rel => exact ⟨p + m, n + 1, suf, hpn, by omega, rfl, by go_num, by go_num, HD2, HQ2, HW2⟩
    · go_wp2
      go_ret3
      exact ⟨⟨_, rfl⟩, HB1.out.trans (HW.out.mono HB1.out.size)⟩
set_option maxRecDepth 100000 in
set_option maxHeartbeats 4000000 in
theorem uCheck_is (s : List UInt8) (w : World) (hG : GOK w) (h : IsText s) : Calls Tryd.prog 127 #[.string ⟨s.toArray⟩] w fun e w' => e = .returned (.tuple #[.int .i64 0, .int .i64 0]) ∧ Below w.heap.size w w' := by
  have HT := Lib.hid (uThrough_is s w hG h)
  clear h hG
  go_enter Tryd.func127, Tryd.ntmps127
  go_wp2_with fail
  refine HT.out.mono ?_
  rintro e w1 ⟨⟨n, rfl⟩, hb⟩
  have HB := Lib.hid hb
  clear hb
  go_wp2
  go_ret2
  exact ⟨rfl, HB.out⟩
end Go.Proofs.YtalhoacancbldaaDoor
